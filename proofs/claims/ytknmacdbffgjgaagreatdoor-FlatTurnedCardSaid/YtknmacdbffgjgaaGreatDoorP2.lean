/-
  Types of generic classes as plain data: equal types,depth,parts,formals replaced. No program in sight.
-/
import Derived.Test.YtknmacdbffgjgaaGreatDoorP1
import Derived.Deep.DeepAppendWide
import Derived.LaidEqlPtr
import Derived.Laws.CopyRow
import Derived.Scope
import Derived.ProofKit
import Derived.OpenShut
import Derived.Test.YtknmacdbffgjgaaGreatDoorRows
set_option linter.unusedVariables false
set_option linter.unusedSimpArgs false
set_option maxRecDepth 100000
set_option maxHeartbeats 16000000
namespace Go.Ck
open Go Go.RowKit

def Inf (P:Program) (E:TypeId) (z:Value) (sz bytes:Nat):Prop:=(P.info? E).map (λi=>(i.zero,i.size,i.bytes))=some (some z,sz,bytes)
theorem Inf.parts {P:Program} {E:TypeId} {z:Value} {sz bytes:Nat} (h:Inf P E z sz bytes):∃ i,P.info? E=some i/\i.zero=some z/\i.size=sz/\i.bytes=bytes:=by
 unfold Inf at h
 cases hi:P.info? E with
 | none=>rw [hi] at h; cases h
 | some i=>rw [hi] at h; simp at h; exact ⟨i,rfl,h.1,h.2.1,h.2.2⟩
theorem Inf.sz {P:Program} {E:TypeId} {z:Value} {sz bytes:Nat} (h:Inf P E z sz bytes):Sz P E sz:=by
 obtain ⟨i,hi,_,hs,_⟩:=h.parts
 exact Sz.of hi hs

def ints (l:List Int):List Value:=l.map (Value.int .i64)
def bools (l:List Bool):List Value:=l.map Value.bool
theorem F4 (l:List Int):(ints l).length=l.length:=by simp [ints]
theorem En (l:List Bool):(bools l).length=l.length:=by simp [bools]
theorem yG {P:Program} (w:World) (t e:TypeId) (len:Nat) (parts:Array (Nat×Value)) (cells:Array Value) (ie:TypeInfo) (z:Value)
  (hu:P.underlying t=some (.slice e)) (hie:P.info? e=some ie) (hz:ie.zero=some z) (hsmall:¬ len * ie.size>2 ^ 24) (hpos:¬ len * ie.size=0)
  (h:Instr.fill (λi=>some (i * ie.size,ie.size)) ((Array.range (len * ie.size)).map (z.cells[· % z.cells.size]!)) parts.toList=some cells) :
  (Instr.buildSlice t len parts).run P w = .ok (.slice (some ⟨w.heap.size,0,none⟩) len len) (w.alloc<|.cells cells e):=by
 simp [Instr.buildSlice,run_underlying hu,sizeOf,typeInfo,zeroValue,hie,hz,hsmall,hpos,h,newRow]

section
variable {c:Cx} {ops:Array Oper} {K:Act->World->Prop} {rest:List Oper} {e:Env} {h h' hr:SH}

theorem ak {d : Nat} {T E ty : TypeId} {len : Nat} {parts : Array (Nat × Operand)} {pos : String} {after : Array Edge} {z : Value} {sz bytes : Nat} {vs : List Value} {cells : List Value}
  (hvs:parts.toList.mapM (λp=>e.ev? p.2)=some vs) (hT:c.P.underlying T=some (.slice E)) (hE:Inf c.P E z sz bytes) (hs1:Nat.ble (len * sz) 16777216=true) (hs2:Nat.beq (len * sz) 0=false)
  (hf:Instr.fill (λi=>some (i * sz,sz)) ((Array.range (len * sz)).map (z.cells[· % z.cells.size]!)) ((parts.toList.map (·.1)).zip vs)=some cells.toArray) (hd:d<c.n)
  (hnx:∀ b,St c ops K rest ((d,.slice (some ⟨b,0,none⟩) len len)::e) (pt b (cl cells E)::h)) :
  St c ops K (⟨some d,.buildSlice T len parts,ty,pos,after,none⟩::rest) e h :=
 eD (by simp) λa w hk hh hs => by
  obtain ⟨ie,h1,h2,h3,h4⟩:=hE.parts
  have hmap:∀ (l:List (Nat×Operand)) (vs:List Value),l.mapM (λp=>e.ev? p.2)=some vs->(l.map λp=>(p.1,a.eval p.2))=(l.map (·.1)).zip vs:=by
   intro l
   induction l with
   | nil=>intro vs hv; simp at hv; subst hv; rfl
   | cons p t ih =>
    intro vs hv
    simp only [List.mapM_cons,Option.bind_eq_bind,Option.bind_eq_some_iff,Option.pure_def,Option.some.injEq] at hv
    obtain ⟨u,hu,us,hus,rfl⟩:=hv
    simp [hk.ev hu,ih us hus]
  have hpl:(parts.map λ(i,x)=>(i,a.eval x)).toList=(parts.toList.map (·.1)).zip vs:=by
   rw [<- hmap parts.toList vs hvs]; simp
  have:=yG (P:=c.P) w T E len (parts.map λ(i,x)=>(i,a.eval x)) cells.toArray ie z hT h1 h2 (by rw [h3]; have:=Nat.le_of_ble_eq_true hs1; omega)
   (by rw [h3]; intro h0; rw [h0] at hs2; cases hs2) (by rw [h3,hpl]; exact hf)
  simp only [execOp,Sem.run_bind,this,Result.andThen_ok,Sem.run_pure]
  exact hnx _ _ _ (hk.put _ hd) (Holds.alloc hh _)<|hs.trans (Grew.alloc _ _ rfl).toSame

/-! ## A row that grows -/
def vec (v:Value) (E:TypeId) (sz n:Nat) (l:List Value):Res where
 dom b:=∃ m cp,v = .slice (some ⟨b,0,none⟩) m cp
 ok f:=l.length=n * sz/\((v = .slice none 0 0/\n=0)\/∃ b cp j,v = .slice (some ⟨b,0,none⟩) n cp/\f b=some (cl (l++j) E)/\n<=cp/\cp<=maxLen/\(l++j).length=cp * sz)
 loc f g he:=λ⟨h1,h2⟩=>⟨h1,h2.imp id λ⟨b,cp,j,hv,hb,hr⟩=>⟨b,cp,j,hv,by rw [<- he b ⟨n,cp,hv⟩]; exact hb,hr⟩⟩
 pres f:=λ⟨_,h2⟩ b ⟨m,cp,hv⟩=>by
  rcases h2 with ⟨h3,_⟩ | ⟨b',cp',j,h3,hb,_⟩
  .rw [h3] at hv; cases hv
  .rw [h3] at hv; cases hv; rw [hb]; rfl
end

section
variable {P:Program} {e:Env} {h h':SH} {ty:TypeId}
def PtT (P:Program) (T E:TypeId):Prop:=P.underlying T=some (.pointer E)
theorem dA {T E t':TypeId} {x y:Operand} {a:Option Addr} {n cp:Nat} (hx:e.ev? x=some (.slice a n cp)) (hy:e.ev? y=some (.slice none 0 0)) (hT:P.underlying T=some (.slice E)):Vop P e h (.binOp .eql T x y t') ty (.bool a.isNone):=
 ⟨by simp,by simp,λρ w d pos after g hρ _=>by
  have hq:∀ k,(Op.equalIn (k+1) T (.slice a n cp)<|.slice none 0 0).run P w = .ok a.isNone w:=λk=>by cases a <;> simp [Op.equalIn,run_underlying hT]
  simp [execOp,hρ x _ hx,hρ y _ hy,eqGuard_at_slice,binOp,Op.equal,Op.maxDepth,hq 9999]⟩
theorem yH {T E t':TypeId} {x y:Operand} {a:Option Addr} {n cp:Nat} (hx:e.ev? x=some (.slice a n cp)) (hy:e.ev? y=some (.slice none 0 0)) (hT:P.underlying T=some (.slice E)):Vop P e h (.binOp .neq T x y t') ty (.bool (!a.isNone)):=
 ⟨by simp,by simp,λρ w d pos after g hρ _=>by
  have hq:∀ k,(Op.equalIn (k+1) T (.slice a n cp)<|.slice none 0 0).run P w = .ok a.isNone w:=λk=>by cases a <;> simp [Op.equalIn,run_underlying hT]
  simp [execOp,hρ x _ hx,hρ y _ hy,eqGuard_at_slice,binOp,Op.equal,Op.maxDepth,hq 9999]⟩
end

/-! ## A part of a row is written -/
theorem Holds.setRow {w:World} {b:Nat} {l:List Value} {T:TypeId} {k:SH} (hh:Holds w (pt b (cl l T)::k)) (l':List Value):Holds (w.setRow b l'.toArray) (pt b (cl l' T)::k):=
 Holds.modify hh (setRow_heap w b l.toArray l'.toArray T (0,0) hh.1) λ_ hc=>setRow_other w b _ _ hc
theorem Same.setRow (w:World) (b:Nat) (cs:Array Value) {l:List Value} {T:TypeId} (hb:w.heap[b]? = some (cl l T)):Same w (w.setRow b cs):=⟨rfl,rfl,rfl,Nat.le_refl _,by simp,pJ (b:=b) (λo ho=>by rw [hb] at ho; cases ho; rfl) (λo ho=>by rw [setRow_heap w b l.toArray cs T (0,0) hb] at ho; cases ho; rfl) λc hc=>setRow_other w b c _ hc⟩
def splice (l:List Value) (o:Nat) (vs:List Value):List Value:=l.take o++vs++l.drop (o+vs.length)

section
variable {c:Cx} {ops:Array Oper} {K:Act->World->Prop} {rest:List Oper} {e:Env} {h h' hr:SH}
end

/-! ## Maps from numbers -/
def nL (m:List (Int×Value)):List (Value×Value):=m.map λp=>(.int .i64 p.1,p.2)
def tC (m:List (Int×Value)) (k:Int):Option Value:=(m.find? (·.1 == k)).map (·.2)
def oG:List (Int×Value)->Int->Value->List (Int×Value)
 | [],k,v=>[(k,v)]
 | p::t,k,v=>if p.1=k then (k,v)::t else p::oG t k v
def Brn (es:Array MapEntry) (ck:Nat) (m:List (Int×Value)):Prop:=(∀ x∈es.toList,x.born<ck)/\(es.toList.map (·.born)).Nodup/\(m.map (·.1)).Nodup
def mpr (b:Nat) (m:List (Int×Value)):Res where
 dom:=(· = b)
 ok f:=∃ es ck,f b=some (.map es ck)/\es.toList.map (λx=>(x.key,x.val))=nL m/\Brn es ck m
 loc f g he:=λ⟨es,ck,h1,h2⟩=>⟨es,ck,by rw [<- he b rfl]; exact h1,h2⟩
 pres f:=λ⟨es,ck,h1,_⟩ b' hb=>by rw [hb,h1]; rfl

def dF (m:List (Int×Value)) (k:Int):Option (Nat×Value):=(m.findIdx? (·.1 == k)).bind λj=>(tC m k).map λv=>(j,v)
theorem uZ (k : Int) : ∀ (es : List MapEntry) (m : List (Int × Value)) (i : Nat), es.map (λx => (x.key, x.val)) = nL m ->
  Instr.findNow (.int .i64) (.int .i64 k) es i=some ((dF m k).map λp=>(i+p.1,p.2))
 | [],m,i,h=>by
  have:m=[]:=by cases m with | nil=>rfl | cons _ _=>simp [nL] at h
  subst this; simp [Instr.findNow,dF]
 | x :: es, m, i, h => by
  cases m with
  | nil=>simp [nL] at h
  | cons p t =>
   simp only [List.map_cons,nL,List.cons.injEq,Prod.mk.injEq] at h
   obtain ⟨⟨h1,h2⟩,h3⟩:=h
   unfold Instr.findNow
   rw [h1]
   by_cases hp:p.1=k
   .simp [Instr.sameNow,hp,tC,List.findIdx?_cons,h2,dF]
   .have hpk:(k == p.1)=false:=by simp; exact λe=>hp e.symm
    have hpk':(p.1 == k)=false:=by simp [hp]
    have ih:=uZ k es t (i+1) h3
    simp only [Instr.sameNow,if_true,hpk]
    rw [ih]
    simp only [dF,List.findIdx?_cons,hpk',Bool.false_eq_true,if_false,tC,List.find?_cons,Option.some.injEq]
    cases t.findIdx? (·.1 == k) with
    | none=>rfl
    | some j=>simp only [Option.map_some,Option.bind_some]; cases h:(List.find? (·.1 == k) t) <;> simp [Nat.add_assoc,Nat.add_comm 1 j]

theorem tF {m:List (Int×Value)} {k:Int}:(m.findIdx? (·.1 == k)=none↔tC m k=none):=by
 simp [tC,List.findIdx?_eq_none_iff,List.find?_eq_none]
theorem xS (k : Int) (v : Value) : ∀ (es : List MapEntry) (m : List (Int × Value)) (i : Nat), es.map (λx => (x.key, x.val)) = nL m -> m.findIdx? (·.1 == k) = some i ->
  (es.modify i<|λx=>{ x with key:=.int .i64 k,val:=v }).map (λx=>(x.key,x.val))=nL (oG m k v)
 | [],m,i,h,hi=>by
  have:m=[]:=by cases m with | nil=>rfl | cons _ _=>simp [nL] at h
  subst this; simp at hi
 | x :: es, m, i, h, hi => by
  cases m with
  | nil=>simp at hi
  | cons p t =>
   simp only [List.map_cons,nL,List.cons.injEq,Prod.mk.injEq] at h
   obtain ⟨⟨h1,h2⟩,h3⟩:=h
   by_cases hp:p.1=k
   .simp [List.findIdx?_cons,hp] at hi
    subst hi
    simp [oG,hp,nL,h3,List.modify]
   .have hpk':(p.1 == k)=false:=by simp [hp]
    simp only [List.findIdx?_cons,hpk',Bool.false_eq_true,if_false,Option.map_eq_some_iff] at hi
    obtain ⟨j,hj,rfl⟩:=hi
    have ih:=xS k v es t j h3 hj
    simp only [List.modify_succ_cons,List.map_cons,ih,oG,hp,if_false,nL,h1,h2]

theorem mX (f:MapEntry->MapEntry):∀ (l:List MapEntry) (j:Nat),(∀ x,(f x).born=x.born)->(l.modify j f).map (·.born)=l.map (·.born)
 | [],_,_=>by simp
 | x::t,0,h=>by simp [List.modify,h]
 | x::t,j+1,h=>by simp only [List.modify_succ_cons,List.map_cons,mX f t j h]
theorem C8 : ∀ (m : List (Int × Value)) (k : Int) (v : Value) (x : Int), x ∈ (oG m k v).map (·.1) -> x = k \/ x ∈ m.map (·.1)
 | [],k,v,x,h=>by simp [oG] at h; exact .inl h
 | p::t,k,v,x,h=>by
  unfold oG at h
  split at h
  .simp only [List.map_cons,List.mem_cons] at h ⊢
   exact h.imp id .inr
  .simp only [List.map_cons,List.mem_cons] at h ⊢
   rcases h with h | h
   .exact .inr<|.inl h
   .exact (C8 t k v x h).imp id .inr
theorem zS : ∀ (m : List (Int × Value)) (k : Int) (v : Value), (m.map (·.1)).Nodup -> ((oG m k v).map (·.1)).Nodup
 | [],k,v,_=>by simp [oG]
 | p::t,k,v,h=>by
  rw [List.map_cons,List.nodup_cons] at h
  unfold oG
  split
  .rename_i hp
   rw [List.map_cons,List.nodup_cons]
   exact ⟨by rw [<- hp]; exact h.1,h.2⟩
  .rename_i hp
   rw [List.map_cons,List.nodup_cons]
   exact ⟨λhm=>(C8 t k v _ hm).elim hp h.1,zS t k v h.2⟩
def MpT (P:Program) (T K E:TypeId):Prop:=P.underlying T=some (.map K E)/\P.underlying K=some (.int .i64)

section
variable {P:Program} {e:Env} {h h':SH} {ty:TypeId}
theorem run_findKey {K:TypeId} (hK:P.underlying K=some (.int .i64)) {es:Array MapEntry} {m:List (Int×Value)} (hm:es.toList.map (λx=>(x.key,x.val))=nL m) (k:Int) (w:World) :
  (Instr.findKey K (.int .i64 k) es.toList).run P w = .ok (dF m k) w:=by
 unfold Instr.findKey
 simp only [Sem.run_bind,run_underlying hK,Result.andThen_ok,uZ k es.toList m 0 hm,Sem.run_pure,Nat.zero_add]
 congr 1
 cases dF m k <;> rfl
theorem run_checkKey {K:TypeId} (hK:P.underlying K=some (.int .i64)) (b:Bool) (n:Nat) (k:Int) (w:World):(Instr.checkKey b (n+1) K (.int .i64 k)).run P w = .ok () w:=by
 unfold Instr.checkKey
 simp only [Sem.run_bind,run_underlying hK,Result.andThen_ok,Sem.run_pure]
theorem run_getObj_map {w:World} {b:Nat} {es:Array MapEntry} {ck:Nat} (hb:w.heap[b]? = some (.map es ck)):(getObj b).run P w = .ok (.map es ck) w:=by simp [getObj,Sem.run,hb]
end

section
variable {c:Cx} {ops:Array Oper} {K:Act->World->Prop} {rest:List Oper} {e:Env} {h h' hr:SH}
theorem dZ (w:World) (b k:Nat) (o:Obj) (hk:k≠b):({ w with heap:=w.heap.setIfInBounds b o }:World).heap[k]? = w.heap[k]? := by
 simp [Array.getElem?_setIfInBounds_ne (Ne.symm hk)]
theorem Eo {T K' E ty : TypeId} {x y v : Operand} {pos : String} {after : Array Edge} {b : Nat} {m : List (Int × Value)} {k : Int} {u : Value} (hx : e.ev? x = some (.map (some b))) (hy : e.ev? y = some (.int .i64 k)) (hv : e.ev? v = some u)
  (hT:MpT c.P T K' E) (hs:Sel h (mpr b m) h') (hnx:St c ops K rest e (mpr b (oG m k u)::h')) :
  St c ops K (⟨none,.mapUpdate T x y v,ty,pos,after,none⟩::rest) e h :=
 eD (by simp) λa w hk hh hw => by
  have hh':=hh.sel hs
  obtain ⟨es,ck,h1,h2,b1,b2,b3⟩:=hh'.1
  have hnd:=zS m k u b3
  have h1':w.heap[b]? = some (.map es ck):=h1
  have hlt:b<w.heap.size:=(Array.getElem?_eq_some_iff.1 h1').1
  have hg:(getObj b).run c.P w = .ok (.map es ck) w:=run_getObj_map h1
  have hset:∀ o,(setObj b o).run c.P w = .ok () { w with heap:=w.heap.setIfInBounds b o }:=λo=>by simp [setObj,Sem.run,h1']
  have hnew:∀ es' ck',es'.toList.map (λx=>(x.key,x.val))=nL (oG m k u)->(∀ x∈es'.toList,x.born<ck')->(es'.toList.map (·.born)).Nodup->Holds { w with heap:=w.heap.setIfInBounds b (.map es' ck') } (mpr b (oG m k u)::h'):=λes' ck' he hb1 hb2=>by
   refine ⟨⟨es',ck',?_,he,hb1,hb2,hnd⟩,hh'.2.1,bn.loc hh'.2.2 λc hc=>?_⟩
   .show (w.heap.setIfInBounds b _)[b]? = _
    simp [hlt]
   .exact (dZ w b c _<|λe=>hh'.2.1 b rfl (e ▸ hc)).symm
  have hsame:∀ es' ck',Same w { w with heap:=w.heap.setIfInBounds b (.map es' ck') }:=λes' ck'=>⟨rfl,rfl,rfl,Nat.le_refl _,by simp,pJ (b:=b) (λo ho=>by rw [h1'] at ho; cases ho; rfl) (λo ho=>by
   have:(w.heap.setIfInBounds b<|.map es' ck')[b]? = some o:=ho
   simp [hlt] at this; rw [<- this]; rfl) λc hc=>dZ w b c _ hc⟩
  have hrun : ∃ w', (Instr.mapUpdate T (.map<|some b) (.int .i64 k) u).run c.P w = .ok () w' /\ Holds w' (mpr b (oG m k u) :: h') /\ Same w w' := by
   unfold Instr.mapUpdate
   simp only [Sem.run_bind,run_underlying hT.1,Result.andThen_ok,hg,run_checkKey hT.2,run_findKey hT.2 h2]
   cases hi:m.findIdx? (·.1 == k) with
   | none =>
    have hl:=tF.1 hi
    have hf:dF m k=none:=by simp [dF,hi]
    simp only [hf,hset]
    refine ⟨_,rfl,hnew _ _ ?_ ?_ ?_,hsame _ _⟩
    rotate_left
    .intro x hx
     simp only [Array.toList_push,List.mem_append,List.mem_singleton] at hx
     rcases hx with hx | rfl
     .have:=b1 x hx; omega
     .exact Nat.lt_succ_self _
    .simp only [Array.toList_push,List.map_append,List.map_cons,List.map_nil]
     refine List.nodup_append.2 ⟨b2,by simp,λx hx y hy e=>?_⟩
     obtain ⟨z,hz,rfl⟩:=List.mem_map.1 hx
     have:=b1 z hz
     simp at hy
     omega
    have hup : oG m k u = m ++ [(k, u)] := by
     have:∀ (m:List (Int×Value)),tC m k=none->oG m k u=m++[(k,u)]:=by
      intro m
      induction m with
      | nil=>intro _; rfl
      | cons p t ih =>
       intro hm
       have hp:¬ p.1=k:=λe=>by simp [tC,e] at hm
       have hpk:(p.1 == k)=false:=by simp [hp]
       have ht:tC t k=none:=by simpa [tC,List.find?_cons,hpk] using hm
       simp [oG,hp,ih ht]
     exact this m hl
    rw [hup]
    simp only [Array.toList_push,List.map_append,List.map_cons,List.map_nil,h2,nL]
   | some j =>
    cases hl:tC m k with
    | none=>rw [tF.2 hl] at hi; cases hi
    | some v0 =>
     have hkey:((es[j]?).map (·.key)).getD (.int .i64 k) = .int .i64 k:=by
      cases hej:es[j]? with
      | none=>rfl
      | some x =>
       have h3:(es.toList.map<|λx=>(x.key,x.val))[j]? = some (x.key,x.val):=by simp [hej]
       rw [h2] at h3
       simp only [nL,List.getElem?_map,Option.map_eq_some_iff] at h3
       obtain ⟨p,hp,hpe⟩:=h3
       simp only [Prod.mk.injEq] at hpe
       have h4:=List.findIdx?_eq_some_iff_getElem.1 hi
       obtain ⟨hjl,h5,_⟩:=h4
       have:m[j]=p:=by rw [Zy hjl] at hp; exact Option.some.inj hp
       rw [this] at h5
       simp only [beq_iff_eq] at h5
       simp [<- hpe.1,h5]
     have hf:dF m k=some (j,v0):=by simp [dF,hi,hl]
     simp only [hf,hkey]
     have hstay:(Instr.keyThatStays (.int .i64 k)<|.int .i64 k).run c.P w = .ok (.int .i64 k) w:=by
      unfold Instr.keyThatStays
      rw [if_pos (by unfold Instr.sameBits; simp)]
      rfl
     simp only [Sem.run_bind,hstay,Result.andThen_ok,hset]
     have hmb:(es.toList.modify j<|λx=>{ x with key:=.int .i64 k,val:=u }).map (·.born)=es.toList.map (·.born):=mX _ _ _<|λ_=>rfl
     refine ⟨_,rfl,hnew _ _ ?_ ?_ ?_,hsame _ _⟩
     rotate_left
     .intro x hx
      rw [Array.toList_modify] at hx
      have hx':x.born∈(es.toList.modify j<|λx=>{ x with key:=.int .i64 k,val:=u }).map (·.born):=List.mem_map.2 ⟨x,hx,rfl⟩
      rw [hmb] at hx'
      obtain ⟨z,hz,he⟩:=List.mem_map.1 hx'
      have:=b1 z hz
      omega
     .rw [Array.toList_modify,hmb]; exact b2
     have:=xS k u es.toList m j h2 hi
     simpa using this
  obtain ⟨w',hr,hH,hS⟩:=hrun
  simp only [execOp,hk.ev hx,hk.ev hy,hk.ev hv,Sem.run_bind,hr,Result.andThen_ok,Sem.run_pure]
  exact hnx _ _ hk hH<|hw.trans hS
theorem IP {d:Nat} {T ty:TypeId} {pos:String} {after:Array Edge} (hd:d<c.n) (hnx:∀ b,St c ops K rest ((d,.map (some b))::e) (mpr b []::h)) :
  St c ops K (⟨some d,.makeMap T none,ty,pos,after,none⟩::rest) e h :=
 eD (by simp) λa w hk hh hw=>by
  simp only [execOp,Instr.makeMap,Option.map_none,Sem.run_bind,run_newObj_alloc,Result.andThen_ok,Sem.run_pure]
  have hA:=Holds.alloc hh (.map #[] 0)
  exact hnx _ _ _ (hk.put _ hd) ⟨⟨#[],0,hA.1,rfl,λx hx=>by simp at hx,List.nodup_nil,List.nodup_nil⟩,hA.2.1,hA.2.2⟩<|hw.trans (Grew.alloc _ _ rfl).toSame
end

section
variable {P:Program} {e:Env} {h h':SH} {ty:TypeId}
theorem aP {T : TypeId} {parts : Array (Nat × Operand)} {vs cells : List Value} (hvs : parts.toList.mapM (λp => e.ev? p.2) = some vs)
  (hb:∀ w,(Instr.build T ((parts.toList.map (·.1)).zip vs).toArray).run P w = .ok (.agg cells.toArray) w):Vop P e h (.build T parts) ty (.agg cells.toArray):=
 ⟨by simp, by simp, λρ w d pos after g hρ _ => by
  have hmap:∀ (l:List (Nat×Operand)) (vs:List Value),l.mapM (λp=>e.ev? p.2)=some vs->(l.map λp=>(p.1,ρ p.2))=(l.map (·.1)).zip vs:=by
   intro l
   induction l with
   | nil=>intro vs hv; simp at hv; subst hv; rfl
   | cons p t ih =>
    intro vs hv
    simp only [List.mapM_cons,Option.bind_eq_bind,Option.bind_eq_some_iff,Option.pure_def,Option.some.injEq] at hv
    obtain ⟨u,hu,us,hus,rfl⟩:=hv
    simp [hρ _ u hu,ih us hus]
  have hpl:(parts.map λ(i,x)=>(i,ρ x))=((parts.toList.map (·.1)).zip vs).toArray:=by
   rw [<- hmap parts.toList vs hvs]
   apply Array.toList_inj.1; simp
  simp only [execOp,hpl,Sem.run_bind,hb w,Result.andThen_ok,Sem.run_pure]⟩
end

/-! ## Guards: what is walked in two ways, and joined -/
def zT (e' e:Env):Prop:=∀ i v,e'.get? i=some v->e.get? i=some v
theorem uR {e:Env}:zT e e:=λ_ _ h=>h
theorem uH {e e':Env} {d:Nat} {u v:Value} (hv:u=v) (h:zT e e'):zT ((d,u)::e) ((d,v)::e'):=λi x hx=>by
 subst hv
 by_cases hd:d=i
 .subst hd; simpa [Env.get?] using hx
 .simp only [Env.get?,zM hd,cond_false] at hx ⊢; exact h i x hx
theorem uS {e e':Env} {d:Nat} {v:Value} (hn:e.get? d=none) (h:zT e e'):zT e ((d,v)::e'):=λi x hx=>by
 by_cases hd:d=i
 .subst hd; rw [hn] at hx; cases hx
 .simp only [Env.get?,zM hd,cond_false]; exact h i x hx
theorem Kn.ssub {n:Nat} {ds:List Deferred} {a:Act} {e e':Env} (h:Kn n ds a e) (hs:zT e' e):Kn n ds a e':=⟨h.size,h.defers,λi v hi=>h.get i v<|hs i v hi⟩
theorem aM {p:Prop} {b:Bool} (want:Bool) (h1:b = !want->p) (h2:b=want->p):p:=by
 cases b <;> cases want <;> first | exact h1 rfl | exact h2 rfl
theorem bG {e:Env} {g:Nat} {b want:Bool} (hg:e.get? g=some (.bool b)) (h:b=want):e.get? g=some (.bool want):=h ▸ hg
theorem bO {e:Env} {g:Operand} {b want:Bool} (hg:e.ev? g=some (.bool b)) (h:b=want):e.ev? g=some (.bool want):=h ▸ hg
section
variable {c:Cx} {K:Act->World->Prop} {rest:List Oper} {e:Env} {h hC:SH} {pre:Nat->Bool}
theorem bH {l:List Oper} {k d:Nat} {v:Value} (h2:(∀ e2,zT ((d,v)::e) e2->St c l.toArray K (l.drop k) e2 h)->St c l.toArray K rest e h) (h1:St c l.toArray K (l.drop k) ((d,v)::e) h):St c l.toArray K rest e h :=
 h2 λ_ hs a w hk hh hw=>h1 a w (hk.ssub hs) hh hw
def Ord.drop:Nat->Ord->Ord
 | 0,t=>t
 | n+1,.cons _ t=>Ord.drop n t
 | n+1,.pure _ t=>Ord.drop n t
 | _,t=>t
theorem DrL.ssub {ops:Array Oper} {t:Ord} {e':Env} (hs:zT e' e) (hn:DrL c ops pre hC K t e' h):DrL c ops pre hC K t e h:=by
 cases t with
 | nil=>exact λa w hk hh hw=>hn a w (hk.ssub hs) hh hw
 | cons p t =>
  obtain ⟨i,b⟩:=p
  cases b with
  | true =>
   obtain ⟨h1,o,v,h2,h3,e2,h4,h5⟩:=hn
   exact ⟨h1,o,v,h2,λa hk=>h3 a (hk.ssub hs),e2,λa hk=>h4 a (hk.ssub hs),h5⟩
  | false =>
   obtain ⟨o,h1,h2,h3⟩:=hn
   exact ⟨o,h1,λa hk=>h2 a (hk.ssub hs),λa w hk hh hw=>h3 a w (hk.ssub hs) hh hw⟩
 | two i t j u =>
  obtain ⟨⟨o,h1,h2,h3⟩,⟨o',h4,h5,h6⟩⟩:=hn
  exact ⟨⟨o,h1,λa hk=>h2 a (hk.ssub hs),λa w hk hh hw=>h3 a w (hk.ssub hs) hh hw⟩,⟨o',h4,λa hk=>h5 a (hk.ssub hs),λa w hk hh hw=>h6 a w (hk.ssub hs) hh hw⟩⟩
 | three i t j u k v =>
  obtain ⟨⟨o,h1,h2,h3⟩,⟨o',h4,h5,h6⟩,⟨o'',h7,h8,h9⟩⟩:=hn
  exact ⟨⟨o,h1,λa hk=>h2 a (hk.ssub hs),λa w hk hh hw=>h3 a w (hk.ssub hs) hh hw⟩,⟨o',h4,λa hk=>h5 a (hk.ssub hs),λa w hk hh hw=>h6 a w (hk.ssub hs) hh hw⟩,⟨o'',h7,λa hk=>h8 a (hk.ssub hs),λa w hk hh hw=>h9 a w (hk.ssub hs) hh hw⟩⟩
 | pure i t =>
  obtain ⟨o,v,h2,h3,e2,h4,h5⟩:=hn
  exact ⟨o,v,h2,λa hk=>h3 a (hk.ssub hs),e2,λa hk=>h4 a (hk.ssub hs),h5⟩
theorem Ep {ops:Array Oper} {t:Ord} {k d:Nat} {v:Value} (h2:(∀ e2,zT ((d,v)::e) e2->DrL c ops pre hC K (t.drop k) e2 h)->DrL c ops pre hC K t e h) (h1:DrL c ops pre hC K (t.drop k) ((d,v)::e) h):DrL c ops pre hC K t e h :=
 h2 λ_ hs=>DrL.ssub hs h1
end
section
variable {P:Program} {e:Env} {h:SH} {ty:TypeId}
end
end Go.Ck
namespace Go.Ck
open Go

def Yc (P:Program) (l:Nat) (args:Array Value) (hf:SH) (R:Value->SH->Prop):Prop :=
 ∀ (hr:SH) (w:World),Holds w (hf++hr)->zO P (λv w'=>∃ h',R v h'/\Holds w' (h'++hr)/\Same w w') ((Instr.yield l args).run P w)
def RQ (w0:World) (hr:SH) (R:Value->SH->Prop) (e:Ending) (w:World):Prop:=∃ v,e = .returned v/\∃ h',R v h'/\Holds w (h'++hr)/\Same w0 w
def Mid (P:Program) (l:Nat) (body:Code) (Q:Exit->Act->World->Prop) (a:Act) (w:World):Prop:=∃ w',(Instr.beginRound l).run P w = .ok () w'/\body.wpIn (Fw<|some l) 0 P Q a w'

theorem Holds.putObj {w:World} {b:Nat} {o:Obj} {h:SH} (hh:Holds w (pt b o::h)) (o':Obj):Holds (w.putObj b o') (pt b o'::h):=by
 have hlt:b<w.heap.size:=Holds.lt hh<|.inl rfl
 exact Holds.modify hh (World.putObj_heap_same hlt) λc hc=>World.putObj_heap_other hc
theorem Same.putObj (w:World) (b:Nat) (o:Obj) {o':Obj} (hb:w.heap[b]? = some o') (h1:melt o'=true) (h2:melt o=true):Same w (w.putObj b o):=⟨rfl,rfl,rfl,Nat.le_refl _,by simp,pJ (b:=b) (λq hq=>by rw [hb] at hq; cases hq; exact h1)
 (λq hq=>by rw [World.putObj_heap_same (Array.getElem?_eq_some_iff.1 hb).1] at hq; cases hq; exact h2) λc hc=>World.putObj_heap_other hc⟩

def Env.params:List Nat->List Value->Env->Env
 | t::ts,v::vs,e=>Env.params ts vs ((t,v)::e)
 | _,_,e=>e
theorem Kn.params {n:Nat}:∀ (ps:List Nat) (vs:List Value) {tm:Array Value} {e:Env},Kn n [] { tmps:=tm,defers:=[] } e->(∀ p∈ps,p<n) ->
  Kn n [] { tmps:=(ps.zip vs).foldl (λtmps p=>tmps.setIfInBounds p.1 p.2) tm,defers:=[] } (Env.params ps vs e)
 | [],vs,tm,e,hk,_=>by simpa [Env.params] using hk
 | t::ts,[],tm,e,hk,_=>by simpa [Env.params] using hk
 | t::ts,v::vs,tm,e,hk,hn=>by
  have h1:=hk.put (d:=t) v<|hn t<|by simp
  simp only [Act.put] at h1
  have:=Kn.params ts vs h1<|λp hp=>hn p<|by simp [hp]
  simpa [Env.params] using this

theorem rz {P:Program} {l n:Nat} {rec:Loop} {args:List Value} {hf:SH} {R:Value->SH->Prop} {e:Env} (hsz:args.length=rec.params.size) (hk:Kn n [] { tmps:=rec.tmps,defers:=[] } e) (hps:∀ p∈rec.params.toList,p<n)
  (hc:∀ (hr:SH) (w0:World),Cd ⟨P,some l,n,[],w0⟩ rec.assign (Exit.then (Mid P l rec.body<|roundPost P l<|RQ w0 hr R)<|λ_ _ _=>False) (Env.params rec.params.toList args e) (pt l (.loop rec)::hf++hr)) :
  Yc P l args.toArray (pt l (.loop rec)::hf) R:=λhr w hh=>by
 have h1:w.heap[l]? = some (.loop rec):=hh.1
 rw [run_yield h1 Zh]
 have hk':=Kn.params rec.params.toList args hk hps
 have hfold:(rec.params.zip args.toArray).foldl (λtmps (t,a)=>tmps.setIfInBounds t a) rec.tmps=(rec.params.toList.zip args).foldl (λtmps p=>tmps.setIfInBounds p.1 p.2) rec.tmps:=by
  rw [<- Array.foldl_toList]; simp
 show RoundIn (Fw none) 0 P l rec.fn _ rec.assign rec.body w _
 refine roundIn_of_wpIn trivial ?_
 rw [hfold]
 exact hc hr w _ w hk' hh<|Same.refl w

section
variable {c:Cx} {Q:Exit->Act->World->Prop} {e:Env} {h h' h'':SH} {l:Nat} {rec:Loop}
theorem lW {body:Code} {F:Exit->Act->World->Prop} (hr:c.r=some l) (s:Sel h (pt l (.loop rec)) h') (hst:rec.state = .ready) (hb:Cd c body Q e (pt l (.loop { rec with state:=.busy })::h')) :
  Xt c .normal (Exit.then (Mid c.P l body Q) F) e h:=λa w hk hh hw=>by
 have hh':=hh.sel s
 refine ⟨_,run_beginRound hh'.1 hst,?_⟩
 have:=hb a _ hk (Holds.putObj hh' _)<|hw.trans<|Same.putObj w l _ hh'.1 rfl rfl
 rw [hr] at this
 exact this
theorem dI {P:Program} {r:Option Nat} {n:Nat} {w0:World} {hr:SH} {R:Value->SH->Prop} (s:Sel h (pt l (.loop rec)) h') (hR:R (.bool true) h'') (hp:Sub (h''++hr) (pt l (.loop { rec with state:=.ready,pending:=none })::h')) :
  Xt ⟨P,r,n,[],w0⟩ .normal (roundPost P l<|RQ w0 hr R) e h:=λa w hk hh hw=>by
 have hh':=hh.sel s
 exact ⟨_,_,run_endRound none hh'.1,_,rfl,h'',hR,(Holds.putObj hh' _).sub hp,hw.trans<|Same.putObj w l _ hh'.1 rfl rfl⟩
theorem lu {P:Program} {r:Option Nat} {n:Nat} {w0:World} {hr:SH} {R:Value->SH->Prop} (s:Sel h (pt l (.loop rec)) h') (hR:R (.bool false) h'') (hp:Sub (h''++hr) (pt l (.loop { rec with state:=.done,pending:=some .ret })::h')) :
  Xt ⟨P,r,n,[],w0⟩ .ret (roundPost P l<|RQ w0 hr R) e h:=λa w hk hh hw=>by
 have hh':=hh.sel s
 exact ⟨_,_,run_endRound (some .ret) hh'.1,_,rfl,h'',hR,(Holds.putObj hh' _).sub hp,hw.trans<|Same.putObj w l _ hh'.1 rfl rfl⟩
end

def mk (b:Nat):Deferred:={ target:=.collected b,args := #[] }
def marks (bs:List Nat):SH:=bs.map λb=>pt b<|.deferred<|some []
def rA (fn:FuncId) (tm:Array Value) (ps:Array Tmp) (assign body:Code) (db:Nat):Loop:=⟨.ready,none,fn,tm,ps,assign,body,db⟩
theorem NC {P : Program} {n : Nat} {ds : List Deferred} {w0 : World} {Q : Exit -> Act -> World -> Prop} {e : Env} {h : SH} {g : Operand} {k : FuncId} {fi cp : Array Value} {ps : Array Tmp} {assign body : Code}
  (hg:e.ev? g=some (.func (.func k) fi cp)) (hE:Enters P k)
  (hct:∀ (l db:Nat) (fn:FuncId) (tm:Array Value),Kn n [] { tmps:=tm,defers:=[] } e ->
   ∃ R',Ct P k (fi ++ #[.func (.yield l) #[] #[]]++cp) (pt l (.loop<|rA fn tm ps assign body db)::pt db (.deferred<|some [])::h) R' /\
    ∀ v h',R' v h'->∃ rec h'',Sel h' (pt l (.loop rec)) h''/\rec.state≠.busy/\(match rec.pending with | none=>Xt ⟨P,none,n,mk db::ds,w0⟩ .normal Q e h'' | some x=>Cd ⟨P,none,n,mk db::ds,w0⟩ x Q e h'')) :
  Cd ⟨P,none,n,ds,w0⟩ (.rangeFunc g ps assign body) Q e h:=λa w hk hh hw=>by
 refine wpIn_rangeFunc λfn _=>?_
 obtain ⟨R',ct,hR'⟩:=hct (w.heap.size+1) w.heap.size fn a.tmps ⟨hk.size,rfl,hk.get⟩
 have h1:=Holds.alloc (Holds.alloc hh<|.deferred<|some [])<|.loop<|rA fn a.tmps ps assign body w.heap.size
 have hsz:(w.alloc<|.deferred<|some []).heap.size=w.heap.size+1:=World.size_alloc _ _
 rw [hsz] at h1
 refine ⟨_,_,_,⟨.fn (.func k) cp,fi ++ #[.func (.yield (w.heap.size+1)) #[] #[]]⟩,(w.alloc<|.deferred<|some []).alloc (.loop<|rA fn a.tmps ps assign body w.heap.size),k,fi ++ #[.func (.yield (w.heap.size+1)) #[] #[]]++cp,(w.alloc<|.deferred<|some []).alloc (.loop<|rA fn a.tmps ps assign body w.heap.size),run_enterLoop_outer fn a.tmps ps assign body,?_,λ_ _=>trivial,?_,λh=>by simp [Fw,Fence.wide] at h,?_⟩
 .simp only [resolve,hk.ev hg,Deferred.ofValue,Sem.run_bind,Sem.run_pure,Result.andThen_ok]
  simp [Act.eval,rA]
 .have:(invoke (.fn (.func k) cp) (fi ++ #[.func (.yield (w.heap.size+1)) #[] #[]])).run P ((w.alloc<|.deferred<|some []).alloc<|.loop<|rA fn a.tmps ps assign body w.heap.size) = .ok (.enter k (fi ++ #[.func (.yield (w.heap.size+1)) #[] #[]]++cp)) ((w.alloc<|.deferred<|some []).alloc<|.loop<|rA fn a.tmps ps assign body w.heap.size):=hE _ _
  exact this
 .have hgr:Same w ((w.alloc<|.deferred<|some []).alloc<|.loop<|rA fn a.tmps ps assign body w.heap.size):=(Grew.alloc _ _ rfl).toSame.trans (Grew.alloc _ _ rfl).toSame
  have hctw:=ct [] _ Zf
  refine tX (Calls.mono hctw λen w' ⟨v,h',he,hRv,hH,hS⟩=>?_)
  subst he
  obtain ⟨rec,h'',s,hbusy,hj⟩:=hR' v h' hRv
  have hH':=(show Holds w' h' by simpa using hH).sel s
  refine ⟨rec.pending,_,run_endLoop hH'.1 hbusy,?_⟩
  have hk2:Kn n (mk w.heap.size::ds) { a with defers:=[{ target:=.collected w.heap.size,args := #[] }]++a.defers } e:=⟨hk.size,by simp [mk,hk.defers],hk.get⟩
  have hH2:∀ o,Holds (w'.putObj (w.heap.size+1) o) h'':=λo=>(Holds.putObj hH' o).2.2
  have hS2:∀ r,Same w0 (w'.putObj (w.heap.size+1)<|.loop r):=λr=>(hw.trans hgr).trans<|hS.trans<|Same.putObj _ _ _ hH'.1 rfl rfl
  generalize rec.pending=j at hj ⊢
  cases j with
  | none=>exact hj _ _ hk2 (hH2 _) (hS2 _)
  | some x=>exact hj _ _ hk2 (hH2 _) (hS2 _)

/-! ### The function's end, with marks -/
theorem yU {P:Program} {fn:Func} {tm:Array Value} {Rf:Ending->World->Prop} {w0:World} {k:SH}:∀ (bs:List Nat) (w:World),Holds w (marks bs++k)->Same w0 w ->
  (∀ w',Holds w' k->Same w0 w'->∃ v,(results fn tm).run P w' = .ok v w'/\Rf (.returned v) w')->LeavesInM (Fw none) 0 P fn tm Rf (bs.map mk) .returning w
 | [],w,hh,hs,hf=>hf w hh hs
 | b::bs,w,hh,hs,hf=>by
  refine ⟨by simp,.inl ⟨b,_,rfl,run_takeDeferred (ds:=[]) hh.1,?_⟩⟩
  exact yU bs _ (Holds.putObj hh _).2.2 (hs.trans<|Same.putObj _ _ _ hh.1 rfl rfl) hf
theorem rC {P:Program} {k:FuncId} {fn:Func} {x:Code} {n:Nat} {l:List Value} {hf:SH} {R:Value->SH->Prop} (hF:P.funcs[k]? = some fn) (hb:fn.body=some x) (hnt:fn.ntmps=n) (hn:l.length<=n)
  (hc:∀ (hr:SH) (w0:World),Cd ⟨P,none,n,[],w0⟩ x (bodyPostM (Fw none) 0 P fn<|Post w0 hr R) (Env.ofArgs 0 l) (hf++hr)):Ct P k l.toArray hf R:=λhr w hh=>by
 refine uX (r:=none) (n:=0)<|callsIn_of_wp_marks hF hb trivial<|hc hr w _ w ⟨?_,rfl,λi v hi=>?_⟩ hh<|Same.refl w
 .simp; omega
 .obtain ⟨_,h2⟩:=Env.ofArgs_get hi
  simp only [Nat.sub_zero] at h2
  have hlt:i<l.length:=(List.getElem?_eq_some_iff.1 h2).1
  rw [Zy hlt,Option.some.injEq] at h2
  simp [Array.getElem?_append,hlt,h2]
section
variable {P:Program} {r:Option Nat} {n:Nat} {w0:World} {hr:SH} {R:Value->SH->Prop} {fn:Func} {e:Env} {h h':SH} {vs:List Value} {bs:List Nat} {ds:List Deferred}
theorem kv (hds:ds=bs.map mk) (hv:e.res? fn.results.toList=some vs) (hR:R (lg vs) h') (hp:Sub (marks bs++(h'++hr)) h):Xt ⟨P,r,n,ds,w0⟩ .ret (bodyPostM (Fw none) 0 P fn (Post w0 hr R)) e h :=
 λa w hk hh hw=>by
  show LeavesInM (Fw none) 0 P fn a.tmps _ a.defers .returning w
  rw [hk.defers,hds]
  exact yU bs w (hh.sub hp) hw λw' h1 h2=>⟨_,mW hk hv w',_,h',rfl,hR,h1,h2⟩
theorem xt_endM (hds:ds=bs.map mk) (hv:e.res? fn.results.toList=some vs) (hR:R (lg vs) h') (hp:Sub (marks bs++(h'++hr)) h):Xt ⟨P,r,n,ds,w0⟩ .normal (bodyPostM (Fw none) 0 P fn (Post w0 hr R)) e h :=
 λa w hk hh hw=>kv (r:=r) (n:=n) (w0:=w0) hds hv hR hp a w hk hh hw
end

/-! ### A loop in which marks are laid -/
section
variable {P:Program} {r:Option Nat} {n:Nat} {ds:List Deferred} {w0:World} {Q:Exit->Act->World->Prop} {e:Env} {h:SH}
def ND {σ : Type} (P:Program) (r:Option Nat) (n:Nat) (w0:World) (D : σ -> List Deferred) (E : σ -> Env) (H : σ -> SH) (Φ : σ -> Prop) (μ : σ -> Nat) (s : σ) (a:Act) (w:World):Prop :=
 ∃ s',Φ s' /\ μ s' < μ s/\Kn n (D s') a (E s')/\Holds w (H s')/\Same w0 w
theorem oH {σ : Type} {x : Code} (D : σ -> List Deferred) (E : σ -> Env) (H : σ -> SH) (Φ : σ -> Prop) (μ : σ -> Nat) (s0 : σ) (h0 : Φ s0) (hd : ds = D s0) (hs : Env.sub (E s0) e) (hp : Sub (H s0) h)
    (hr:∀ s,Φ s->Cd ⟨P,r,n,D s,w0⟩ x (Exit.then (ND P r n w0 D E H Φ μ s) Q) (E s) (H s)):Cd ⟨P,r,n,ds,w0⟩ (.loop x) Q e h:=λa w hk hh hw=>by
  subst hd
  let p:Act->World->Nat->Prop:=λa w m=>∃ s,Φ s /\ μ s=m/\Kn n (D s) a (E s)/\Holds w (H s)/\Same w0 w
  have hmin:∀ a w m,p a w m->p a w (least<|p a w)/\least (p a w)<=m:=λa w m hn=>⟨(pO ⟨m,hn⟩).1,(pO ⟨m,hn⟩).2 m hn⟩
  refine wpIn_loop (λa w=>∃ m,p a w m) (λa w=>least<|p a w) ⟨_,s0,h0,rfl,hk.weaken hs,hh.sub hp,hw⟩ λa w ⟨m,hn⟩=>?_
  obtain ⟨⟨s,h1,h2,h3,h4,h5⟩,_⟩:=hmin a w m hn
  refine wpIn_mono (hr s h1 a w h3 h4 h5) λex a' w' hq=>?_
  cases ex <;> first
    | exact hq
    | (obtain ⟨s', g1, g2, g3, g4, g5⟩ := hq
       have hp':p a' w' (μ s'):=⟨s',g1,rfl,g3,g4,g5⟩
       exact ⟨⟨_,hp'⟩,Nat.lt_of_le_of_lt (hmin a' w' _ hp').2 (h2 ▸ g2)⟩)
theorem lK {σ : Type} {D : σ -> List Deferred} {E : σ -> Env} {H : σ -> SH} {Φ : σ -> Prop} {μ : σ -> Nat} {s : σ} (s' : σ) (h1 : Φ s') (h2 : μ s' < μ s) (hd:ds=D s') (hs:Env.sub (E s') e) (hp:Sub (H s') h) :
  Xt ⟨P,r,n,ds,w0⟩ .normal (Exit.then (ND P r n w0 D E H Φ μ s) Q) e h:=λ_ _ hk hh hw=>⟨s',h1,h2,by subst hd; exact hk.weaken hs,hh.sub hp,hw⟩
end

/-! ### Calls of yield -/
section
variable {c:Cx} {ops:Array Oper} {K:Act->World->Prop} {rest:List Oper} {e:Env} {h h' hr:SH}
theorem BX {P:Program} {f:Operand} {az:Array Operand} {ts:Array TypeId} {l:Nat} {vs:List Value} (hf:e.ev? f=some (.func (.yield l) #[] #[])) (has:az.toList.mapM e.ev? = some vs)
  {ρ : Operand->Value} (hρ : ∀ x u,e.ev? x=some u -> ρ x=u) (w:World) (d:Option Tmp) (ty:TypeId) (pos:String) (after:Array Edge) (g:Option (Nat×Bool)) :
  (execOp ρ ⟨d,.call { callee:=.value f,args:=az,argTypes:=ts },ty,pos,after,g⟩).run P w=(Instr.yield l vs.toArray).run P w:=by
 have e1:Array.map ρ az=vs.toArray:=by
  apply Array.toList_inj.1; simpa using Em hρ az.toList vs has
 simp only [execOp,resolve,hρ f _ hf,Deferred.ofValue,e1,Sem.run_bind,Sem.run_pure,Result.andThen_ok,invoke]
 simp
theorem ve {d:Nat} {f:Operand} {az:Array Operand} {ts:Array TypeId} {ty:TypeId} {pos:String} {after:Array Edge} {l:Nat} {vs:List Value} {hf:SH} {R:Value->SH->Prop} {gu:Option (Nat×Bool)} {gd:Nat}
  (hgu:gu=none\/∃ g want,gu=some (g,want)/\((ops[g]?).bind (·.dst))=some gd/\e.get? gd=some (.bool want))
  (hv:e.ev? f=some (.func (.yield l) #[] #[])) (has:az.toList.mapM e.ev? = some vs) (yc:Yc c.P l vs.toArray hf R) (pk:Pk h hf hr) (hd:d<c.n)
  (hn:∀ v h',R v h'->St c ops K rest ((d,v)::e) (h'++hr)) :
  St c ops K (⟨some d,.call { callee:=.value f,args:=az,argTypes:=ts },ty,pos,after,gu⟩::rest) e h:=λa w hk hh hs=>by
 unfold LsW
 have hw:Region.wanted (⟨some d,.call { callee:=.value f,args:=az,argTypes:=ts },ty,pos,after,gu⟩:Oper) (yielded ops a.tmps)=true:=by
  rcases hgu with rfl | ⟨g,want,rfl,hg,hgv⟩
  .simp [Region.wanted]
  .simp [Region.wanted,fI hg hgv hk]
 rw [if_pos hw]
 unfold OpW OpV
 rw [Oper.semAt_eq _ _ _ (by simp),BX hv has hk.evs]
 refine jg (λv w' ⟨h',hR,hH,hS⟩=>?_)<|yc hr w<|hh.pk pk
 exact hn v h' hR _ w' (hk.put v hd) hH<|hs.trans hS
theorem Ko {pre:Nat->Bool} {hC:SH} {t:Ord} {i:Nat} {d:Option Nat} {op:Op} {ty:TypeId} {pos:String} {after:Array Edge} {g gd:Nat} {want:Bool} (hi:ops[i]? = some ⟨d,op,ty,pos,after,some (g,want)⟩)
  (hg:((ops[g]?).bind (·.dst))=some gd) (hgv:e.get? gd=some (.bool want)) (hn:St c ops (EffK c ops pre hC K i t h) [⟨d,op,ty,pos,after,some (g,want)⟩] e h):DrL c ops pre hC K (.cons (i,false) t) e h :=
 ⟨_,hi,λ_ hk=>by simp [Region.wanted,fI hg hgv hk],hn⟩
end
end Go.Ck
namespace Go.Ck
open Go Go.RowKit

def Kq:Option TypeDesc->Bool
 | some (.int .i64)=>true
 | _=>false
def vg (P:Program):List Field->Nat->Bool
 | [],_=>true
 | f :: t, i => (f.name != "_") && Kq (P.underlying f.type) && Nat.beq f.offset i && vg P t (i + 1)
def EqI (P:Program) (T:TypeId) (n:Nat):Prop:=P.eqGuardType P.depth T=false/\∀ (xs ys:List Int) (w:World),xs.length=n->ys.length=n ->
 (Op.equalIn 10000 T (.agg (ints xs).toArray)<|.agg (ints ys).toArray).run P w = .ok (xs == ys) w
theorem vz {P:Program} {T:TypeId} (h:Kq (P.underlying T)=true) {xs:List Int} {i:Nat} {x:Int} (hx:xs[i]? = some x) (w:World):(part T (ints xs).toArray i).run P w = .ok (.int .i64 x) w:=by
 have hu:P.underlying T=some (.int .i64):=by
  unfold Kq at h; split at h
  .assumption
  .cases h
 have hi:(isAgg T).run P w = .ok false w:=by
  unfold isAgg
  simp only [Sem.run_bind,run_underlying hu,Result.andThen_ok]
  rfl
 unfold part
 have:(ints xs).toArray[i]? = some (.int .i64 x):=by simp [ints,hx]
 simp only [Sem.run_bind,hi,Result.andThen_ok,Bool.false_eq_true,if_false,this,Sem.run_pure]
theorem vB {P : Program} {d : Nat} {xs ys : List Int} {w : World} : ∀ (fs : List Field) (i : Nat), vg P fs i = true -> xs.length = i + fs.length -> ys.length = i + fs.length ->
  (Op.eqFields (d+1) (ints xs).toArray (ints ys).toArray fs).run P w = .ok (xs.drop i == ys.drop i) w
 | [],i,_,hx,hy=>by
  have h1:xs.drop i=[]:=List.drop_of_length_le (by simp at hx; omega)
  have h2:ys.drop i=[]:=List.drop_of_length_le (by simp at hy; omega)
  rw [h1,h2]
  simp [Op.eqFields]
 | f::t,i,h,hx,hy=>by
  simp only [vg,Bool.and_eq_true,bne_iff_ne] at h
  obtain ⟨⟨⟨h1,h2⟩,h3⟩,h4⟩:=h
  have h3':=Nat.eq_of_beq_eq_true h3
  simp only [List.length_cons] at hx hy
  have hxi:i<xs.length:=by omega
  have hyi:i<ys.length:=by omega
  have hu:P.underlying f.type=some (.int .i64):=by
   unfold Kq at h2; split at h2
   .assumption
   .cases h2
  unfold Op.eqFields
  rw [if_pos h1,h3']
  simp only [Sem.run_bind,vz h2 (Zy hxi),vz h2 (Zy hyi),Result.andThen_ok,run_equalIn_int w d f.type .i64 .i64 xs[i] ys[i] hu]
  have hb:(xs.drop i == ys.drop i)=(xs[i] == ys[i] && (xs.drop (i+1) == ys.drop (i+1))):=by
   rw [List.drop_eq_getElem_cons hxi,List.drop_eq_getElem_cons hyi]; rfl
  rw [hb]
  by_cases he:xs[i]=ys[i]
  .rw [if_neg (by simp [he]),vB t (i+1) h4 (by omega) (by omega),he]
   simp only [beq_self_eq_true,Bool.true_and]
  .rw [if_pos (by simp [he]),beq_eq_false_iff_ne.2 he]
   rfl
theorem EqI.of {P:Program} {T:TypeId} {fs:Array Field} {n:Nat} (h1:P.underlying T=some (.struct fs)) (h2:P.stoodInHeld T=false) (h3:P.eqGuardType P.depth T=false) (h4:vg P fs.toList 0=true) (hn:fs.size=n):EqI P T n:=by
 refine ⟨h3,λxs ys w hx hy=>?_⟩
 have hf:P.fieldsOf T=fs:=by simp [Program.fieldsOf,h1]
 rw [run_equalIn_struct w 9999 T _ _ (by rw [hf]; exact h1) h2,hf,vB fs.toList 0 h4 (by simp [hx,hn]) (by simp [hy,hn])]
 simp

section
variable {P:Program} {e:Env} {h h':SH} {ty:TypeId}
theorem pR {T t':TypeId} {x y:Operand} {a b:Bool} (hT:P.underlying T=some .bool) (hx:e.ev? x=some (.bool a)) (hy:e.ev? y=some (.bool b)):Vop P e h (.binOp .eql T x y t') ty (.bool (a == b)):=
 ⟨by simp,by simp,λρ w d pos after g hρ _=>by
  have hq:(Op.equalIn 10000 T (.bool a)<|.bool b).run P w = .ok (a == b) w:=run_equalIn_bool' w 9999 T a b hT
  simp [execOp,hρ x _ hx,hρ y _ hy,eqGuard,binOp,Op.equal,Op.maxDepth,hq]⟩
theorem zU {T t':TypeId} {x y:Operand} {a b:Bool} (hT:P.underlying T=some .bool) (hx:e.ev? x=some (.bool a)) (hy:e.ev? y=some (.bool b)):Vop P e h (.binOp .neq T x y t') ty (.bool (!(a == b))):=
 ⟨by simp,by simp,λρ w d pos after g hρ _=>by
  have hq:(Op.equalIn 10000 T (.bool a)<|.bool b).run P w = .ok (a == b) w:=run_equalIn_bool' w 9999 T a b hT
  simp [execOp,hρ x _ hx,hρ y _ hy,eqGuard,binOp,Op.equal,Op.maxDepth,hq]⟩
def Rds (r:Res) (b o:Nat) (vs:List Value):Prop:=∀ i (hi:i<vs.length),Rd r ⟨b,o+i,none⟩ vs[i]
theorem v_loadR {T:TypeId} {x:Operand} {b o n:Nat} {vs:List Value} {r:Res} (hx:e.ev? x=some (.pointer (some ⟨b,o,none⟩))) (hT:LdN P T n) (hl:vs.length=n) (s:Sel h r h') (hr:Rds r b o vs) :
  Vop P e h (.load T x) ty (.agg vs.toArray):=v_loadN hx hT hl λi hi=>⟨r,h',s,hr i hi⟩
theorem ag {b:Nat} {vs:List Value} {E:TypeId}:Rds (pt b (cl vs E)) b 0 vs:=λi hi=>bZ<|by simp [hi]
end

section
variable {c:Cx} {ops:Array Oper} {K:Act->World->Prop} {rest:List Oper} {e:Env} {h h' hr:SH}
theorem iG {T E : TypeId} {x y : Operand} {ty : TypeId} {pos : String} {after : Array Edge} {b off n : Nat} {l vs : List Value} {k : SH}
  (hx:e.ev? x=some (.pointer<|some ⟨b,off,none⟩)) (hy:e.ev? y=some (.agg vs.toArray)) (hT:Sz c.P T n) (hn:vs.length=n) (h1:∀ v∈vs,v.oneCell'=true) (hs:Sel h (pt b<|cl l E) k) (ho:off+vs.length<=l.length)
  (hnx:St c ops K rest e (pt b (cl (splice l off vs) E)::k)) :
  St c ops K (⟨none,.store T x y,ty,pos,after,none⟩::rest) e h :=
 eD (by simp) λa w hk hh hs'=>by
  have hh':=hh.sel hs
  have hg:w.heap[b]? = some (.cells l.toArray E (0,0)):=hh'.1
  have hr:(Instr.storeAt T (.pointer<|some ⟨b,off,none⟩)<|.agg vs.toArray).run c.P w = .ok () (w.setRow b (splice l off vs).toArray):=by
   have hst:=run_storeCells_at c.P b off E vs 0 l.toArray w hg (by simpa using ho) h1
   unfold Instr.storeAt storeVar
   have hsz:(Value.agg vs.toArray).cells.size=n:=by simp [Value.cells,hn]
   simp only [Instr.sureAddr,Sem.run_bind,Sem.run_pure,Result.andThen_ok,hT w,hsz]
   simp only [Value.cells,ne_eq,not_true_eq_false,if_false,hst]
   simp [splice]
  simp only [execOp,hk.ev hx,hk.ev hy,Sem.run_bind,hr,Result.andThen_ok,Sem.run_pure]
  exact hnx _ _ hk (Holds.setRow hh'<|splice l off vs)<|hs'.trans<|Same.setRow _ _ _ hh'.1
theorem Lu {T E:TypeId} {x y:Operand} {ty:TypeId} {pos:String} {after:Array Edge} {b n:Nat} {l vs:List Value} {k:SH}
  (hx:e.ev? x=some (.pointer<|some ⟨b,0,none⟩)) (hy:e.ev? y=some (.agg vs.toArray)) (hT:Sz c.P T n) (hn:vs.length=n) (h1:∀ v∈vs,v.oneCell'=true) (hs:Sel h (pt b<|cl l E) k) (hl:l.length=vs.length)
  (hnx:St c ops K rest e (pt b (cl vs E)::k)) :
  St c ops K (⟨none,.store T x y,ty,pos,after,none⟩::rest) e h:=by
 refine iG hx hy hT hn h1 hs (by omega) ?_
 have:splice l 0 vs=vs:=by simp [splice,<- hl]
 rw [this]; exact hnx
end

theorem ones {vs:List Value} (h:vs.all Value.oneCell'=true):∀ v∈vs,v.oneCell'=true:=List.all_eq_true.1 h

/-! ## Results that lie in cells -/
inductive ResV (P:Program) (h:SH) (e:Env):List ResultVar->List Value->Prop
 | nil:ResV P h e [] []
 | tmp {t:Nat} {v:Value} {rs:List ResultVar} {vs:List Value}:e.get? t=some v->ResV P h e rs vs->ResV P h e (.tmp t::rs) (v::vs)
 | cell1 {a b o:Nat} {T:TypeId} {v:Value} {rs:List ResultVar} {vs:List Value}:e.get? a=some (.pointer (some ⟨b,o,none⟩))->Ld1 P T->At h ⟨b,o,none⟩ v->ResV P h e rs vs->ResV P h e (.cell a T::rs) (v::vs)
 | cellN {a b n:Nat} {T E:TypeId} {us:List Value} {h':SH} {rs:List ResultVar} {vs:List Value}:e.get? a=some (.pointer (some ⟨b,0,none⟩))->LdN P T n->us.length=n->Sel h (pt b (cl us E)) h'->ResV P h e rs vs->ResV P h e (.cell a T::rs) (.agg us.toArray::vs)
theorem zV {P:Program} {T:TypeId} {a:Addr} {v:Value} {w:World} (h:(Instr.loadAt T (.pointer (some a))).run P w = .ok v w):(loadVar T a).run P w = .ok v w:=by
 unfold Instr.loadAt at h
 simpa [Instr.sureAddr] using h
theorem vC {P : Program} {fn : Func} {n : Nat} {ds : List Deferred} {a : Act} {e : Env} {h : SH} (hk : Kn n ds a e) {vs : List Value} (hr : ResV P h e fn.results.toList vs) {w : World} (hh : Holds w h) :
  (results fn a.tmps).run P w = .ok (lg vs) w:=by
 have key:∀ (f:ResultVar->Sem Value) (_:∀ t,f (.tmp t)=pure (a.tmps.getD t undef)) (_:∀ t T,f (.cell t T)=do loadVar T (<- asAddr (a.tmps.getD t undef))) (l:List ResultVar) (vs:List Value),ResV P h e l vs->(l.mapM f).run P w = .ok vs w:=by
  intro f hf hc l vs hv
  induction hv with
  | nil=>simp
  | tmp h1 _ ih=>simp [List.mapM_cons,ih,hf,Array.getD_eq_getD_getElem?,hk.get _ _ h1]
  | cell1 h1 h2 h3 _ ih =>
   simp only [List.mapM_cons,hc,Array.getD_eq_getD_getElem?,hk.get _ _ h1,Option.getD_some,asAddr,Sem.run_bind,Sem.run_pure,Result.andThen_ok,zV (h2 w _ _<|h3.cell hh),ih]
  | cellN h1 h2 h3 h4 _ ih =>
   have hld:=h2 w _ 0 _ h3<|λi hi=>by rw [Zy (by omega)]; exact (ag i<|by omega).at h4 hh
   simp only [List.mapM_cons,hc,Array.getD_eq_getD_getElem?,hk.get _ _ h1,Option.getD_some,asAddr,Sem.run_bind,Sem.run_pure,Result.andThen_ok,zV hld,ih]
 unfold results
 rw [<- Array.toArray_toList (xs:=fn.results),List.mapM_toArray]
 simp only [Sem.run_bind,Sem.run_map]
 rw [key _ (λ_=>rfl) (λ_ _=>rfl) _ _ hr]
 simp only [Result.andThen_ok,Sem.run_pure]
 cases vs with
 | nil=>simp [lg]
 | cons v t=>cases t <;> simp [lg]
section
variable {P:Program} {r:Option Nat} {n:Nat} {w0:World} {hr:SH} {R:Value->SH->Prop} {fn:Func} {e:Env} {h h':SH} {vs:List Value}
theorem bM (hv:ResV P h e fn.results.toList vs) (hR:R (lg vs) h') (hp:Sub (h'++hr) h):Xt ⟨P,r,n,[],w0⟩ .ret (bodyPost P fn (Post w0 hr R)) e h :=
 λa w hk hh hw=>⟨hk.defers,_,vC hk hv hh,_,h',rfl,hR,hh.sub hp,hw⟩
end

/-! ## A scope that nothing jumps within -/
section
variable {P:Program} {F:Fence} {n:Nat} {b:Frame} {a:Act} {k:List Item} {cs:List Frame} {w:World} {Q:Exit->Act->World->Prop}
theorem jh {c:Code}:step P (lone (b.atR a (.code (.scope c)::k)) cs w) = .next (lone (b.atR a (.code c::.inScope c::k)) cs w):=step_lone_go (by simp [stepG,stepG.exec,Frame.atR])
theorem BZ {c:Code}:step P (lone (b.atR a (.inScope c::k)) cs w) = .next (lone (b.atR a k) cs w):=step_lone_go (by simp [stepG,stepG.exec,Frame.atR])
theorem IQ {c:Code} (h:c.wpIn F n P (Exit.noGoto Q) a w):(Code.scope c).wpIn F n P Q a w:=by
 intro b k cs hro hb hr
 have h0:(lone (b.atR a (.code (.scope c)::k)) cs w).fenced P F:=fenced_calm hb hr rfl
 obtain ⟨e,a₁,w₁,hq,harr⟩:=h b (.inScope c::k) cs hro hb hr
 cases e with
 | normal=>exact ⟨.normal,a₁,w₁,hq,.head h0 jh (StepsIn.trans harr (.one (fenced_calm hb hr rfl) BZ))⟩
 | exit id =>
  have hx:exitTo id (.inScope c::k)=exitTo id k:=by simp [exitTo]
  exact ⟨.exit id,a₁,w₁,hq,λk' hk=>.head h0 jh (harr.1 k' (by rw [hx]; exact hk)),
   λhr' hk=>let ⟨k₁,h1,h2⟩:=harr.2 hr' (by rw [hx]; exact hk); ⟨k₁,h1,.head h0 jh h2⟩⟩
 | goto l=>exact hq.elim
 | ret=>exact ⟨_,a₁,w₁,hq,.of_steps (.one h0 jh) harr⟩
 | panic ch=>exact ⟨_,a₁,w₁,hq,.of_steps (.one h0 jh) harr⟩
 | outgrown=>exact ⟨_,a₁,w₁,hq,.of_steps (.one h0 jh) harr⟩
end
section
variable {c:Cx} {Q:Exit->Act->World->Prop} {e:Env} {h:SH}
theorem F5 {x:Code} (hx:Cd c x (Exit.noGoto Q) e h):Cd c (.scope x) Q e h:=λa w hk hh hw=>IQ<|hx a w hk hh hw
theorem qF (hx:Xt c .normal Q e h):Xt c .normal (Exit.noGoto Q) e h:=hx
theorem fJ (hx:Xt c .ret Q e h):Xt c .ret (Exit.noGoto Q) e h:=hx
theorem Ca {id:Nat} (hx:Xt c (.exit id) Q e h):Xt c (.exit id) (Exit.noGoto Q) e h:=hx
end
end Go.Ck
namespace Go.Ck
open Go

section
variable {c:Cx} {Q:Exit->Act->World->Prop} {e:Env} {h h':SH} {x:Code}
theorem oI (hc:Cd c x Q e (Res.star (marks [])::h)):Cd c x Q e h:=λa w hk hh hw=>hc a w hk ⟨trivial,λ_ hb=>hb.elim,hh⟩ hw
theorem jD {ex:Exit} {db:Nat} {bs:List Nat} {h1 h2:SH} (s1:Sel h (pt db (.deferred (some []))) h1) (s2:Sel h1 (Res.star (marks bs)) h2) (hx:Xt c ex Q e (Res.star (marks (db::bs))::h2)):Xt c ex Q e h:=λa w hk hh hw=>by
 have k1:=hh.sel s1
 have k2:Holds w (pt db (.deferred<|some [])::Res.star (marks bs)::h2):=k1.perm<|(s2.perm).cons _
 have k3:bn (hp w) (pt db (.deferred<|some [])::(marks bs++h2)):=by
  refine ⟨k2.1,λb hb hd=>k2.2.1 b hb ?_,dL.1 k2.2.2⟩
  rcases SH.dom_append.1 hd with h | h
  .exact .inl h
  .exact .inr h
 exact hx a w hk (dL.2 k3) hw
end
theorem Yc.perm {P:Program} {l:Nat} {args:Array Value} {hf hf':SH} {R:Value->SH->Prop} (h:Yc P l args hf R) (p:hf'.Perm hf):Yc P l args hf' R:=λhr w hh=>h hr w<|hh.perm<|p.append_right hr
section
variable {P:Program} {r:Option Nat} {n:Nat} {w0:World} {hr:SH} {R:Value->SH->Prop} {fn:Func} {e:Env} {h h':SH} {vs:List Value} {bs:List Nat} {ds:List Deferred}
theorem Er (hds:ds=bs.map mk) (hv:e.res? fn.results.toList=some vs) (hR:R (lg vs) h') (hp:Sub (Res.star (marks bs)::(h'++hr)) h):Xt ⟨P,r,n,ds,w0⟩ .ret (bodyPostM (Fw none) 0 P fn (Post w0 hr R)) e h :=
 λa w hk hh hw=>by
  show LeavesInM (Fw none) 0 P fn a.tmps _ a.defers .returning w
  rw [hk.defers,hds]
  exact yU bs w (dL.1<|hh.sub hp) hw λw' h1 h2=>⟨_,mW hk hv w',_,h',rfl,hR,h1,h2⟩
end
theorem Ct.perm {P:Program} {k:FuncId} {args:Array Value} {hf hf':SH} {R:Value->SH->Prop} (h:Ct P k args hf R) (p:hf'.Perm hf):Ct P k args hf' R:=λhr w hh=>h hr w<|hh.perm<|p.append_right hr
theorem dJ {rec:Loop} (h1:rec.state = .ready) (h2:rec.pending=none):({ ({ rec with state:=.busy }:Loop) with state:=.ready,pending:=none }:Loop)=rec:=by
 obtain ⟨st,pe,fn,tm,ps,a,b,d⟩:=rec
 simp only at h1 h2
 subst h1 h2
 rfl
theorem ji {P : Program} {n : Nat} {ds : List Deferred} {w0 : World} {Q : Exit -> Act -> World -> Prop} {e : Env} {h : SH} {g : Operand} {k : FuncId} {fi cp : Array Value} {ps : Array Tmp} {assign body : Code}
  (hg:e.ev? g=some (.func (.func k) fi cp)) (hE:Enters P k)
  (hct:∀ (l db:Nat) (rec:Loop),rec.state = .ready->rec.pending=none->rec.params=ps->rec.assign=assign->rec.body=body->Kn n [] { tmps:=rec.tmps,defers:=[] } e ->
   ∃ R',Ct P k (fi ++ #[.func (.yield l) #[] #[]]++cp) (pt l (.loop rec)::pt db (.deferred<|some [])::h) R' /\
    ∀ v h',R' v h'->∃ rec h'',Sel h' (pt l (.loop rec)) h''/\rec.state≠.busy/\(match rec.pending with | none=>Xt ⟨P,none,n,mk db::ds,w0⟩ .normal Q e h'' | some x=>Cd ⟨P,none,n,mk db::ds,w0⟩ x Q e h'')) :
  Cd ⟨P,none,n,ds,w0⟩ (.rangeFunc g ps assign body) Q e h :=
 NC hg hE λl db fn tm hk=>hct l db (rA fn tm ps assign body db) rfl rfl rfl rfl rfl hk
section
variable {c:Cx} {ops:Array Oper} {K:Act->World->Prop} {rest:List Oper} {e:Env} {h:SH} {Q:Exit->Act->World->Prop}
theorem zW {d : Nat} {T E ty : TypeId} {pos : String} {after : Array Edge} {z : Value} {sz bytes : Nat} (hT : c.P.underlying T = some (.slice E)) (hE : Inf c.P E z sz bytes) (hd : d < c.n)
  (hnx:∀ b,St c ops K rest ((d,.slice (some ⟨b,0,none⟩) 0 0)::e) (vec (.slice (some ⟨b,0,none⟩) 0 0) E sz 0 []::h)) :
  St c ops K (⟨some d,.buildSlice T 0 #[],ty,pos,after,none⟩::rest) e h :=
 eD (by simp) λa w hk hh hs=>by
  obtain ⟨ie,h1,h2,h3,h4⟩:=hE.parts
  have hr:(Instr.buildSlice T 0 (#[].map λ(i,x)=>(i,a.eval x))).run c.P w = .ok (.slice (some ⟨w.heap.size,0,none⟩) 0 0) (w.alloc<|cl [] E):=by
   have h0:Array.range 0 = #[]:=rfl
   simp [Instr.buildSlice,run_underlying hT,sizeOf,typeInfo,h1,Instr.fill,newRow,cl,h0]
  simp only [execOp,Sem.run_bind,hr,Result.andThen_ok,Sem.run_pure]
  have hA:=Holds.alloc hh<|cl [] E
  exact hnx _ _ _ (hk.put _ hd) ⟨⟨by simp,.inr ⟨w.heap.size,0,[],rfl,hA.1,Nat.le_refl _,Nat.zero_le _,by simp⟩⟩,λb ⟨m,cp,hv⟩=>(by cases hv; exact hA.2.1 _ rfl),hA.2.2⟩<|hs.trans (Grew.alloc _ _ rfl).toSame
end
section
variable {c:Cx} {ops:Array Oper} {K:Act->World->Prop} {rest:List Oper} {e:Env} {h h' hr:SH}
end
end Go.Ck
namespace Go.Ck
open Go Go.RowKit
abbrev Bs:=List UInt8
abbrev sv (n:Bs):Value:=.string ⟨⟨n⟩⟩
theorem Es (a b:Bs):((⟨⟨a⟩⟩:ByteArray) == ⟨⟨b⟩⟩)=(a == b):=by
 show ((⟨a⟩:Array UInt8) == ⟨b⟩)=_
 rw [Bool.eq_iff_iff]; simp
/-! ## Maps from names -/
def lw (m:List (Bs×Value)):List (Value×Value):=m.map λp=>(sv p.1,p.2)
def bR (m:List (Bs×Value)) (k:Bs):Option Value:=(m.find? (·.1 == k)).map (·.2)
def eU:List (Bs×Value)->Bs->Value->List (Bs×Value)
 | [],k,v=>[(k,v)]
 | p::t,k,v=>if p.1=k then (k,v)::t else p::eU t k v
def SBrn (es:Array MapEntry) (ck:Nat) (m:List (Bs×Value)):Prop:=(∀ x∈es.toList,x.born<ck)/\(es.toList.map (·.born)).Nodup/\(m.map (·.1)).Nodup
def mps (b:Nat) (m:List (Bs×Value)):Res where
 dom:=(· = b)
 ok f:=∃ es ck,f b=some (.map es ck)/\es.toList.map (λx=>(x.key,x.val))=lw m/\SBrn es ck m
 loc f g he:=λ⟨es,ck,h1,h2⟩=>⟨es,ck,by rw [<- he b rfl]; exact h1,h2⟩
 pres f:=λ⟨es,ck,h1,_⟩ b' hb=>by rw [hb,h1]; rfl
def jS (m:List (Bs×Value)) (k:Bs):Option (Nat×Value):=(m.findIdx? (·.1 == k)).bind λj=>(bR m k).map λv=>(j,v)
theorem vD (k : Bs) : ∀ (es : List MapEntry) (m : List (Bs × Value)) (i : Nat), es.map (λx => (x.key, x.val)) = lw m ->
  Instr.findNow .string (sv k) es i=some ((jS m k).map λp=>(i+p.1,p.2))
 | [],m,i,h=>by
  have:m=[]:=by cases m with | nil=>rfl | cons _ _=>simp [lw] at h
  subst this; simp [Instr.findNow,jS]
 | x :: es, m, i, h => by
  cases m with
  | nil=>simp [lw] at h
  | cons p t =>
   simp only [List.map_cons,lw,List.cons.injEq,Prod.mk.injEq] at h
   obtain ⟨⟨h1,h2⟩,h3⟩:=h
   unfold Instr.findNow
   rw [h1]
   by_cases hp:p.1=k
   .simp [Instr.sameNow,hp,bR,List.findIdx?_cons,h2,jS,Es]
   .have hpk:(k == p.1)=false:=by simp; exact λe=>hp e.symm
    have hpk':(p.1 == k)=false:=by simp [hp]
    have ih:=vD k es t (i+1) h3
    simp only [Instr.sameNow,Es,hpk]
    rw [ih]
    simp only [jS,List.findIdx?_cons,hpk',Bool.false_eq_true,if_false,bR,List.find?_cons,Option.some.injEq]
    cases t.findIdx? (·.1 == k) with
    | none=>rfl
    | some j=>simp only [Option.map_some,Option.bind_some]; cases h:(List.find? (·.1 == k) t) <;> simp [Nat.add_assoc,Nat.add_comm 1 j]
theorem gP {m:List (Bs×Value)} {k:Bs}:(m.findIdx? (·.1 == k)=none↔bR m k=none):=by
 simp [bR,List.findIdx?_eq_none_iff,List.find?_eq_none]
theorem oJ (m:List (Bs×Value)) (k k':Bs) (v:Value):bR (eU m k v) k'=if k'=k then some v else bR m k':=by
 induction m with
 | nil=>by_cases h:k'=k <;> simp [eU,bR,h]; exact λe=>h e.symm
 | cons p t ih =>
  unfold eU
  by_cases hp:p.1=k
  .rw [if_pos hp]
   by_cases h:k'=k
   .simp [bR,h]
   .have h1:(k == k')=false:=by simp; exact λe=>h e.symm
    have h2:(p.1 == k')=false:=by rw [hp]; exact h1
    simp [bR,h,List.find?_cons,h1,h2]
  .rw [if_neg hp]
   by_cases h:p.1=k'
   .have:¬ k'=k:=λe=>hp<|h.trans e
    simp [bR,h,this]
   .have h2:(p.1 == k')=false:=by simp [h]
    simp only [bR,List.find?_cons,h2] at ih ⊢
    exact ih
theorem zX {m:List (Bs×Value)} {k:Bs}:bR m k=none↔k ∉ m.map (·.1):=by
 simp only [bR,Option.map_eq_none_iff,List.find?_eq_none,List.mem_map,beq_iff_eq,not_exists,not_and]
theorem C9 : ∀ (m : List (Bs × Value)) (k : Bs) (v : Value) (x : Bs), x ∈ (eU m k v).map (·.1) -> x = k \/ x ∈ m.map (·.1)
 | [],k,v,x,h=>by simp [eU] at h; exact .inl h
 | p::t,k,v,x,h=>by
  unfold eU at h
  split at h
  .simp only [List.map_cons,List.mem_cons] at h ⊢
   exact h.imp id .inr
  .simp only [List.map_cons,List.mem_cons] at h ⊢
   rcases h with h | h
   .exact .inr<|.inl h
   .exact (C9 t k v x h).imp id .inr
theorem tY : ∀ (m : List (Bs × Value)) (k : Bs) (v : Value), (m.map (·.1)).Nodup -> ((eU m k v).map (·.1)).Nodup
 | [],k,v,_=>by simp [eU]
 | p::t,k,v,h=>by
  rw [List.map_cons,List.nodup_cons] at h
  unfold eU
  split
  .rename_i hp
   rw [List.map_cons,List.nodup_cons]
   exact ⟨by rw [<- hp]; exact h.1,h.2⟩
  .rename_i hp
   rw [List.map_cons,List.nodup_cons]
   exact ⟨λhm=>(C9 t k v _ hm).elim hp h.1,tY t k v h.2⟩
theorem rD (k : Bs) (v : Value) : ∀ (es : List MapEntry) (m : List (Bs × Value)) (i : Nat), es.map (λx => (x.key, x.val)) = lw m -> m.findIdx? (·.1 == k) = some i ->
  (es.modify i<|λx=>{ x with key:=sv k,val:=v }).map (λx=>(x.key,x.val))=lw (eU m k v)
 | [],m,i,h,hi=>by
  have:m=[]:=by cases m with | nil=>rfl | cons _ _=>simp [lw] at h
  subst this; simp at hi
 | x :: es, m, i, h, hi => by
  cases m with
  | nil=>simp at hi
  | cons p t =>
   simp only [List.map_cons,lw,List.cons.injEq,Prod.mk.injEq] at h
   obtain ⟨⟨h1,h2⟩,h3⟩:=h
   by_cases hp:p.1=k
   .simp [List.findIdx?_cons,hp] at hi
    subst hi
    simp [eU,hp,lw,h3,List.modify]
   .have hpk':(p.1 == k)=false:=by simp [hp]
    simp only [List.findIdx?_cons,hpk',Bool.false_eq_true,if_false,Option.map_eq_some_iff] at hi
    obtain ⟨j,hj,rfl⟩:=hi
    have ih:=rD k v es t j h3 hj
    simp only [List.modify_succ_cons,List.map_cons,ih,eU,hp,if_false,lw,h1,h2]
def MpS (P:Program) (T K E:TypeId):Prop:=P.underlying T=some (.map K E)/\P.underlying K=some .string

section
variable {P:Program} {e:Env} {h h':SH} {ty:TypeId}
theorem pU {K:TypeId} (hK:P.underlying K=some .string) {es:Array MapEntry} {m:List (Bs×Value)} (hm:es.toList.map (λx=>(x.key,x.val))=lw m) (k:Bs) (w:World) :
  (Instr.findKey K (sv k) es.toList).run P w = .ok (jS m k) w:=by
 unfold Instr.findKey
 simp only [Sem.run_bind,run_underlying hK,Result.andThen_ok,vD k es.toList m 0 hm,Sem.run_pure,Nat.zero_add]
 congr 1
 cases jS m k <;> rfl
theorem nM {K:TypeId} (hK:P.underlying K=some .string) (b:Bool) (n:Nat) (k:Bs) (w:World):(Instr.checkKey b (n+1) K (sv k)).run P w = .ok () w:=by
 unfold Instr.checkKey
 simp only [Sem.run_bind,run_underlying hK,Result.andThen_ok,Sem.run_pure]
theorem xU {T K E : TypeId} (hT : MpS P T K E) {z : Value} {sz bytes : Nat} (hE : Inf P E z sz bytes) {w : World} {b : Nat} {m : List (Bs × Value)} (hb : (mps b m).ok (hp w)) (k : Bs) (ok : Bool) :
  (Instr.lookup T (.map<|some b) (sv k) ok).run P w = .ok (if ok then .tuple #[(bR m k).getD z,.bool (bR m k).isSome] else (bR m k).getD z) w:=by
 obtain ⟨es,ck,h1,h2,_⟩:=hb
 obtain ⟨ie,g1,g2,_,_⟩:=hE.parts
 have hzero:(zeroValue E).run P w = .ok z w:=by simp [zeroValue,typeInfo,g1,g2]
 have hg:(getObj b).run P w = .ok (.map es ck) w:=run_getObj_map h1
 unfold Instr.lookup
 simp only [Sem.run_bind,run_underlying hT.1,Result.andThen_ok,hg,Sem.run_pure,nM hT.2,pU hT.2 h2]
 cases hi:m.findIdx? (·.1 == k) with
 | none =>
  have:=gP.1 hi
  have hf:jS m k=none:=by simp [jS,hi]
  rw [hf]
  cases ok <;> simp [this,hzero]
 | some j =>
  cases hl:bR m k with
  | none=>rw [gP.2 hl] at hi; cases hi
  | some v =>
   have hf:jS m k=some (j,v):=by simp [jS,hi,hl]
   rw [hf]
   cases ok <;> simp
theorem d9 {T K E:TypeId} {x y:Operand} {b:Nat} {m:List (Bs×Value)} {k:Bs} {z:Value} {sz bytes:Nat} (hx:e.ev? x=some (.map (some b))) (hy:e.ev? y=some (sv k)) (hT:MpS P T K E) (hE:Inf P E z sz bytes) (hs:Sel h (mps b m) h') :
  Vop P e h (.lookup T x y true) ty (.tuple #[(bR m k).getD z,.bool (bR m k).isSome]):=
 ⟨by simp,by simp,λρ w d pos after g hρ hh=>by
  simp [execOp,hρ x _ hx,hρ y _ hy,xU hT hE (hh.sel hs).1 k true]⟩
theorem bP {T K E:TypeId} {x y:Operand} {b:Nat} {m:List (Bs×Value)} {k:Bs} {z:Value} {sz bytes:Nat} (hx:e.ev? x=some (.map (some b))) (hy:e.ev? y=some (sv k)) (hT:MpS P T K E) (hE:Inf P E z sz bytes) (hs:Sel h (mps b m) h') :
  Vop P e h (.lookup T x y false) ty ((bR m k).getD z):=
 ⟨by simp,by simp,λρ w d pos after g hρ hh=>by
  simp [execOp,hρ x _ hx,hρ y _ hy,xU hT hE (hh.sel hs).1 k false]⟩
end
section
variable {c:Cx} {ops:Array Oper} {K:Act->World->Prop} {rest:List Oper} {e:Env} {h h' hr:SH}
theorem dB {T K' E ty : TypeId} {x y v : Operand} {pos : String} {after : Array Edge} {b : Nat} {m : List (Bs × Value)} {k : Bs} {u : Value} (hx : e.ev? x = some (.map (some b))) (hy : e.ev? y = some (sv k)) (hv : e.ev? v = some u)
  (hT:MpS c.P T K' E) (hs:Sel h (mps b m) h') (hnx:St c ops K rest e (mps b (eU m k u)::h')) :
  St c ops K (⟨none,.mapUpdate T x y v,ty,pos,after,none⟩::rest) e h :=
 eD (by simp) λa w hk hh hw => by
  have hh':=hh.sel hs
  obtain ⟨es,ck,h1,h2,b1,b2,b3⟩:=hh'.1
  have hnd:=tY m k u b3
  have h1':w.heap[b]? = some (.map es ck):=h1
  have hlt:b<w.heap.size:=(Array.getElem?_eq_some_iff.1 h1').1
  have hg:(getObj b).run c.P w = .ok (.map es ck) w:=run_getObj_map h1
  have hset:∀ o,(setObj b o).run c.P w = .ok () { w with heap:=w.heap.setIfInBounds b o }:=λo=>by simp [setObj,Sem.run,h1']
  have hnew:∀ es' ck',es'.toList.map (λx=>(x.key,x.val))=lw (eU m k u)->(∀ x∈es'.toList,x.born<ck')->(es'.toList.map (·.born)).Nodup->Holds { w with heap:=w.heap.setIfInBounds b (.map es' ck') } (mps b (eU m k u)::h'):=λes' ck' he hb1 hb2=>by
   refine ⟨⟨es',ck',?_,he,hb1,hb2,hnd⟩,hh'.2.1,bn.loc hh'.2.2 λc hc=>?_⟩
   .show (w.heap.setIfInBounds b _)[b]? = _
    simp [hlt]
   .exact (dZ w b c _<|λe=>hh'.2.1 b rfl (e ▸ hc)).symm
  have hsame:∀ es' ck',Same w { w with heap:=w.heap.setIfInBounds b (.map es' ck') }:=λes' ck'=>⟨rfl,rfl,rfl,Nat.le_refl _,by simp,pJ (b:=b) (λo ho=>by rw [h1'] at ho; cases ho; rfl) (λo ho=>by
   have:(w.heap.setIfInBounds b<|.map es' ck')[b]? = some o:=ho
   simp [hlt] at this; rw [<- this]; rfl) λc hc=>dZ w b c _ hc⟩
  have hrun : ∃ w', (Instr.mapUpdate T (.map<|some b) (sv k) u).run c.P w = .ok () w' /\ Holds w' (mps b (eU m k u) :: h') /\ Same w w' := by
   unfold Instr.mapUpdate
   simp only [Sem.run_bind,run_underlying hT.1,Result.andThen_ok,hg,nM hT.2,pU hT.2 h2]
   cases hi:m.findIdx? (·.1 == k) with
   | none =>
    have hl:=gP.1 hi
    have hf:jS m k=none:=by simp [jS,hi]
    simp only [hf,hset]
    refine ⟨_,rfl,hnew _ _ ?_ ?_ ?_,hsame _ _⟩
    rotate_left
    .intro x hx
     simp only [Array.toList_push,List.mem_append,List.mem_singleton] at hx
     rcases hx with hx | rfl
     .have:=b1 x hx; omega
     .exact Nat.lt_succ_self _
    .simp only [Array.toList_push,List.map_append,List.map_cons,List.map_nil]
     refine List.nodup_append.2 ⟨b2,by simp,λx hx y hy e=>?_⟩
     obtain ⟨z,hz,rfl⟩:=List.mem_map.1 hx
     have:=b1 z hz
     simp at hy
     omega
    have hup : eU m k u = m ++ [(k, u)] := by
     have:∀ (m:List (Bs×Value)),bR m k=none->eU m k u=m++[(k,u)]:=by
      intro m
      induction m with
      | nil=>intro _; rfl
      | cons p t ih =>
       intro hm
       have hp:¬ p.1=k:=λe=>by simp [bR,e] at hm
       have hpk:(p.1 == k)=false:=by simp [hp]
       have ht:bR t k=none:=by simpa [bR,List.find?_cons,hpk] using hm
       simp [eU,hp,ih ht]
     exact this m hl
    rw [hup]
    simp only [Array.toList_push,List.map_append,List.map_cons,List.map_nil,h2,lw]
   | some j =>
    cases hl:bR m k with
    | none=>rw [gP.2 hl] at hi; cases hi
    | some v0 =>
     have hkey:((es[j]?).map (·.key)).getD (sv k)=sv k:=by
      cases hej:es[j]? with
      | none=>rfl
      | some x =>
       have h3:(es.toList.map<|λx=>(x.key,x.val))[j]? = some (x.key,x.val):=by simp [hej]
       rw [h2] at h3
       simp only [lw,List.getElem?_map,Option.map_eq_some_iff] at h3
       obtain ⟨p,hp,hpe⟩:=h3
       simp only [Prod.mk.injEq] at hpe
       have h4:=List.findIdx?_eq_some_iff_getElem.1 hi
       obtain ⟨hjl,h5,_⟩:=h4
       have:m[j]=p:=by rw [Zy hjl] at hp; exact Option.some.inj hp
       rw [this] at h5
       simp only [beq_iff_eq] at h5
       simp [<- hpe.1,h5]
     have hf:jS m k=some (j,v0):=by simp [jS,hi,hl]
     simp only [hf,hkey]
     have hstay:(Instr.keyThatStays (sv k)<|sv k).run c.P w = .ok (sv k) w:=by
      unfold Instr.keyThatStays
      rw [if_pos (by unfold Instr.sameBits; rw [Es]; simp)]
      rfl
     simp only [Sem.run_bind,hstay,Result.andThen_ok,hset]
     have hmb:(es.toList.modify j<|λx=>{ x with key:=sv k,val:=u }).map (·.born)=es.toList.map (·.born):=mX _ _ _<|λ_=>rfl
     refine ⟨_,rfl,hnew _ _ ?_ ?_ ?_,hsame _ _⟩
     rotate_left
     .intro x hx
      rw [Array.toList_modify] at hx
      have hx':x.born∈(es.toList.modify j<|λx=>{ x with key:=sv k,val:=u }).map (·.born):=List.mem_map.2 ⟨x,hx,rfl⟩
      rw [hmb] at hx'
      obtain ⟨z,hz,he⟩:=List.mem_map.1 hx'
      have:=b1 z hz
      omega
     .rw [Array.toList_modify,hmb]; exact b2
     have:=rD k u es.toList m j h2 hi
     simpa using this
  obtain ⟨w',hr,hH,hS⟩:=hrun
  simp only [execOp,hk.ev hx,hk.ev hy,hk.ev hv,Sem.run_bind,hr,Result.andThen_ok,Sem.run_pure]
  exact hnx _ _ hk hH<|hw.trans hS
theorem IR {T K' E ty : TypeId} {x y v : Operand} {pos : String} {after : Array Edge} {b : Nat} {m : List (Bs × Value)} {k : Bs} {u : Value} (hx : e.ev? x = some (.map (some b))) (hy : e.ev? y = some (sv k)) (hv : e.ev? v = some u)
  (hT:MpS c.P T K' E) (hs:Sel h (mps b m) h') (hnx:St c ops K rest e (mps b (eU m k u)::h')) :
  St c ops K (⟨none,.insert T x y v,ty,pos,after,none⟩::rest) e h :=
 eD (by simp) λa w hk hh hw => by
  have hh':=hh.sel hs
  obtain ⟨es,ck,h1,h2,b1,b2,b3⟩:=hh'.1
  have hnd:=tY m k u b3
  have h1':w.heap[b]? = some (.map es ck):=h1
  have hlt:b<w.heap.size:=(Array.getElem?_eq_some_iff.1 h1').1
  have hg:(getObj b).run c.P w = .ok (.map es ck) w:=run_getObj_map h1
  have hset:∀ o,(setObj b o).run c.P w = .ok () { w with heap:=w.heap.setIfInBounds b o }:=λo=>by simp [setObj,Sem.run,h1']
  have hnew:∀ es' ck',es'.toList.map (λx=>(x.key,x.val))=lw (eU m k u)->(∀ x∈es'.toList,x.born<ck')->(es'.toList.map (·.born)).Nodup->Holds { w with heap:=w.heap.setIfInBounds b (.map es' ck') } (mps b (eU m k u)::h'):=λes' ck' he hb1 hb2=>by
   refine ⟨⟨es',ck',?_,he,hb1,hb2,hnd⟩,hh'.2.1,bn.loc hh'.2.2 λc hc=>?_⟩
   .show (w.heap.setIfInBounds b _)[b]? = _
    simp [hlt]
   .exact (dZ w b c _<|λe=>hh'.2.1 b rfl (e ▸ hc)).symm
  have hsame:∀ es' ck',Same w { w with heap:=w.heap.setIfInBounds b (.map es' ck') }:=λes' ck'=>⟨rfl,rfl,rfl,Nat.le_refl _,by simp,pJ (b:=b) (λo ho=>by rw [h1'] at ho; cases ho; rfl) (λo ho=>by
   have:(w.heap.setIfInBounds b<|.map es' ck')[b]? = some o:=ho
   simp [hlt] at this; rw [<- this]; rfl) λc hc=>dZ w b c _ hc⟩
  have hrun : ∃ w', (Instr.mapUpdate T (.map<|some b) (sv k) u).run c.P w = .ok () w' /\ Holds w' (mps b (eU m k u) :: h') /\ Same w w' := by
   unfold Instr.mapUpdate
   simp only [Sem.run_bind,run_underlying hT.1,Result.andThen_ok,hg,nM hT.2,pU hT.2 h2]
   cases hi:m.findIdx? (·.1 == k) with
   | none =>
    have hl:=gP.1 hi
    have hf:jS m k=none:=by simp [jS,hi]
    simp only [hf,hset]
    refine ⟨_,rfl,hnew _ _ ?_ ?_ ?_,hsame _ _⟩
    rotate_left
    .intro x hx
     simp only [Array.toList_push,List.mem_append,List.mem_singleton] at hx
     rcases hx with hx | rfl
     .have:=b1 x hx; omega
     .exact Nat.lt_succ_self _
    .simp only [Array.toList_push,List.map_append,List.map_cons,List.map_nil]
     refine List.nodup_append.2 ⟨b2,by simp,λx hx y hy e=>?_⟩
     obtain ⟨z,hz,rfl⟩:=List.mem_map.1 hx
     have:=b1 z hz
     simp at hy
     omega
    have hup : eU m k u = m ++ [(k, u)] := by
     have:∀ (m:List (Bs×Value)),bR m k=none->eU m k u=m++[(k,u)]:=by
      intro m
      induction m with
      | nil=>intro _; rfl
      | cons p t ih =>
       intro hm
       have hp:¬ p.1=k:=λe=>by simp [bR,e] at hm
       have hpk:(p.1 == k)=false:=by simp [hp]
       have ht:bR t k=none:=by simpa [bR,List.find?_cons,hpk] using hm
       simp [eU,hp,ih ht]
     exact this m hl
    rw [hup]
    simp only [Array.toList_push,List.map_append,List.map_cons,List.map_nil,h2,lw]
   | some j =>
    cases hl:bR m k with
    | none=>rw [gP.2 hl] at hi; cases hi
    | some v0 =>
     have hkey:((es[j]?).map (·.key)).getD (sv k)=sv k:=by
      cases hej:es[j]? with
      | none=>rfl
      | some x =>
       have h3:(es.toList.map<|λx=>(x.key,x.val))[j]? = some (x.key,x.val):=by simp [hej]
       rw [h2] at h3
       simp only [lw,List.getElem?_map,Option.map_eq_some_iff] at h3
       obtain ⟨p,hp,hpe⟩:=h3
       simp only [Prod.mk.injEq] at hpe
       have h4:=List.findIdx?_eq_some_iff_getElem.1 hi
       obtain ⟨hjl,h5,_⟩:=h4
       have:m[j]=p:=by rw [Zy hjl] at hp; exact Option.some.inj hp
       rw [this] at h5
       simp only [beq_iff_eq] at h5
       simp [<- hpe.1,h5]
     have hf:jS m k=some (j,v0):=by simp [jS,hi,hl]
     simp only [hf,hkey]
     have hstay:(Instr.keyThatStays (sv k)<|sv k).run c.P w = .ok (sv k) w:=by
      unfold Instr.keyThatStays
      rw [if_pos (by unfold Instr.sameBits; rw [Es]; simp)]
      rfl
     simp only [Sem.run_bind,hstay,Result.andThen_ok,hset]
     have hmb:(es.toList.modify j<|λx=>{ x with key:=sv k,val:=u }).map (·.born)=es.toList.map (·.born):=mX _ _ _<|λ_=>rfl
     refine ⟨_,rfl,hnew _ _ ?_ ?_ ?_,hsame _ _⟩
     rotate_left
     .intro x hx
      rw [Array.toList_modify] at hx
      have hx':x.born∈(es.toList.modify j<|λx=>{ x with key:=sv k,val:=u }).map (·.born):=List.mem_map.2 ⟨x,hx,rfl⟩
      rw [hmb] at hx'
      obtain ⟨z,hz,he⟩:=List.mem_map.1 hx'
      have:=b1 z hz
      omega
     .rw [Array.toList_modify,hmb]; exact b2
     have:=rD k u es.toList m j h2 hi
     simpa using this
  obtain ⟨w',hr,hH,hS⟩:=hrun
  simp only [execOp,hk.ev hx,hk.ev hy,hk.ev hv,Sem.run_bind,hr,Result.andThen_ok,Sem.run_pure]
  exact hnx _ _ hk hH<|hw.trans hS
theorem fq {d:Nat} {T ty:TypeId} {pos:String} {after:Array Edge} (hd:d<c.n) (hnx:∀ b,St c ops K rest ((d,.map (some b))::e) (mps b []::h)) :
  St c ops K (⟨some d,.makeMap T none,ty,pos,after,none⟩::rest) e h :=
 eD (by simp) λa w hk hh hw=>by
  simp only [execOp,Instr.makeMap,Option.map_none,Sem.run_bind,run_newObj_alloc,Result.andThen_ok,Sem.run_pure]
  have hA:=Holds.alloc hh (.map #[] 0)
  exact hnx _ _ _ (hk.put _ hd) ⟨⟨#[],0,hA.1,rfl,λx hx=>by simp at hx,List.nodup_nil,List.nodup_nil⟩,hA.2.1,hA.2.2⟩<|hw.trans (Grew.alloc _ _ rfl).toSame
end
theorem Et (a:Bs):(⟨⟨a⟩⟩:ByteArray).size=a.length:=rfl
theorem jk (a:Bs):(⟨⟨a⟩⟩:ByteArray).toList=a:=ByteArray.toList_eq _
section
variable {P:Program} {e:Env} {h h':SH} {ty:TypeId}
theorem iM {t t':TypeId} {x y:Operand} {a b:Bs} (hx:e.ev? x=some (sv a)) (hy:e.ev? y=some (sv b)):Vop P e h (.binOp .eql t x y t') ty (.bool (a == b)):=
 ⟨by simp,by simp,λρ w d pos after g hρ _=>by simp [execOp,hρ x _ hx,hρ y _ hy,eqGuard,binOp,Op.stringOp,jk]⟩
theorem pV {t t':TypeId} {x y:Operand} {a b:Bs} (hx:e.ev? x=some (sv a)) (hy:e.ev? y=some (sv b)):Vop P e h (.binOp .neq t x y t') ty (.bool (!(a == b))):=
 ⟨by simp,by simp,λρ w d pos after g hρ _=>by simp [execOp,hρ x _ hx,hρ y _ hy,eqGuard,binOp,Op.stringOp,jk]⟩
theorem v_slss {t t':TypeId} {x y:Operand} {a b:Bs} (hx:e.ev? x=some (sv a)) (hy:e.ev? y=some (sv b)):Vop P e h (.binOp .lss t x y t') ty (.bool (Op.bytesLess a b)):=
 ⟨by simp,by simp,λρ w d pos after g hρ _=>by simp [execOp,hρ x _ hx,hρ y _ hy,eqGuard,binOp,Op.stringOp,jk]⟩
theorem v_sgtr {t t':TypeId} {x y:Operand} {a b:Bs} (hx:e.ev? x=some (sv a)) (hy:e.ev? y=some (sv b)):Vop P e h (.binOp .gtr t x y t') ty (.bool (!(Op.bytesLess a b || a == b))):=
 ⟨by simp,by simp,λρ w d pos after g hρ _=>by simp [execOp,hρ x _ hx,hρ y _ hy,eqGuard,binOp,Op.stringOp,jk]⟩
theorem Eu {t ty':TypeId} {x:Operand} {a:Bs} (hx:e.ev? x=some (sv a)) (ht:P.underlying t=some .string):Vop P e h (.call { callee:=.builtin .len,args := #[x],argTypes := #[t] }) ty' (.int .i64 a.length):=
 ⟨by simp,by simp,λρ w d pos after g hρ _=>by simp [execOp,resolve,invoke,builtin,hρ x _ hx,Builtin.len_,run_underlying ht,goInt,Et,-ByteArray.size_data]⟩
theorem vE {T : TypeId} {x y : Operand} {a : Bs} {k : Nat} {kd : IntKind} {i : Int} {u : UInt8} (hx : e.ev? x = some (sv a)) (hy : e.ev? y = some (.int kd i)) (hT : P.underlying T = some .string) (hi : i = (k : Int)) (hu : a[k]? = some u) :
  Vop P e h (.index T x y) ty (.int .u8 u.toNat):=
 ⟨by simp,by simp,λρ w d pos after g hρ _=>by
  subst hi
  have h1:(⟨⟨a⟩⟩:ByteArray)[k]? = some u:=by
   have hlt:=(List.getElem?_eq_some_iff.1 hu).1
   have h2:k<(⟨⟨a⟩⟩:ByteArray).size:=hlt
   obtain ⟨_,h3⟩:=List.getElem?_eq_some_iff.1 hu
   rw [getElem?_pos (⟨⟨a⟩⟩:ByteArray) k h2,<- h3]; rfl
  have h0:(0:Int)<=k:=by omega
  simp [execOp,hρ x _ hx,hρ y _ hy,Instr.index,asIntOf,run_underlying hT,h1]⟩
theorem v_smin {ty':TypeId} {x y:Operand} {ts:Array TypeId} {a b:Bs} (hx:e.ev? x=some (sv a)) (hy:e.ev? y=some (sv b)):Vop P e h (.call { callee:=.builtin .min,args := #[x,y],argTypes:=ts }) ty' (sv (if Op.bytesLess a b || a == b then a else b)):=
 ⟨by simp,by simp,λρ w d pos after g hρ _=>by
  simp [execOp,resolve,invoke,builtin,hρ x _ hx,hρ y _ hy,Builtin.min_,Builtin.min2,Op.stringOp,jk,asBool]
  split <;> simp⟩
theorem v_mlen {t ty' K E : TypeId} {x : Operand} {b : Nat} {m : List (Bs × Value)} (hx : e.ev? x = some (.map (some b))) (ht : P.underlying t = some (.map K E)) (hs : Sel h (mps b m) h') :
  Vop P e h (.call { callee:=.builtin .len,args := #[x],argTypes := #[t] }) ty' (.int .i64 m.length):=
 ⟨by simp,by simp,λρ w d pos after g hρ hh=>by
  obtain ⟨es,ck,h1,h2,_⟩:=(hh.sel hs).1
  have hg:(getObj b).run P w = .ok (.map es ck) w:=run_getObj_map h1
  have hl:es.size=m.length:=by
   have:=congrArg List.length h2
   simpa [lw] using this
  simp [execOp,resolve,invoke,builtin,hρ x _ hx,Builtin.len_,run_underlying ht,goInt,hg,hl]⟩
end
section
variable {c:Cx} {ops:Array Oper} {K:Act->World->Prop} {rest:List Oper} {e:Env} {h h' hr:SH}
theorem Lv {d:Nat} {T ty:TypeId} {x:Operand} {pos:String} {after:Array Edge} {a:Bs} (hx:e.ev? x=some (sv a)) (hT:c.P.underlying T=some .string) (hd:d<c.n)
  (hnx:∀ b,St c ops K rest ((d,.pointer (some ⟨b,0,none⟩))::e) (pt b (.stringIter ⟨⟨a⟩⟩ 0)::h)) :
  St c ops K (⟨some d,.range T x,ty,pos,after,none⟩::rest) e h :=
 eD (by simp) λact w hk hh hw=>by
  simp only [execOp,Instr.range,hk.ev hx,Sem.run_bind,run_underlying hT,Result.andThen_ok,Sem.run_pure,run_newObj_alloc]
  exact hnx _ _ _ (hk.put _ hd) (Holds.alloc hh _)<|hw.trans (Grew.alloc _ _ rfl).toSame
theorem Lx {d:Nat} {ty:TypeId} {x:Operand} {pos:String} {after:Array Edge} {a:Bs} {b p:Nat} (hx:e.ev? x=some (.pointer (some ⟨b,0,none⟩))) (hs:Sel h (pt b (.stringIter ⟨⟨a⟩⟩ p)) h') (hp:a.length<=p) (hd:d<c.n)
  (hnx:St c ops K rest ((d,.tuple #[.bool false])::e) h) :
  St c ops K (⟨some d,.next x true,ty,pos,after,none⟩::rest) e h :=
 eD (by simp) λact w hk hh hw=>by
  have hg:w.heap[b]? = some (.stringIter ⟨⟨a⟩⟩ p):=(hh.sel hs).1
  have hgo:(getObj b).run c.P w = .ok (.stringIter ⟨⟨a⟩⟩ p) w:=by simp [getObj,Sem.run,hg]
  have hlt:¬ p<(⟨⟨a⟩⟩:ByteArray).size:=by rw [Et]; omega
  simp only [execOp,Instr.next,hk.ev hx,Sem.run_bind,hgo,Result.andThen_ok,if_neg hlt,Sem.run_pure]
  exact hnx _ _ (hk.put _ hd) hh hw
theorem NE {d:Nat} {ty:TypeId} {x:Operand} {pos:String} {after:Array Edge} {a:Bs} {b p:Nat} (hx:e.ev? x=some (.pointer (some ⟨b,0,none⟩))) (hs:Sel h (pt b (.stringIter ⟨⟨a⟩⟩ p)) h') (hp:p<a.length) (hd:d<c.n)
  (hnx:St c ops K rest ((d,.tuple #[.bool true,.int .i64 p,.int .i32 (Utf8.decode ⟨⟨a⟩⟩ p).1])::e) (pt b (.stringIter ⟨⟨a⟩⟩ (p+(Utf8.decode ⟨⟨a⟩⟩ p).2))::h')) :
  St c ops K (⟨some d,.next x true,ty,pos,after,none⟩::rest) e h :=
 eD (by simp) λact w hk hh hw=>by
  have hh':=hh.sel hs
  have hg:w.heap[b]? = some (.stringIter ⟨⟨a⟩⟩ p):=hh'.1
  have hgo:(getObj b).run c.P w = .ok (.stringIter ⟨⟨a⟩⟩ p) w:=by simp [getObj,Sem.run,hg]
  have hlt:p<(⟨⟨a⟩⟩:ByteArray).size:=by rw [Et]; omega
  have hset:∀ o,(setObj b o).run c.P w = .ok () (w.putObj b o):=λo=>by simp [setObj,Sem.run,hg,World.putObj]
  simp only [execOp,Instr.next,hk.ev hx,Sem.run_bind,hgo,Result.andThen_ok,if_pos hlt,Sem.run_pure,hset]
  refine hnx _ _ (hk.put _ hd) (Holds.putObj hh' _)<|hw.trans<|Same.putObj w b _ hg rfl rfl
end
theorem Da {a:Bs} {p:Nat} {u:UInt8} (hu:a[p]? = some u) (h:u.toNat<128):Utf8.decode ⟨⟨a⟩⟩ p=(u.toNat,1):=by
 have hg:(⟨⟨a⟩⟩:ByteArray).get! p=u:=by
  obtain ⟨hl,he⟩:=List.getElem?_eq_some_iff.1 hu
  show (⟨a⟩:Array UInt8)[p]! = u
  rw [getElem!_pos (⟨a⟩:Array UInt8) p hl]; exact he
 unfold Utf8.decode
 simp only [Nat.add_zero,hg,h,if_true]
theorem LA {a:Bs} {p:Nat} {u:UInt8} (hu:a[p]? = some u) (h:128<=u.toNat):128<=(Utf8.decode ⟨⟨a⟩⟩ p).1:=by
 have hg:(⟨⟨a⟩⟩:ByteArray).get! p=u:=by
  obtain ⟨hl,he⟩:=List.getElem?_eq_some_iff.1 hu
  show (⟨a⟩:Array UInt8)[p]! = u
  rw [getElem!_pos (⟨a⟩:Array UInt8) p hl]; exact he
 unfold Utf8.decode
 simp only [Nat.add_zero,hg,show ¬ u.toNat<128 by omega,if_false,Utf8.runeError]
 split
 .split
  .show 128<=_; assumption
  .show 128<=0xFFFD; omega
 .split
  .split
   .rename_i _ _ hc
    have:=(Bool.and_eq_true _ _ ▸ hc:_/\_).1
    simp at this
    show 128<=_; omega
   .show 128<=0xFFFD; omega
  .split
   .split
    .rename_i _ _ _ hc
     have:=(Bool.and_eq_true _ _ ▸ hc:_/\_).1
     simp at this
     show 128<=_; omega
    .show 128<=0xFFFD; omega
   .show 128<=0xFFFD; omega
section
variable {c:Cx} {ops:Array Oper} {K:Act->World->Prop} {rest:List Oper} {e:Env} {h:SH}
theorem lX {d:Option Nat} {op:Op} {ty:TypeId} {pos:String} {after:Array Edge} {g gd:Nat} {want:Bool} (hg:((ops[g]?).bind (·.dst))=some gd) (hgv:e.get? gd=some (.bool want)) (hn:St c ops K (⟨d,op,ty,pos,after,none⟩::rest) e h) :
  St c ops K (⟨d,op,ty,pos,after,some (g,want)⟩::rest) e h:=λa w hk hh hw=>by
 have h1:=hn a w hk hh hw
 unfold LsW at h1 ⊢
 have e1:Region.wanted (⟨d,op,ty,pos,after,none⟩:Oper) (yielded ops a.tmps)=true:=by simp [Region.wanted]
 have e2:Region.wanted (⟨d,op,ty,pos,after,some (g,want)⟩:Oper) (yielded ops a.tmps)=true:=by simp [Region.wanted,fI hg hgv hk]
 rw [if_pos e1] at h1
 rw [if_pos e2]
 exact h1
end
end Go.Ck
namespace Go.Ck
open Go
section
variable {P:Program} {e:Env} {h:SH} {ty:TypeId}
end
section
variable {c:Cx} {ops:Array Oper} {K:Act->World->Prop} {rest:List Oper} {e:Env} {h h' hr:SH}
theorem sV {d:Nat} {op:Op} {ty:TypeId} {pos:String} {after:Array Edge} {v:Value} (hv:Vop c.P e h op ty v) (hn:St c ops K rest ((d,v)::e) h) (hd:d<c.n:=by exact ltn rfl) :
  St c ops K (⟨some d,op,ty,pos,after,none⟩::rest) e h:=IM hv hd hn
theorem sG {d g gd:Nat} {op:Op} {ty:TypeId} {pos:String} {after:Array Edge} {v:Value} {want:Bool} (hg:((ops[g]?).bind (·.dst))=some gd) (hgv:e.get? gd=some (.bool want))
  (hv:Vop c.P e h op ty v) (hn:St c ops K rest ((d,v)::e) h) (hd:d<c.n:=by exact ltn rfl):St c ops K (⟨some d,op,ty,pos,after,some (g,want)⟩::rest) e h:=st_valg hg hgv hv hd hn
theorem aF {d g gd:Nat} {op:Op} {ty:TypeId} {pos:String} {after:Array Edge} {want b:Bool} (hg:((ops[g]?).bind (·.dst))=some gd) (hgv:e.get? gd=some (.bool b)) (hb:b = !want)
  (hn:St c ops K rest ((d,undef)::e) h) (hd:d<c.n:=by exact ltn rfl):St c ops K (⟨some d,op,ty,pos,after,some (g,want)⟩::rest) e h:=st_skip hg hgv hb hd hn
theorem aH {d:Nat} {f:Operand} {az:Array Operand} {ts:Array TypeId} {ty:TypeId} {pos:String} {after:Array Edge} {k:FuncId} {fi cp:Array Value} {vs:List Value} {args:Array Value} {hf:SH} {R:Value->SH->Prop}
  (hv:e.ev? f=some (.func (.func k) fi cp)) (has:az.toList.mapM e.ev? = some vs) (hE:Enters c.P k) (ha:fi++vs.toArray++cp=args) (ct:Ct c.P k args hf R)
  (hn:∀ v h',R v h'->St c ops K rest ((d,v)::e) (h'++hr)) (pk:Pk h hf hr:=by repeat (first | exact Pk.nil | (apply Pk.cons; (repeat (first | exact Sel.here | apply Sel.there))))) (hd:d<c.n:=by exact ltn rfl) :
  St c ops K (⟨some d,.call { callee:=.value f,args:=az,argTypes:=ts },ty,pos,after,none⟩::rest) e h:=st_call hv has hE ha ct pk hd hn
theorem bf {d:Nat} {f:Operand} {az:Array Operand} {ts:Array TypeId} {ty:TypeId} {pos:String} {after:Array Edge} {k:FuncId} {fi cp:Array Value} {vs:List Value} {args:Array Value} {hf:SH} {v:Value}
  (hv:e.ev? f=some (.func (.func k) fi cp)) (has:az.toList.mapM e.ev? = some vs) (hE:Enters c.P k) (ha:fi++vs.toArray++cp=args) (ct:Reads c.P k args hf v)
  (hn:St c ops K rest ((d,v)::e) h) (pk:Pk h hf hr:=by repeat (first | exact Pk.nil | (apply Pk.cons; (repeat (first | exact Sel.here | apply Sel.there))))) (hd:d<c.n:=by exact ltn rfl) :
  St c ops K (⟨some d,.call { callee:=.value f,args:=az,argTypes:=ts },ty,pos,after,none⟩::rest) e h:=Ns hv has hE ha ct pk hd hn
theorem bS {d g gd:Nat} {f:Operand} {az:Array Operand} {ts:Array TypeId} {ty:TypeId} {pos:String} {after:Array Edge} {k:FuncId} {fi cp:Array Value} {vs:List Value} {args:Array Value} {hf:SH} {v:Value} {want:Bool}
  (hg:((ops[g]?).bind (·.dst))=some gd) (hgv:e.get? gd=some (.bool want))
  (hv:e.ev? f=some (.func (.func k) fi cp)) (has:az.toList.mapM e.ev? = some vs) (hE:Enters c.P k) (ha:fi++vs.toArray++cp=args) (ct:Reads c.P k args hf v)
  (hn:St c ops K rest ((d,v)::e) h) (pk:Pk h hf hr:=by repeat (first | exact Pk.nil | (apply Pk.cons; (repeat (first | exact Sel.here | apply Sel.there))))) (hd:d<c.n:=by exact ltn rfl) :
  St c ops K (⟨some d,.call { callee:=.value f,args:=az,argTypes:=ts },ty,pos,after,some (g,want)⟩::rest) e h:=Lt hg hgv hv has hE ha ct pk hd hn
theorem bi {T E:TypeId} {x y:Operand} {ty:TypeId} {pos:String} {after:Array Edge} {b off:Nat} {l l':List Value} {v:Value} {k:SH}
  (hx:e.ev? x=some (.pointer<|some ⟨b,off,none⟩)) (hy:e.ev? y=some v) (hT:Sz c.P T 1) (hn:St c ops K rest e (pt b (cl l' E)::k))
  (hv:v.oneCell'=true:=by first | rfl | assumption) (hs:Sel h (pt b<|cl l E) k:=by repeat (first | exact Sel.here | apply Sel.there)) (ho:off<l.length:=by first | exact ltn rfl | assumption | (simp only [List.length_append,F4,En]; omega) | omega) (hl:SetAt l off v l':=by first | (repeat (first | exact SetAt.zero | apply SetAt.succ)); done | exact SetAt.set) :
  St c ops K (⟨none,.store T x y,ty,pos,after,none⟩::rest) e h:=Nt hx hy hT hv hs ho hl hn
theorem ai {T E:TypeId} {x y:Operand} {ty:TypeId} {pos:String} {after:Array Edge} {b n:Nat} {l vs:List Value} {k:SH}
  (hx:e.ev? x=some (.pointer<|some ⟨b,0,none⟩)) (hy:e.ev? y=some (.agg vs.toArray)) (hT:Sz c.P T n) (hn:vs.length=n) (h1:vs.all Value.oneCell'=true)
  (hnx:St c ops K rest e (pt b (cl vs E)::k)) (hs:Sel h (pt b<|cl l E) k:=by repeat (first | exact Sel.here | apply Sel.there)) (hl:l.length=vs.length:=by exact rfl) :
  St c ops K (⟨none,.store T x y,ty,pos,after,none⟩::rest) e h:=Lu hx hy hT hn (ones h1) hs hl hnx
theorem au {d:Nat} {T ty:TypeId} {pos:String} {after:Array Edge} {zs:List Value} (hA:Al c.P T zs)
  (hn:∀ b,St c ops K rest ((d,.pointer (some ⟨b,0,none⟩))::e) (pt b (cl zs T)::h)) (hd:d<c.n:=by exact ltn rfl):St c ops K (⟨some d,.alloc T,ty,pos,after,none⟩::rest) e h:=Nu hA hd hn
theorem aV {d:Nat} {T ty:TypeId} {x:Operand} {pos:String} {after:Array Edge} {v:Value} {zs:List Value} (hx:e.ev? x=some v) (hz:v.cells=zs.toArray)
  (hn:∀ b,St c ops K rest ((d,.pointer (some ⟨b,0,none⟩))::e) (pt b (cl zs T)::h)) (hd:d<c.n:=by exact ltn rfl):St c ops K (⟨some d,.box T x,ty,pos,after,none⟩::rest) e h:=st_box hx hz hd hn

/-! In a region that draws its order. -/
variable {pre:Nat->Bool} {hC:SH} {t:Ord}
theorem bu {i d:Nat} {op:Op} {ty:TypeId} {pos:String} {after:Array Edge} {v:Value} (hi:ops[i]? = some ⟨some d,op,ty,pos,after,none⟩) (hv:Vop c.P e hC op ty v)
  (hn:DrL c ops pre hC K t ((d,v)::e) h) (hs:Sub hC h:=by repeat (first | exact Sub.refl _ | exact Sub.nil _ | refine Sub.sel slq ?_ | apply Sub.cons)) (hd:d<c.n:=by exact ltn rfl):DrL c ops pre hC K (.cons (i,true) t) e h:=dr_val hi hs hv hd hn
theorem jl {i d g gd:Nat} {op:Op} {ty:TypeId} {pos:String} {after:Array Edge} {v:Value} {want:Bool} (hi:ops[i]? = some ⟨some d,op,ty,pos,after,some (g,want)⟩) (hg:((ops[g]?).bind (·.dst))=some gd) (hgv:e.get? gd=some (.bool want))
  (hv:Vop c.P e hC op ty v) (hn:DrL c ops pre hC K t ((d,v)::e) h) (hs:Sub hC h:=by repeat (first | exact Sub.refl _ | exact Sub.nil _ | refine Sub.sel slq ?_ | apply Sub.cons)) (hd:d<c.n:=by exact ltn rfl):DrL c ops pre hC K (.cons (i,true) t) e h:=dr_valg hi hg hgv hs hv hd hn
theorem kC {i d g gd:Nat} {op:Op} {ty:TypeId} {pos:String} {after:Array Edge} {want b:Bool} (hi:ops[i]? = some ⟨some d,op,ty,pos,after,some (g,want)⟩) (hg:((ops[g]?).bind (·.dst))=some gd) (hgv:e.get? gd=some (.bool b)) (hb:b = !want)
  (hn:DrL c ops pre hC K t ((d,undef)::e) h) (hs:Sub hC h:=by repeat (first | exact Sub.refl _ | exact Sub.nil _ | refine Sub.sel slq ?_ | apply Sub.cons)) (hd:d<c.n:=by exact ltn rfl):DrL c ops pre hC K (.cons (i,true) t) e h:=dr_skip hi hg hgv hb hs hd hn
theorem dV {i d:Nat} {op:Op} {ty:TypeId} {pos:String} {after:Array Edge} {v:Value} (hi:ops[i]? = some ⟨some d,op,ty,pos,after,none⟩) (hv:Vop c.P e [] op ty v)
  (hn:DrL c ops pre hC K t ((d,v)::e) h) (hd:d<c.n:=by exact ltn rfl):DrL c ops pre hC K (.pure i t) e h:=drp_val hi hv hd hn
theorem dC {i d g gd:Nat} {op:Op} {ty:TypeId} {pos:String} {after:Array Edge} {v:Value} {want:Bool} (hi:ops[i]? = some ⟨some d,op,ty,pos,after,some (g,want)⟩) (hg:((ops[g]?).bind (·.dst))=some gd) (hgv:e.get? gd=some (.bool want))
  (hv:Vop c.P e [] op ty v) (hn:DrL c ops pre hC K t ((d,v)::e) h) (hd:d<c.n:=by exact ltn rfl):DrL c ops pre hC K (.pure i t) e h:=Ny hi hg hgv hv hd hn
theorem jm {i d g gd:Nat} {op:Op} {ty:TypeId} {pos:String} {after:Array Edge} {want b:Bool} (hi:ops[i]? = some ⟨some d,op,ty,pos,after,some (g,want)⟩) (hg:((ops[g]?).bind (·.dst))=some gd) (hgv:e.get? gd=some (.bool b)) (hb:b = !want)
  (hn:DrL c ops pre hC K t ((d,undef)::e) h) (hd:d<c.n:=by exact ltn rfl):DrL c ops pre hC K (.pure i t) e h:=Nz hi hg hgv hb hd hn
theorem jE {i d:Nat} {f:Operand} {az:Array Operand} {ts:Array TypeId} {ty:TypeId} {pos:String} {after:Array Edge} {k:FuncId} {fi cp:Array Value} {vs:List Value} {args:Array Value} {hf hr:SH} {v:Value}
  (hi:ops[i]? = some ⟨some d,.call { callee:=.value f,args:=az,argTypes:=ts },ty,pos,after,none⟩)
  (hv:e.ev? f=some (.func (.func k) fi cp)) (has:az.toList.mapM e.ev? = some vs) (hE:Enters c.P k) (ha:fi++vs.toArray++cp=args) (ct:Reads c.P k args hf v)
  (hn:DrL c ops pre hC K t ((d,v)::e) h) (hs:Sub hC h:=by repeat (first | exact Sub.refl _ | exact Sub.nil _ | refine Sub.sel slq ?_ | apply Sub.cons)) (pk:Pk hC hf hr:=by repeat (first | exact Pk.nil | (apply Pk.cons; (repeat (first | exact Sel.here | apply Sel.there))))) (hd:d<c.n:=by exact ltn rfl):DrL c ops pre hC K (.cons (i,true) t) e h:=dr_call hi hs hv has hE ha ct pk hd hn
theorem yV {i d g gd:Nat} {f:Operand} {az:Array Operand} {ts:Array TypeId} {ty:TypeId} {pos:String} {after:Array Edge} {k:FuncId} {fi cp:Array Value} {vs:List Value} {args:Array Value} {hf hr:SH} {v:Value} {want:Bool}
  (hi:ops[i]? = some ⟨some d,.call { callee:=.value f,args:=az,argTypes:=ts },ty,pos,after,some (g,want)⟩) (hg:((ops[g]?).bind (·.dst))=some gd) (hgv:e.get? gd=some (.bool want))
  (hv:e.ev? f=some (.func (.func k) fi cp)) (has:az.toList.mapM e.ev? = some vs) (hE:Enters c.P k) (ha:fi++vs.toArray++cp=args) (ct:Reads c.P k args hf v)
  (hn:DrL c ops pre hC K t ((d,v)::e) h) (hs:Sub hC h:=by repeat (first | exact Sub.refl _ | exact Sub.nil _ | refine Sub.sel slq ?_ | apply Sub.cons)) (pk:Pk hC hf hr:=by repeat (first | exact Pk.nil | (apply Pk.cons; (repeat (first | exact Sel.here | apply Sel.there))))) (hd:d<c.n:=by exact ltn rfl):DrL c ops pre hC K (.cons (i,true) t) e h:=NA hi hg hgv hs hv has hE ha ct pk hd hn
theorem aW {i:Nat} {h0:SH} (hn:DrL c ops pre hC K t e h) (hs:pre i=true->Sub hC h0->Sub hC h:=by first | (intro hq; cases hq; done) | (intro _ hs; exact hs) | (intro _ hs; refine Sub.trans hs ?_; (repeat (first | exact Sub.refl _ | exact Sub.nil _ | refine Sub.sel slq ?_ | apply Sub.cons)); done) | (intro _ _; (repeat (first | exact Sub.refl _ | exact Sub.nil _ | refine Sub.sel slq ?_ | apply Sub.cons)); done)):St c ops (EffK c ops pre hC K i t h0) [] e h:=NB hs hn
/-! Remembered slots. -/
def kept (e:Env):List Nat->Option Env
 | []=>some []
 | k::ks=>match e.get? k with
  | some v=>(kept e ks).map ((k,v) :: ·)
  | none=>none
theorem F6 {e : Env} : ∀ {ks : List Nat} {e' : Env}, kept e ks = some e' -> Env.sub e' e
 | [],e',h=>by simp only [kept,Option.some.injEq] at h; subst h; trivial
 | k::ks,e',h=>by
  simp only [kept] at h
  cases hg:e.get? k with
  | none=>rw [hg] at h; cases h
  | some v =>
   rw [hg] at h
   simp only [Option.map_eq_some_iff] at h
   obtain ⟨t,h1,rfl⟩:=h
   exact ⟨hg,F6 h1⟩
theorem nK (ks:List Nat) {e':Env} (hk:kept e ks=some e') (hn:Nx c K e' h):Nx c K e h:=hn.weaken (F6 hk)
variable {Q:Exit->Act->World->Prop}
end
section
variable {P:Program} {n:Nat} {w0:World} {fn:Func} {e:Env} {h hr h':SH} {R:Value->SH->Prop} {r:Option Nat} {vs:List Value}
theorem aj (hv:e.res? fn.results.toList=some vs) (hR:R (lg vs) h') (hp:Sub (h'++hr) h:=by first | (rw [List.nil_append]; (repeat (first | exact Sub.refl _ | apply Sub.cons)); done) | (repeat (first | exact Sub.refl _ | exact Sub.nil _ | refine Sub.sel slq ?_ | apply Sub.cons))):Xt ⟨P,r,n,[],w0⟩ .ret (bodyPost P fn (Post w0 hr R)) e h:=xt_ret hv hR hp
theorem xV (hv:e.res? fn.results.toList=some vs) (hR:R (lg vs) h') (hp:Sub (h'++hr) h:=by first | (rw [List.nil_append]; (repeat (first | exact Sub.refl _ | apply Sub.cons)); done) | (repeat (first | exact Sub.refl _ | exact Sub.nil _ | refine Sub.sel slq ?_ | apply Sub.cons))):Xt ⟨P,r,n,[],w0⟩ .normal (bodyPost P fn (Post w0 hr R)) e h:=xt_end hv hR hp
end
theorem Z {α : Sort _} {a : α}:a=a:=Eq.refl a
theorem lC {α : Type _} {a : α} {az bs:List α}:(a::az)++bs=a::(az++bs):=rfl
theorem lN {α : Type _} {az:List α}:([]:List α)++az=az:=rfl
theorem uG {e e':Env} {d:Nat} {u v:Value} (hv:u=v:=by first | rfl | (rw [hg]; rfl) | simp_all) (h:zT e e':=by repeat (first | exact uR | refine uS rfl ?_)):zT ((d,u)::e) ((d,v)::e'):=uH hv h
section
variable {c:Cx} {ops:Array Oper} {K:Act->World->Prop} {rest:List Oper} {e:Env} {h:SH} {Q:Exit->Act->World->Prop}
theorem sM {d:Nat} {x:Operand} {ty:TypeId} {pos:String} {after:Array Edge} {v:Value} (hv:e.ev? x=some v) (hn:St c ops K rest ((d,v)::e) h) (hd:d<c.n:=by exact ltn rfl):St c ops K (⟨some d,.move x,ty,pos,after,none⟩::rest) e h:=sV (vM hv) hn hd
theorem sA {d:Nat} {x:Operand} {ty:TypeId} {pos:String} {after:Array Edge} {v:Value} (hv:e.ev? x=some v) (hn:St c ops K rest ((d,v)::e) h) (hd:d<c.n:=by exact ltn rfl):St c ops K (⟨some d,.assign x,ty,pos,after,none⟩::rest) e h:=sV (vA hv) hn hd
theorem sK (ks:List Nat) {e':Env} {y:Code} (hk:kept e ks=some e') (hy:Cd c y Q e' h):St c ops (Exit.then (Behind c y Q) Q .normal) [] e h:=sN (nK ks hk<|nT hy)
theorem cQ {id:Nat} {l:List Oper} {y:Code} (hs:St c l.toArray (Exit.then (Behind c y Q) Q .normal) l e h):Cd c (.seq (.region id l.toArray false) y) Q e h:=cS (cR hs)
end
def fbody (f:Func):Code:=f.body.getD .skip
def cdl:Code->Code
 | .seq a _=>a
 | .block _ x=>x
 | .loop x=>x
 | .scope x=>x
 | .cond _ a _=>a
 | c=>c
def cdr:Code->Code
 | .seq _ b=>b
 | .cond _ _ b=>b
 | c=>c
section
variable {c:Cx} {Q:Exit->Act->World->Prop} {e e':Env} {h h':SH} {ex:Exit} {x:Code}
end

/-! ## A guard that has no value: skipped -/
section
variable {c:Cx} {ops:Array Oper} {K:Act->World->Prop} {rest:List Oper} {e:Env} {h hC:SH} {pre:Nat->Bool} {t:Ord}
theorem Ev {g gd:Nat} (hg:((ops[g]?).bind (·.dst))=some gd) (hgv:e.get? gd=some undef) {n:Nat} {ds:List Deferred} {a:Act} (hk:Kn n ds a e):yielded ops a.tmps g=none:=by
 unfold yielded
 cases ho:ops[g]? with
 | none=>simp [ho] at hg
 | some o=>simp only [ho,Option.bind_some] at hg; simp [hg,hk.get gd _ hgv,undef]
theorem cZ {d g gd:Nat} {op:Op} {ty:TypeId} {pos:String} {after:Array Edge} {want:Bool} (hg:((ops[g]?).bind (·.dst))=some gd) (hgv:e.get? gd=some undef)
  (hn:St c ops K rest ((d,undef)::e) h) (hd:d<c.n:=by exact ltn rfl):St c ops K (⟨some d,op,ty,pos,after,some (g,want)⟩::rest) e h:=λa w hk hh hs=>by
 unfold LsW
 rw [if_neg (by simp [Region.wanted,Ev hg hgv hk])]
 exact hn _ w (hk.put undef hd) hh hs
end
section
variable {c:Cx} {Q:Exit->Act->World->Prop} {e:Env} {h:SH}
theorem aY {σ : Type} {x:Code} (E : σ -> Env) (H : σ -> SH) (Φ : σ -> Prop) (μ : σ -> Nat) (s0 : σ) (h0 : Φ s0) (hr:∀ s,Φ s->Cd c x (Exit.then (Km c E H Φ μ s) Q) (E s) (H s))
  (hs:Env.sub (E s0) e:=by repeat (first | exact trivial | refine ⟨rfl,?_⟩)) (hp:Sub (H s0) h:=by (repeat (refine Sub.sel slq ?_)); (repeat apply Sub.cons); first | exact Sub.refl _ | exact Sub.nil _):Cd c (.loop x) Q e h:=cd_loop E H Φ μ s0 h0 hs hp hr
theorem aL {σ : Type} {E : σ -> Env} {H : σ -> SH} {Φ : σ -> Prop} {μ : σ -> Nat} {s : σ} (s' : σ) (h1 : Φ s') (h2 : μ s' < μ s) (hs:Env.sub (E s') e:=by repeat (first | exact trivial | refine ⟨rfl,?_⟩)) (hp:Sub (H s') h:=by (repeat (refine Sub.sel slq ?_)); (repeat apply Sub.cons); first | exact Sub.refl _ | exact Sub.nil _) :
  Xt c .normal (Exit.then (Km c E H Φ μ s) Q) e h:=Nv s' h1 h2 hs hp
end
end Go.Ck
namespace Go.Ck
open Go Go.RowKit Go.ChangeShapes Go.WideShapes
inductive Ty where
 | int (k:IntKind)
 | bool
 | str
 | slice (t:Ty)
 | struct (fs:List Ty)
 | any (n:Nat) (L:List TypeId)
mutual
def Ty.D:Ty->Type
 | .int _=>Int
 | .bool=>Bool
 | .str=>ByteArray
 | .slice t=>List (Ty.D t)
 | .struct fs=>Ty.Ds fs
 | .any _ _=>Unit
def Ty.Ds:List Ty->Type
 | []=>Unit
 | t::ts=>Ty.D t×Ty.Ds ts
end
mutual
def Ty.sz:Ty->Nat
 | .int _=>1
 | .bool=>1
 | .str=>1
 | .slice _=>1
 | .struct fs=>Ty.szs fs
 | .any n _=>n
def Ty.szs:List Ty->Nat
 | []=>0
 | t::ts=>Ty.sz t+Ty.szs ts
end
mutual
def Rep (r : Res) : (t : Ty) -> List Value -> t.D -> Prop
 | .int k,cs,n=>cs=[.int k n]/\(Lit.int k n).wf=true
 | .bool,cs,b=>cs=[.bool b]
 | .str,cs,s=>cs=[.string s]/\s.size<=maxLen
 | .slice t,cs,l=>∃ a cap,cs=[.slice a (List.length l) cap]/\List.length l<=cap/\cap<=maxLen/\(a=none->cap=0) /\
   (l=([]:List t.D)\/∃ b o,a=some ⟨b,o,none⟩/\∀ (i:Nat) (x:t.D),@getElem? (List t.D) Nat t.D _ _ l i=some x->∃ us:List Value,us.length=t.sz/\Rds r b (o+i * t.sz) us/\Rep r t us x)
 | .struct fs,cs,x=>Reps r fs cs x
 | .any n _,cs,_=>cs.length=n
def Reps (r:Res):(fs:List Ty)->List Value->Ty.Ds fs->Prop
 | [],cs,_=>cs=[]
 | t::ts,cs,(x,xs)=>∃ u us,cs=u++us/\u.length=t.sz/\Rep r t u x/\Reps r ts us xs
end
def Kr (P:Program) (L:List TypeId):Bool:=L.all λt=>match P.underlying t with
 | some (.int _)=>true
 | some .bool=>true
 | some .string=>true
 | some (.slice e)=>L.contains e && Nat.ble 1 (P.cellsOf e)
 | some (.struct fs)=>fs.toList.all λf=>L.contains f.type
 | _=>false
def structB (P:Program) (t:TypeId):Bool:=match P.underlying t with
 | some (.struct _)=>true
 | _=>false
mutual
def Cb (P:Program):Ty->TypeId->Bool
 | .int k,t=>match P.underlying t with | some (.int k')=>decide (k'=k) | _=>false
 | .bool,t=>match P.underlying t with | some .bool=>true | _=>false
 | .str,t=>match P.underlying t with | some .string=>true | _=>false
 | .slice u,t=>match P.underlying t with | some (.slice e)=>Nat.beq (P.cellsOf e) u.sz && Nat.ble 1 u.sz && Cb P u e | _=>false
 | .struct fs,t=>match P.underlying t with | some (.struct gs)=>Nat.beq (P.cellsOf t) (Ty.szs fs) && Db P fs gs.toList 0 | _=>false
 | .any n L,t=>Kr P L && L.contains t && Nat.beq (P.cellsOf t) n && structB P t
def Db (P:Program):List Ty->List Field->Nat->Bool
 | [],[],_=>true
 | t::ts,f::fs,off=>Nat.beq f.offset off && Nat.beq (P.cellsOf f.type) t.sz && Cb P t f.type && Db P ts fs (off+t.sz)
 | _,_,_=>false
end

section
variable {H:Type} {enc:TypeId×Value->H} {P:Program} {W:World} {held:Bool} {sp:Nat->Bool}
theorem wM {base:Nat} {a:Addr} {n:Nat} {cs:List Value} (h:W.cells? base a n=some cs):cs.length=n/\∀ i,(hi:i<cs.length)->W.cell? (a.add i)=some cs[i]:=by
 obtain ⟨_,h1,h2⟩:=World.cells?_some h
 exact ⟨h1,λi hi=>by rw [h2 i (by omega),Zy hi]⟩
theorem cell_spot {a:Addr} {v:Value} (h:W.cell? a=some v):a.spot=none/\a.block<W.heap.size:=by
 unfold World.cell? at h
 cases hq:W.heap[a.block]? with
 | none=>rw [hq] at h; cases h
 | some o =>
  rw [hq] at h
  have hb:=(Array.getElem?_eq_some_iff.1 hq).1
  cases o with
  | cells c t f =>
   by_cases hs:a.spot.isSome=true
   .simp [hs] at h
   .exact ⟨by simpa using hs,hb⟩
  | _=>cases h

theorem xX {W':World} (hb:∀ b,b<W.heap.size->W'.heap[b]? = W.heap[b]?) {base:Nat} {a:Addr} {n:Nat} {cs:List Value} (h:W.cells? base a n=some cs):W'.cells? base a n=some cs:=by
 cases n with
 | zero=>unfold World.cells? at h ⊢; simpa using h
 | succ n =>
  obtain ⟨h1,h2⟩:=wM h
  have h3:=h2 0<|by omega
  have hbl:a.block<W.heap.size:=by
   have:=(cell_spot h3).2
   simpa [Addr.add] using this
  have:∀ i,W'.cell? (a.add i)=W.cell? (a.add i):=λi=>World.cell?_of_block<|hb _ (by unfold Addr.add; split <;> exact hbl)
  unfold World.cells? at h ⊢
  simp only [this]; exact h
theorem lL {α β : Type} {f g : α -> Option β}:∀ {l:List α} {ys:List β},l.mapM f=some ys->(∀ x y,x∈l->y∈ys->f x=some y->g x=some y)->l.mapM g=some ys
 | [],ys,h,_=>Zp
 | a::l,ys,h,hfg=>by
  simp only [List.mapM_cons,Option.bind_eq_bind,Option.bind_eq_some_iff,Option.pure_def,Option.some.injEq] at h
  obtain ⟨y,h1,zs,h2,rfl⟩:=h
  simp only [List.mapM_cons,Option.bind_eq_bind,Option.bind_eq_some_iff,Option.pure_def,Option.some.injEq]
  exact ⟨y,hfg a y (by simp) (by simp) h1,zs,lL h2 λx z hx hz=>hfg x z (by simp [hx]) (by simp [hz]),Z⟩
theorem tZ {W' : World} (hb : ∀ b, b < W.heap.size -> W'.heap[b]? = W.heap[b]?) {L : List TypeId} (hL : Kr P L = true) : ∀ (n : Nat) (t : TypeId) (cs : List Value) (x : DataW H × List MemPlace), t ∈ L -> DataW.trod enc P W 0 (λ_ => true) held n t cs = some x ->
  (∀ p∈x.2,sp p.block=true)->DataW.trod enc P W' 0 sp held n t cs=some x
 | 0,t,cs,x,ht,h,_=>by simp [DataW.trod] at h
 | n + 1, t, cs, x, ht, h, hsp => by
  have hcl:=List.all_eq_true.1 hL t ht
  cases hu:P.underlying t with
  | none=>rw [hu] at hcl; cases hcl
  | some d =>
   rw [hu] at hcl
   cases d with
   | int k =>
    obtain ⟨q,rfl,rfl,h3⟩:=DataW.trod_int hu h
    simp [DataW.trod,hu,h3]
   | bool =>
    obtain ⟨q,rfl,rfl⟩:=DataW.trod_bool hu h
    simp [DataW.trod,hu]
   | string =>
    obtain ⟨q,rfl,rfl,h3⟩:=DataW.trod_string hu h
    simp [DataW.trod,hu,h3]
   | slice e =>
    simp only [Bool.and_eq_true] at hcl
    have he:e∈L:=by simpa using hcl.1
    have hp:1<=P.cellsOf e:=Nat.le_of_ble_eq_true hcl.2
    rcases DataW.trod_slice hu h with ⟨rfl,rfl⟩ | ⟨a,len,cap,_,_,_,_,rfl,_⟩
    .simp [DataW.trod,hu]
    .unfold DataW.trod at h ⊢
     rw [hu] at h ⊢
     simp only at h ⊢
     split at h
     .rename_i hcond
      rw [if_pos hcond]
      simp only [if_true,Option.bind_eq_some_iff,Option.map_eq_some_iff] at h
      obtain ⟨elems,h1,rest,h2,rfl⟩:=h
      simp only [List.mem_append,List.mem_flatMap] at hsp
      have hstep:∀ i y,y∈elems++rest->(W.cells? 0 (a.add (i * P.cellsOf e))<|P.cellsOf e).bind (DataW.trod enc P W 0 (λ_=>true) held n e)=some y->(W'.cells? 0 (a.add (i * P.cellsOf e))<|P.cellsOf e).bind (DataW.trod enc P W' 0 sp held n e)=some y:=λi y hy hb'=>by
       rw [Option.bind_eq_some_iff] at hb' ⊢
       obtain ⟨us,g1,g2⟩:=hb'
       exact ⟨us,xX hb g1,tZ hb hL n e us y he g2 λp hp'=>hsp p<|.inr ⟨y,List.mem_append.1 hy,hp'⟩⟩
      have e1:(List.range len).mapM (λi=>(W'.cells? 0 (a.add (i * P.cellsOf e))<|P.cellsOf e).bind<|DataW.trod enc P W' 0 sp held n e)=some elems:=lL h1 λi y _ hy g=>hstep i y (List.mem_append_left _ hy) g
      have e2:(List.range (cap - len)).mapM (λj=>(W'.cells? 0 (a.add ((len+j) * P.cellsOf e))<|P.cellsOf e).bind<|DataW.trod enc P W' 0 sp held n e)=some rest:=lL h2 λi y _ hy g=>hstep (len+i) y (List.mem_append_right _ hy) g
      rw [e1]
      simp only [Option.bind_some]
      by_cases hs:sp a.block=true
      .rw [if_pos hs,e2]; rfl
      .rw [if_neg hs]
       have hr : rest = [] := by
        cases rest with
        | nil=>rfl
        | cons y ys =>
         exfalso
         apply hs
         have:=hsp (MemPlace.cell a.block a.off)<|.inl ?_
         .exact this
         .unfold MemPlace.row
          refine List.mem_map.2 ⟨0,?_,by simp [Addr.add]⟩
          rw [List.mem_range]
          simp only [List.length_cons]
          exact Nat.mul_pos (by omega)<|by omega
       subst hr; rfl
     .cases h
   | struct gs =>
    rw [List.all_eq_true] at hcl
    unfold DataW.trod at h ⊢
    rw [hu] at h ⊢
    simp only at h ⊢
    split at h
    .rename_i hl
     rw [if_pos hl]
     rw [Option.map_eq_some_iff] at h ⊢
     obtain ⟨xs,h1,rfl⟩:=h
     refine ⟨xs,lL h1 λg y hg hy h2=>?_,Z⟩
     exact tZ hb hL n g.type _ y (by simpa using hcl g hg) h2 λp hp=>hsp p<|List.mem_flatMap.2 ⟨y,hy,hp⟩
    .cases h
   | _=>cases hcl
mutual
theorem wN {W' : World} (hb : ∀ b, b < W.heap.size -> W'.heap[b]? = W.heap[b]?) : (ty : Ty) -> ∀ (t : TypeId) (n : Nat) (cs : List Value) (x : DataW H × List MemPlace), Cb P ty t = true -> DataW.trod enc P W 0 (λ_ => true) held n t cs = some x ->
  (∀ p∈x.2,sp p.block=true)->DataW.trod enc P W' 0 sp held n t cs=some x
 | .int k, t, n, cs, x, hf, h, _ => by
  unfold Cb at hf
  cases n with
  | zero=>simp [DataW.trod] at h
  | succ n =>
   cases hu:P.underlying t with
   | none=>rw [hu] at hf; cases hf
   | some d =>
    rw [hu] at hf
    cases d <;> try (cases hf; done)
    obtain ⟨q,rfl,rfl,h3⟩:=DataW.trod_int hu h
    simp [DataW.trod,hu,h3]
 | .bool, t, n, cs, x, hf, h, _ => by
  unfold Cb at hf
  cases n with
  | zero=>simp [DataW.trod] at h
  | succ n =>
   cases hu:P.underlying t with
   | none=>rw [hu] at hf; cases hf
   | some d =>
    rw [hu] at hf
    cases d <;> try (cases hf; done)
    obtain ⟨q,rfl,rfl⟩:=DataW.trod_bool hu h
    simp [DataW.trod,hu]
 | .str, t, n, cs, x, hf, h, _ => by
  unfold Cb at hf
  cases n with
  | zero=>simp [DataW.trod] at h
  | succ n =>
   cases hu:P.underlying t with
   | none=>rw [hu] at hf; cases hf
   | some d =>
    rw [hu] at hf
    cases d <;> try (cases hf; done)
    obtain ⟨q,rfl,rfl,h3⟩:=DataW.trod_string hu h
    simp [DataW.trod,hu,h3]
 | .slice u, t, n, cs, x, hf, h, hsp => by
  unfold Cb at hf
  cases hu:P.underlying t with
  | none=>rw [hu] at hf; cases hf
  | some d =>
   rw [hu] at hf
   cases d <;> try (cases hf; done)
   rename_i e
   simp only [Bool.and_eq_true] at hf
   obtain ⟨⟨hc,hp⟩,he⟩:=hf
   have hc:P.cellsOf e=u.sz:=Nat.eq_of_beq_eq_true hc
   have hp:1<=u.sz:=Nat.le_of_ble_eq_true hp
   cases n with
   | zero=>simp [DataW.trod] at h
   | succ n =>
    rcases DataW.trod_slice hu h with ⟨rfl,rfl⟩ | ⟨a,len,cap,_,_,_,_,rfl,_⟩
    .simp [DataW.trod,hu]
    .unfold DataW.trod at h ⊢
     rw [hu] at h ⊢
     simp only at h ⊢
     split at h
     .rename_i hcond
      rw [if_pos hcond]
      simp only [if_true,Option.bind_eq_some_iff,Option.map_eq_some_iff] at h
      obtain ⟨elems,h1,rest,h2,rfl⟩:=h
      simp only [List.mem_append,List.mem_flatMap] at hsp
      have hstep:∀ i y,y∈elems++rest->(W.cells? 0 (a.add (i * P.cellsOf e))<|P.cellsOf e).bind (DataW.trod enc P W 0 (λ_=>true) held n e)=some y->(W'.cells? 0 (a.add (i * P.cellsOf e))<|P.cellsOf e).bind (DataW.trod enc P W' 0 sp held n e)=some y:=λi y hy hb'=>by
       rw [Option.bind_eq_some_iff] at hb' ⊢
       obtain ⟨us,g1,g2⟩:=hb'
       exact ⟨us,xX hb g1,wN hb u e n us y he g2 λp hp'=>hsp p<|.inr ⟨y,List.mem_append.1 hy,hp'⟩⟩
      have e1:(List.range len).mapM (λi=>(W'.cells? 0 (a.add (i * P.cellsOf e))<|P.cellsOf e).bind<|DataW.trod enc P W' 0 sp held n e)=some elems:=lL h1 λi y _ hy g=>hstep i y (List.mem_append_left _ hy) g
      have e2:(List.range (cap - len)).mapM (λj=>(W'.cells? 0 (a.add ((len+j) * P.cellsOf e))<|P.cellsOf e).bind<|DataW.trod enc P W' 0 sp held n e)=some rest:=lL h2 λi y _ hy g=>hstep (len+i) y (List.mem_append_right _ hy) g
      rw [e1]
      simp only [Option.bind_some]
      by_cases hs:sp a.block=true
      .rw [if_pos hs,e2]; rfl
      .rw [if_neg hs]
       have hr : rest = [] := by
        cases rest with
        | nil=>rfl
        | cons y ys =>
         exfalso
         apply hs
         have:=hsp (MemPlace.cell a.block a.off)<|.inl ?_
         .exact this
         .unfold MemPlace.row
          rw [hc]
          refine List.mem_map.2 ⟨0,?_,by simp [Addr.add]⟩
          rw [List.mem_range]
          simp only [List.length_cons]
          exact Nat.mul_pos (by omega)<|by omega
       subst hr; rfl
     .cases h
 | .struct fs, t, n, cs, x, hf, h, hsp => by
  unfold Cb at hf
  cases hu:P.underlying t with
  | none=>rw [hu] at hf; cases hf
  | some d =>
   rw [hu] at hf
   cases d <;> try (cases hf; done)
   rename_i gs
   simp only [Bool.and_eq_true] at hf
   obtain ⟨hc,hfs⟩:=hf
   cases n with
   | zero=>simp [DataW.trod] at h
   | succ n =>
    unfold DataW.trod at h ⊢
    rw [hu] at h ⊢
    simp only at h ⊢
    split at h
    .rename_i hl
     rw [if_pos hl]
     rw [Option.map_eq_some_iff] at h ⊢
     obtain ⟨xs,h1,rfl⟩:=h
     refine ⟨xs,?_,Z⟩
     exact zY hb fs gs.toList 0 n cs xs hfs h1 λy hy p hp=>hsp p<|List.mem_flatMap.2 ⟨y,hy,hp⟩
    .cases h
 | .any k L,t,n,cs,x,hf,h,hsp=>by
  unfold Cb at hf
  simp only [Bool.and_eq_true] at hf
  obtain ⟨⟨⟨hL,ht⟩,_⟩,_⟩:=hf
  exact tZ hb hL n t cs x (by simpa using ht) h hsp
theorem zY {W':World} (hb:∀ b,b<W.heap.size->W'.heap[b]? = W.heap[b]?):(fs:List Ty)->∀ (gs:List Field) (off n:Nat) (cs:List Value) (xs:List (DataW H×List MemPlace)),Db P fs gs off=true ->
  gs.mapM (λf=>DataW.trod enc P W 0 (λ_=>true) held n f.type<|(cs.drop f.offset).take<|P.cellsOf f.type)=some xs->(∀ y∈xs,∀ p∈y.2,sp p.block=true) ->
  gs.mapM (λf=>DataW.trod enc P W' 0 sp held n f.type<|(cs.drop f.offset).take<|P.cellsOf f.type)=some xs
 | [],[],off,n,cs,xs,hf,h,_=>Zp
 | [],g::gs,off,n,cs,xs,hf,h,_=>by simp [Db] at hf
 | t::ts,[],off,n,cs,xs,hf,h,_=>by simp [Db] at hf
 | t::ts,g::gs,off,n,cs,xs,hf,h,hsp=>by
  unfold Db at hf
  simp only [Bool.and_eq_true] at hf
  obtain ⟨⟨⟨h1,h2⟩,h3⟩,h4⟩:=hf
  simp only [List.mapM_cons,Option.bind_eq_bind,Option.bind_eq_some_iff,Option.pure_def,Option.some.injEq] at h ⊢
  obtain ⟨y,g1,zs,g2,rfl⟩:=h
  exact ⟨y,wN hb t g.type n _ y h3 g1 (hsp y<|by simp),zs,zY hb ts gs (off+t.sz) n cs zs h4 g2 λz hz=>hsp z (by simp [hz]),Z⟩
end
end
theorem wO (W:World):Holds W [old W]:=⟨λ_ _=>rfl,λ_ _ h=>h,trivial⟩
structure Kept (W w':World):Prop extends Same W w' where
 block:∀ b,b<W.heap.size->w'.heap[b]? = W.heap[b]?
theorem Kept.frame {W w':World} (h:Kept W w') (may:MemPlace->Prop):W.keptBut w' may:=by
 refine ⟨h.os,h.output,λi hi=>?_⟩
 rw [h.block i hi]
 cases hq:W.heap[i]? with
 | none=>rfl
 | some o=>cases o <;> first | exact ⟨rfl,rfl,rfl,λ_ _=>rfl⟩ | exact Or.inr ⟨rfl,rfl⟩ | rfl
def fitAll (P:Program):List Ty->List TypeId->Bool
 | [],[]=>true
 | t::ts,u::us=>Cb P t u && fitAll P ts us
 | _,_=>false
section
variable {H:Type} {enc:TypeId×Value->H} {P:Program} {W W':World} {sp:Nat->Bool}
theorem Dc (hb:∀ b,b<W.heap.size->W'.heap[b]? = W.heap[b]?):∀ {tys:List Ty} {ts:List TypeId} {vs:List Value} {ds:List (DataW H)} {ps:List MemPlace},fitAll P tys ts=true->DataW.TrodAll enc P W 0 (λ_=>true) true ts vs ds ps->(∀ p∈ps,sp p.block=true) ->
  DataW.TrodAll enc P W' 0 sp true ts vs ds ps
 | [],[],[],[],ps,_,h,_=>h
 | [],[],[],_::_,ps,_,h,_=>h.elim
 | [],[],_::_,_,ps,_,h,_=>h.elim
 | [],_::_,_,_,_,hf,_,_=>by simp [fitAll] at hf
 | _::_,[],_,_,_,hf,_,_=>by simp [fitAll] at hf
 | ty::tys,t::ts,[],_,ps,_,h,_=>h.elim
 | ty::tys,t::ts,_::_,[],ps,_,h,_=>h.elim
 | ty::tys,t::ts,v::vs,d::ds,ps,hf,h,hp=>by
  unfold fitAll at hf
  rw [Bool.and_eq_true] at hf
  obtain ⟨p,q,⟨n,h1⟩,h2,rfl⟩:=h
  exact ⟨p,q,⟨n,wN hb ty t n _ _ hf.1 h1 λx hx=>hp x<|List.mem_append_left _ hx⟩,Dc hb hf.2 h2 λx hx=>hp x (List.mem_append_right _ hx),Z⟩
theorem IU {t:TypeId} {v:Value} {b:Nat} (hs:(match P.underlying t with | some (.struct _) | some (.array _ _)=>false | some _=>true | none=>false)=true) (h:Value.okWide P W .any b t v):v.oneCell'=true:=by
 unfold Value.okWide at h
 cases hu:P.underlying t with
 | none=>rw [hu] at hs; cases hs
 | some d =>
  rw [hu] at h hs
  cases d <;> first
   | (cases hs; done)
   | (cases v <;> first | rfl | (unfold Cell.okWide at h; rw [hu] at h; simp only [Cell.ok,hu] at h))
end
end Go.Ck
namespace Go.Proofs.YtknmacdbffgjgaaGreatDoor
open Go.Ck
namespace Fx
theorem mixed:Tryz.prog.follows .mixedOrders=true:=Zz
theorem sz3:Sz Tryz.prog 3 1:=λ_=>Zz
theorem sz4:Sz Tryz.prog 4 1:=λ_=>Zz
theorem sz9:Sz Tryz.prog 9 1:=λ_=>Zz
theorem sz24:Sz Tryz.prog 24 2:=λ_=>Zz
theorem wP:Sz Tryz.prog 26 8:=λ_=>Zz
theorem Ew:Sz Tryz.prog 29 1:=λ_=>Zz
theorem sz39:Sz Tryz.prog 39 1:=λ_=>Zz
theorem yI:Sz Tryz.prog 40 1:=λ_=>Zz
theorem sz42:Sz Tryz.prog 42 1:=λ_=>Zz
theorem mP:Sz Tryz.prog 44 7:=λ_=>Zz
theorem sz52:Sz Tryz.prog 52 1:=λ_=>Zz
theorem nN:Sz Tryz.prog 53 1:=λ_=>Zz
theorem Ey:Sz Tryz.prog 55 4:=λ_=>Zz
theorem F7:Sz Tryz.prog 67 1:=λ_=>Zz
theorem sz69:Sz Tryz.prog 69 2:=λ_=>Zz
theorem sz70:Sz Tryz.prog 70 1:=λ_=>Zz
theorem sz71:Sz Tryz.prog 71 1:=λ_=>Zz
theorem oK:Sz Tryz.prog 73 5:=λ_=>Zz
theorem iH:Sz Tryz.prog 75 14:=λ_=>Zz
theorem qU:Sz Tryz.prog 88 6:=λ_=>Zz
theorem sz111:Sz Tryz.prog 111 2:=λ_=>Zz
theorem sz114:Sz Tryz.prog 114 2:=λ_=>Zz
theorem jF:Sz Tryz.prog 116 12:=λ_=>Zz
theorem kE:Sz Tryz.prog 130 15:=λ_=>Zz
theorem De:Sz Tryz.prog 132 6:=λ_=>Zz
theorem zZ:Sz Tryz.prog 143 2:=λ_=>Zz
theorem sz162:Sz Tryz.prog 162 1:=λ_=>Zz
theorem oL:Sz Tryz.prog 164 2:=λ_=>Zz
theorem F8:Sz Tryz.prog 170 2:=λ_=>Zz
theorem sz188:Sz Tryz.prog 188 1:=λ_=>Zz
theorem mY:Sz Tryz.prog 191 18:=λ_=>Zz
theorem sz206:Sz Tryz.prog 206 12:=λ_=>Zz
theorem sz214:Sz Tryz.prog 214 1:=λ_=>Zz
theorem z8:Sz Tryz.prog 216 4:=λ_=>Zz
theorem Df:Sz Tryz.prog 218 5:=λ_=>Zz
theorem sz250:Sz Tryz.prog 250 1:=λ_=>Zz
theorem sz256:Sz Tryz.prog 256 1:=λ_=>Zz
theorem sz265:Sz Tryz.prog 265 1:=λ_=>Zz
theorem sz281:Sz Tryz.prog 281 1:=λ_=>Zz
theorem rE:SlE Tryz.prog 22 44 7:=⟨Tryz.underlying22,mP⟩
theorem sl32:SlE Tryz.prog 32 55 4:=⟨Tryz.underlying32,Ey⟩
theorem sl38:SlE Tryz.prog 38 111 2:=⟨Tryz.underlying38,sz111⟩
theorem lY:SlE Tryz.prog 39 88 6:=⟨Tryz.underlying39,qU⟩
theorem jG:SlE Tryz.prog 40 9 1:=⟨Tryz.underlying40,sz9⟩
theorem sl41:SlE Tryz.prog 41 130 15:=⟨Tryz.underlying41,kE⟩
theorem F9:SlE Tryz.prog 42 218 5:=⟨Tryz.underlying42,Df⟩
theorem oM:SlE Tryz.prog 52 75 14:=⟨Tryz.underlying52,iH⟩
theorem sl53:SlE Tryz.prog 53 170 2:=⟨Tryz.underlying53,F8⟩
theorem qV:SlE Tryz.prog 67 69 2:=⟨Tryz.underlying67,sz69⟩
theorem Aa:SlE Tryz.prog 70 132 6:=⟨Tryz.underlying70,De⟩
theorem yJ:SlE Tryz.prog 71 73 5:=⟨Tryz.underlying71,oK⟩
theorem sl86:SlE Tryz.prog 86 143 2:=⟨Tryz.underlying86,zZ⟩
theorem sl104:SlE Tryz.prog 104 24 2:=⟨Tryz.underlying104,sz24⟩
theorem lZ:SlE Tryz.prog 187 191 18:=⟨Tryz.underlying187,mY⟩
theorem Dg:SlE Tryz.prog 214 216 4:=⟨Tryz.underlying214,z8⟩
theorem sl282:SlE Tryz.prog 282 281 1:=⟨Tryz.underlying282,sz281⟩
theorem sl312:SlE Tryz.prog 312 53 1:=⟨Tryz.underlying312,nN⟩
theorem sl325:SlE Tryz.prog 325 40 1:=⟨Tryz.underlying325,yI⟩
theorem sl333:SlE Tryz.prog 333 3 1:=⟨Tryz.underlying333,sz3⟩
theorem qG:MpS Tryz.prog 112 9 55:=⟨Tryz.underlying112,Tryz.underlying9⟩
theorem gW:MpS Tryz.prog 162 9 3:=⟨Tryz.underlying162,Tryz.underlying9⟩
theorem tH:MpS Tryz.prog 188 9 187:=⟨Tryz.underlying188,Tryz.underlying9⟩
theorem mp250:MpT Tryz.prog 250 3 4:=⟨Tryz.underlying250,Tryz.underlying3⟩
theorem xZ:MpS Tryz.prog 265 9 4:=⟨Tryz.underlying265,Tryz.underlying9⟩
theorem oN:Inf Tryz.prog 3 (.int .i64 0) 1 8:=by unfold Inf; kernel_rfl
theorem inf4:Inf Tryz.prog 4 (.bool false) 1 1:=by unfold Inf; kernel_rfl
theorem gp:Inf Tryz.prog 9 (.string ⟨#[]⟩) 1 16:=by unfold Inf; kernel_rfl
theorem Ku:Inf Tryz.prog 24 (.agg #[.string ⟨#[]⟩,.string ⟨#[]⟩]) 2 32:=by unfold Inf; kernel_rfl
theorem inf40:Inf Tryz.prog 40 (.slice none 0 0) 1 24:=by unfold Inf; kernel_rfl
theorem inf44:Inf Tryz.prog 44 (.agg #[.string ⟨#[]⟩,.bool false,.slice none 0 0,.slice none 0 0,.slice none 0 0,.slice none 0 0,.slice none 0 0]) 7 144:=by unfold Inf; kernel_rfl
theorem tJ:Inf Tryz.prog 53 (.slice none 0 0) 1 24:=by unfold Inf; kernel_rfl
theorem qH:Inf Tryz.prog 55 (.agg #[.string ⟨#[]⟩,.bool false,.slice none 0 0,.slice none 0 0]) 4 72:=by unfold Inf; kernel_rfl
theorem Dh:Inf Tryz.prog 69 (.agg #[.string ⟨#[]⟩,.string ⟨#[]⟩]) 2 32:=by unfold Inf; kernel_rfl
theorem Kv:Inf Tryz.prog 73 (.agg #[.int .i64 0,.string ⟨#[]⟩,.slice none 0 0,.bool false,.bool false]) 5 56:=by unfold Inf; kernel_rfl
theorem vG:Inf Tryz.prog 75 (.agg #[.string ⟨#[]⟩,.int .i64 0,.slice none 0 0,.string ⟨#[]⟩,.string ⟨#[]⟩,.slice none 0 0,.int .i64 0,.string ⟨#[]⟩,.slice none 0 0,.bool false,.bool false,.slice none 0 0,.slice none 0 0,.slice none 0 0]) 14 232:=by unfold Inf; kernel_rfl
theorem Ga:Inf Tryz.prog 88 (.agg #[.string ⟨#[]⟩,.slice none 0 0,.slice none 0 0,.slice none 0 0,.slice none 0 0,.slice none 0 0]) 6 136:=by unfold Inf; kernel_rfl
theorem inf111:Inf Tryz.prog 111 (.agg #[.string ⟨#[]⟩,.string ⟨#[]⟩]) 2 32:=by unfold Inf; kernel_rfl
theorem NF:Inf Tryz.prog 130 (.agg #[.int .i64 0,.string ⟨#[]⟩,.slice none 0 0,.slice none 0 0,.int .i64 0,.string ⟨#[]⟩,.slice none 0 0,.bool false,.bool false,.slice none 0 0,.slice none 0 0,.slice none 0 0,.slice none 0 0,.slice none 0 0,.bool false]) 15 256:=by unfold Inf; kernel_rfl
theorem Ez:Inf Tryz.prog 132 (.agg #[.string ⟨#[]⟩,.int .i64 0,.string ⟨#[]⟩,.slice none 0 0,.bool false,.bool false]) 6 72:=by unfold Inf; kernel_rfl
theorem inf143:Inf Tryz.prog 143 (.agg #[.string ⟨#[]⟩,.string ⟨#[]⟩]) 2 32:=by unfold Inf; kernel_rfl
theorem nO:Inf Tryz.prog 170 (.agg #[.string ⟨#[]⟩,.slice none 0 0]) 2 40:=by unfold Inf; kernel_rfl
theorem ug:Inf Tryz.prog 187 (.slice none 0 0) 1 24:=by unfold Inf; kernel_rfl
theorem Ab:Inf Tryz.prog 191 (.agg #[.string ⟨#[]⟩,.string ⟨#[]⟩,.int .i64 0,.string ⟨#[]⟩,.int .i64 0,.slice none 0 0,.string ⟨#[]⟩,.string ⟨#[]⟩,.slice none 0 0,.int .i64 0,.string ⟨#[]⟩,.slice none 0 0,.bool false,.bool false,.slice none 0 0,.slice none 0 0,.slice none 0 0,.int .i64 0]) 18 280:=by unfold Inf; kernel_rfl
theorem NG:Inf Tryz.prog 216 (.agg #[.int .i64 0,.string ⟨#[]⟩,.int .i64 0,.slice none 0 0]) 4 56:=by unfold Inf; kernel_rfl
theorem NH:Inf Tryz.prog 218 (.agg #[.string ⟨#[]⟩,.int .i64 0,.string ⟨#[]⟩,.int .i64 0,.slice none 0 0]) 5 72:=by unfold Inf; kernel_rfl
theorem inf281:Inf Tryz.prog 281 (.nilFunc) 1 8:=by unfold Inf; kernel_rfl
theorem ld3:Ld1 Tryz.prog 3:=Ld1.of Tryz.underlying3 rfl
theorem ld4:Ld1 Tryz.prog 4:=Ld1.of Tryz.underlying4 rfl
theorem ld9:Ld1 Tryz.prog 9:=Ld1.of Tryz.underlying9 rfl
theorem ld22:Ld1 Tryz.prog 22:=Ld1.of Tryz.underlying22 rfl
theorem qW:LdN Tryz.prog 24 2:=LdN.of Tryz.underlying24 sz24
theorem uh:LdN Tryz.prog 26 8:=LdN.of Tryz.underlying26 wP
theorem Cc:Ld1 Tryz.prog 29:=Ld1.of Tryz.underlying29 rfl
theorem ld38:Ld1 Tryz.prog 38:=Ld1.of Tryz.underlying38 rfl
theorem lD:Ld1 Tryz.prog 39:=Ld1.of Tryz.underlying39 rfl
theorem gq:Ld1 Tryz.prog 40:=Ld1.of Tryz.underlying40 rfl
theorem yK:Ld1 Tryz.prog 41:=Ld1.of Tryz.underlying41 rfl
theorem ui:Ld1 Tryz.prog 42:=Ld1.of Tryz.underlying42 rfl
theorem gU:LdN Tryz.prog 44 7:=LdN.of Tryz.underlying44 mP
theorem qX:Ld1 Tryz.prog 52:=Ld1.of Tryz.underlying52 rfl
theorem oO:Ld1 Tryz.prog 53:=Ld1.of Tryz.underlying53 rfl
theorem ld55:LdN Tryz.prog 55 4:=LdN.of Tryz.underlying55 Ey
theorem pW:Ld1 Tryz.prog 67:=Ld1.of Tryz.underlying67 rfl
theorem iN:LdN Tryz.prog 69 2:=LdN.of Tryz.underlying69 sz69
theorem rF:Ld1 Tryz.prog 70:=Ld1.of Tryz.underlying70 rfl
theorem pX:Ld1 Tryz.prog 71:=Ld1.of Tryz.underlying71 rfl
theorem fM:LdN Tryz.prog 73 5:=LdN.of Tryz.underlying73 oK
theorem fE:LdN Tryz.prog 75 14:=LdN.of Tryz.underlying75 iH
theorem ld86:Ld1 Tryz.prog 86:=Ld1.of Tryz.underlying86 rfl
theorem oP:LdN Tryz.prog 88 6:=LdN.of Tryz.underlying88 qU
theorem Kw:LdN Tryz.prog 111 2:=LdN.of Tryz.underlying111 sz111
theorem qI:Ld1 Tryz.prog 112:=Ld1.of Tryz.underlying112 rfl
theorem ig:LdN Tryz.prog 114 2:=LdN.of Tryz.underlying114 sz114
theorem l8:LdN Tryz.prog 116 12:=LdN.of Tryz.underlying116 jF
theorem oQ:LdN Tryz.prog 130 15:=LdN.of Tryz.underlying130 kE
theorem vH:LdN Tryz.prog 132 6:=LdN.of Tryz.underlying132 De
theorem rG:LdN Tryz.prog 143 2:=LdN.of Tryz.underlying143 zZ
theorem lh:Ld1 Tryz.prog 162:=Ld1.of Tryz.underlying162 rfl
theorem ll:LdN Tryz.prog 164 2:=LdN.of Tryz.underlying164 oL
theorem rH:LdN Tryz.prog 170 2:=LdN.of Tryz.underlying170 F8
theorem ld186:Ld1 Tryz.prog 186:=Ld1.of Tryz.underlying186 rfl
theorem rJ:Ld1 Tryz.prog 188:=Ld1.of Tryz.underlying188 rfl
theorem ik:LdN Tryz.prog 191 18:=LdN.of Tryz.underlying191 mY
theorem ld197:Ld1 Tryz.prog 197:=Ld1.of Tryz.underlying197 rfl
theorem fU:LdN Tryz.prog 206 12:=LdN.of Tryz.underlying206 sz206
theorem tK:Ld1 Tryz.prog 214:=Ld1.of Tryz.underlying214 rfl
theorem kF:LdN Tryz.prog 216 4:=LdN.of Tryz.underlying216 z8
theorem yf:LdN Tryz.prog 218 5:=LdN.of Tryz.underlying218 Df
theorem ld229:Ld1 Tryz.prog 229:=Ld1.of Tryz.underlying229 rfl
theorem ld249:Ld1 Tryz.prog 249:=Ld1.of Tryz.underlying249 rfl
theorem ld250:Ld1 Tryz.prog 250:=Ld1.of Tryz.underlying250 rfl
theorem ld256:Ld1 Tryz.prog 256:=Ld1.of Tryz.underlying256 rfl
theorem ld265:Ld1 Tryz.prog 265:=Ld1.of Tryz.underlying265 rfl
theorem ld281:Ld1 Tryz.prog 281:=Ld1.of Tryz.underlying281 rfl
theorem NI:Fa Tryz.prog 26 1 1:=λ_ _ _=>Zz
theorem EA:Fa Tryz.prog 26 3 3:=λ_ _ _=>Zz
theorem dR:Fa Tryz.prog 44 0 0:=λ_ _ _=>Zz
theorem NJ:Fa Tryz.prog 44 1 1:=λ_ _ _=>Zz
theorem EB:Fa Tryz.prog 44 2 2:=λ_ _ _=>Zz
theorem eP:Fa Tryz.prog 44 3 3:=λ_ _ _=>Zz
theorem fa44_4:Fa Tryz.prog 44 4 4:=λ_ _ _=>Zz
theorem kW:Fa Tryz.prog 44 5 5:=λ_ _ _=>Zz
theorem NK:Fa Tryz.prog 44 6 6:=λ_ _ _=>Zz
theorem NL:Fa Tryz.prog 55 0 0:=λ_ _ _=>Zz
theorem l9:Fa Tryz.prog 55 2 2:=λ_ _ _=>Zz
theorem EC:Fa Tryz.prog 55 3 3:=λ_ _ _=>Zz
theorem wQ:Fa Tryz.prog 69 0 0:=λ_ _ _=>Zz
theorem wR:Fa Tryz.prog 69 1 1:=λ_ _ _=>Zz
theorem rM:Fa Tryz.prog 73 0 0:=λ_ _ _=>Zz
theorem Ac:Fa Tryz.prog 73 1 1:=λ_ _ _=>Zz
theorem ja:Fa Tryz.prog 73 2 2:=λ_ _ _=>Zz
theorem pY:Fa Tryz.prog 73 3 3:=λ_ _ _=>Zz
theorem p8:Fa Tryz.prog 73 4 4:=λ_ _ _=>Zz
theorem eQ:Fa Tryz.prog 75 0 0:=λ_ _ _=>Zz
theorem rO:Fa Tryz.prog 75 1 1:=λ_ _ _=>Zz
theorem eT:Fa Tryz.prog 75 2 2:=λ_ _ _=>Zz
theorem wS:Fa Tryz.prog 75 3 3:=λ_ _ _=>Zz
theorem jW:Fa Tryz.prog 75 4 5:=λ_ _ _=>Zz
theorem nR:Fa Tryz.prog 75 5 6:=λ_ _ _=>Zz
theorem NM:Fa Tryz.prog 75 6 11:=λ_ _ _=>Zz
theorem il:Fa Tryz.prog 75 7 12:=λ_ _ _=>Zz
theorem iq:Fa Tryz.prog 75 8 13:=λ_ _ _=>Zz
theorem gV:Fa Tryz.prog 88 0 0:=λ_ _ _=>Zz
theorem wT:Fa Tryz.prog 88 1 1:=λ_ _ _=>Zz
theorem Ad:Fa Tryz.prog 88 2 2:=λ_ _ _=>Zz
theorem wU:Fa Tryz.prog 88 3 3:=λ_ _ _=>Zz
theorem wV:Fa Tryz.prog 88 4 4:=λ_ _ _=>Zz
theorem Ae:Fa Tryz.prog 88 5 5:=λ_ _ _=>Zz
theorem Ky:Fa Tryz.prog 111 0 0:=λ_ _ _=>Zz
theorem Kz:Fa Tryz.prog 114 0 0:=λ_ _ _=>Zz
theorem iW:Fa Tryz.prog 114 1 1:=λ_ _ _=>Zz
theorem gX:Fa Tryz.prog 116 0 0:=λ_ _ _=>Zz
theorem ED:Fa Tryz.prog 116 1 2:=λ_ _ _=>Zz
theorem KA:Fa Tryz.prog 116 2 3:=λ_ _ _=>Zz
theorem vJ:Fa Tryz.prog 116 3 11:=λ_ _ _=>Zz
theorem vL:Fa Tryz.prog 130 0 0:=λ_ _ _=>Zz
theorem p9:Fa Tryz.prog 130 1 1:=λ_ _ _=>Zz
theorem KC:Fa Tryz.prog 130 2 2:=λ_ _ _=>Zz
theorem sH:Fa Tryz.prog 130 3 3:=λ_ _ _=>Zz
theorem yX:Fa Tryz.prog 130 4 4:=λ_ _ _=>Zz
theorem yY:Fa Tryz.prog 130 6 10:=λ_ _ _=>Zz
theorem yZ:Fa Tryz.prog 130 7 11:=λ_ _ _=>Zz
theorem y7:Fa Tryz.prog 132 0 0:=λ_ _ _=>Zz
theorem kw:Fa Tryz.prog 132 1 1:=λ_ _ _=>Zz
theorem y8:Fa Tryz.prog 143 0 0:=λ_ _ _=>Zz
theorem KD:Fa Tryz.prog 143 1 1:=λ_ _ _=>Zz
theorem EE:Fa Tryz.prog 164 0 0:=λ_ _ _=>Zz
theorem EF:Fa Tryz.prog 164 1 1:=λ_ _ _=>Zz
theorem za:Fa Tryz.prog 170 0 0:=λ_ _ _=>Zz
theorem sI:Fa Tryz.prog 170 1 1:=λ_ _ _=>Zz
theorem jH:Fa Tryz.prog 191 0 0:=λ_ _ _=>Zz
theorem zb:Fa Tryz.prog 191 1 2:=λ_ _ _=>Zz
theorem ed:Fa Tryz.prog 191 2 3:=λ_ _ _=>Zz
theorem fa191_3:Fa Tryz.prog 191 3 17:=λ_ _ _=>Zz
theorem EG:Fa Tryz.prog 206 0 0:=λ_ _ _=>Zz
theorem gY:Fa Tryz.prog 206 1 2:=λ_ _ _=>Zz
theorem mZ:Fa Tryz.prog 206 2 9:=λ_ _ _=>Zz
theorem qf:Fa Tryz.prog 206 3 10:=λ_ _ _=>Zz
theorem qg:Fa Tryz.prog 206 4 11:=λ_ _ _=>Zz
theorem ze:Fa Tryz.prog 216 0 0:=λ_ _ _=>Zz
theorem zf:Fa Tryz.prog 216 1 1:=λ_ _ _=>Zz
theorem zg:Fa Tryz.prog 216 2 2:=λ_ _ _=>Zz
theorem jI:Fa Tryz.prog 216 3 3:=λ_ _ _=>Zz
theorem zh:Fa Tryz.prog 218 0 0:=λ_ _ _=>Zz
theorem qh:Fa Tryz.prog 218 1 1:=λ_ _ _=>Zz
theorem al4:Al Tryz.prog 4 [.bool false]:=λ_=>Zz
theorem al24:Al Tryz.prog 24 [.string ⟨#[]⟩,.string ⟨#[]⟩]:=λ_=>Zz
theorem EH:Al Tryz.prog 26 [.int .i64 0,.string ⟨#[]⟩,.string ⟨#[]⟩,.string ⟨#[]⟩,.string ⟨#[]⟩,.string ⟨#[]⟩,.string ⟨#[]⟩,.string ⟨#[]⟩]:=λ_=>Zz
theorem al29:Al Tryz.prog 29 [.int .i64 0]:=λ_=>Zz
theorem al40:Al Tryz.prog 40 [.slice none 0 0]:=λ_=>Zz
theorem oU:Al Tryz.prog 44 [.string ⟨#[]⟩,.bool false,.slice none 0 0,.slice none 0 0,.slice none 0 0,.slice none 0 0,.slice none 0 0]:=λ_=>Zz
theorem al55:Al Tryz.prog 55 [.string ⟨#[]⟩,.bool false,.slice none 0 0,.slice none 0 0]:=λ_=>Zz
theorem al69:Al Tryz.prog 69 [.string ⟨#[]⟩,.string ⟨#[]⟩]:=λ_=>Zz
theorem Af:Al Tryz.prog 73 [.int .i64 0,.string ⟨#[]⟩,.slice none 0 0,.bool false,.bool false]:=λ_=>Zz
theorem jR:Al Tryz.prog 75 [.string ⟨#[]⟩,.int .i64 0,.slice none 0 0,.string ⟨#[]⟩,.string ⟨#[]⟩,.slice none 0 0,.int .i64 0,.string ⟨#[]⟩,.slice none 0 0,.bool false,.bool false,.slice none 0 0,.slice none 0 0,.slice none 0 0]:=λ_=>Zz
theorem vO:Al Tryz.prog 88 [.string ⟨#[]⟩,.slice none 0 0,.slice none 0 0,.slice none 0 0,.slice none 0 0,.slice none 0 0]:=λ_=>Zz
theorem al111:Al Tryz.prog 111 [.string ⟨#[]⟩,.string ⟨#[]⟩]:=λ_=>Zz
theorem al114:Al Tryz.prog 114 [.slice none 0 0,.map none]:=λ_=>Zz
theorem qJ:Al Tryz.prog 116 [.slice none 0 0,.map none,.slice none 0 0,.int .i64 0,.string ⟨#[]⟩,.string ⟨#[]⟩,.string ⟨#[]⟩,.string ⟨#[]⟩,.string ⟨#[]⟩,.string ⟨#[]⟩,.string ⟨#[]⟩,.int .i64 0]:=λ_=>Zz
theorem mg:Al Tryz.prog 130 [.int .i64 0,.string ⟨#[]⟩,.slice none 0 0,.slice none 0 0,.int .i64 0,.string ⟨#[]⟩,.slice none 0 0,.bool false,.bool false,.slice none 0 0,.slice none 0 0,.slice none 0 0,.slice none 0 0,.slice none 0 0,.bool false]:=λ_=>Zz
theorem KE:Al Tryz.prog 132 [.string ⟨#[]⟩,.int .i64 0,.string ⟨#[]⟩,.slice none 0 0,.bool false,.bool false]:=λ_=>Zz
theorem Gb:Al Tryz.prog 143 [.string ⟨#[]⟩,.string ⟨#[]⟩]:=λ_=>Zz
theorem al162:Al Tryz.prog 162 [.map none]:=λ_=>Zz
theorem tL:Al Tryz.prog 164 [.slice none 0 0,.map none]:=λ_=>Zz
theorem al170:Al Tryz.prog 170 [.string ⟨#[]⟩,.slice none 0 0]:=λ_=>Zz
theorem al188:Al Tryz.prog 188 [.map none]:=λ_=>Zz
theorem rP:Al Tryz.prog 191 [.string ⟨#[]⟩,.string ⟨#[]⟩,.int .i64 0,.string ⟨#[]⟩,.int .i64 0,.slice none 0 0,.string ⟨#[]⟩,.string ⟨#[]⟩,.slice none 0 0,.int .i64 0,.string ⟨#[]⟩,.slice none 0 0,.bool false,.bool false,.slice none 0 0,.slice none 0 0,.slice none 0 0,.int .i64 0]:=λ_=>Zz
theorem al206:Al Tryz.prog 206 [.slice none 0 0,.map none,.string ⟨#[]⟩,.bool false,.slice none 0 0,.slice none 0 0,.slice none 0 0,.slice none 0 0,.slice none 0 0,.slice none 0 0,.map none,.bool false]:=λ_=>Zz
theorem KF:Al Tryz.prog 216 [.int .i64 0,.string ⟨#[]⟩,.int .i64 0,.slice none 0 0]:=λ_=>Zz
theorem KG:Al Tryz.prog 218 [.string ⟨#[]⟩,.int .i64 0,.string ⟨#[]⟩,.int .i64 0,.slice none 0 0]:=λ_=>Zz
theorem al250:Al Tryz.prog 250 [.map none]:=λ_=>Zz
theorem al256:Al Tryz.prog 256 [.nilFunc]:=λ_=>Zz
theorem al265:Al Tryz.prog 265 [.map none]:=λ_=>Zz
theorem en10:Enters Tryz.prog 10:=λ_ _=>Zz
theorem en11:Enters Tryz.prog 11:=λ_ _=>Zz
theorem en12:Enters Tryz.prog 12:=λ_ _=>Zz
theorem en13:Enters Tryz.prog 13:=λ_ _=>Zz
theorem en14:Enters Tryz.prog 14:=λ_ _=>Zz
theorem en15:Enters Tryz.prog 15:=λ_ _=>Zz
theorem en16:Enters Tryz.prog 16:=λ_ _=>Zz
theorem en19:Enters Tryz.prog 19:=λ_ _=>Zz
theorem en27:Enters Tryz.prog 27:=λ_ _=>Zz
theorem en28:Enters Tryz.prog 28:=λ_ _=>Zz
theorem en29:Enters Tryz.prog 29:=λ_ _=>Zz
theorem en31:Enters Tryz.prog 31:=λ_ _=>Zz
theorem en33:Enters Tryz.prog 33:=λ_ _=>Zz
theorem en35:Enters Tryz.prog 35:=λ_ _=>Zz
theorem en36:Enters Tryz.prog 36:=λ_ _=>Zz
theorem en37:Enters Tryz.prog 37:=λ_ _=>Zz
theorem en38:Enters Tryz.prog 38:=λ_ _=>Zz
theorem en39:Enters Tryz.prog 39:=λ_ _=>Zz
theorem en40:Enters Tryz.prog 40:=λ_ _=>Zz
theorem en41:Enters Tryz.prog 41:=λ_ _=>Zz
theorem EI:Enters Tryz.prog 42:=λ_ _=>Zz
theorem en45:Enters Tryz.prog 45:=λ_ _=>Zz
theorem en48:Enters Tryz.prog 48:=λ_ _=>Zz
theorem en49:Enters Tryz.prog 49:=λ_ _=>Zz
theorem en50:Enters Tryz.prog 50:=λ_ _=>Zz
theorem en51:Enters Tryz.prog 51:=λ_ _=>Zz
theorem en52:Enters Tryz.prog 52:=λ_ _=>Zz
theorem en53:Enters Tryz.prog 53:=λ_ _=>Zz
theorem en54:Enters Tryz.prog 54:=λ_ _=>Zz
theorem en55:Enters Tryz.prog 55:=λ_ _=>Zz
theorem en56:Enters Tryz.prog 56:=λ_ _=>Zz
theorem en57:Enters Tryz.prog 57:=λ_ _=>Zz
theorem en58:Enters Tryz.prog 58:=λ_ _=>Zz
theorem en59:Enters Tryz.prog 59:=λ_ _=>Zz
theorem en60:Enters Tryz.prog 60:=λ_ _=>Zz
theorem en61:Enters Tryz.prog 61:=λ_ _=>Zz
theorem en62:Enters Tryz.prog 62:=λ_ _=>Zz
theorem en63:Enters Tryz.prog 63:=λ_ _=>Zz
theorem en64:Enters Tryz.prog 64:=λ_ _=>Zz
theorem en73:Enters Tryz.prog 73:=λ_ _=>Zz
theorem en91:Enters Tryz.prog 91:=λ_ _=>Zz
theorem en92:Enters Tryz.prog 92:=λ_ _=>Zz
theorem en93:Enters Tryz.prog 93:=λ_ _=>Zz
theorem en94:Enters Tryz.prog 94:=λ_ _=>Zz
theorem en95:Enters Tryz.prog 95:=λ_ _=>Zz
theorem en96:Enters Tryz.prog 96:=λ_ _=>Zz
theorem en97:Enters Tryz.prog 97:=λ_ _=>Zz
theorem en98:Enters Tryz.prog 98:=λ_ _=>Zz
theorem en99:Enters Tryz.prog 99:=λ_ _=>Zz
theorem en100:Enters Tryz.prog 100:=λ_ _=>Zz
theorem en101:Enters Tryz.prog 101:=λ_ _=>Zz
theorem Gc:Enters Tryz.prog 102:=λ_ _=>Zz
theorem en103:Enters Tryz.prog 103:=λ_ _=>Zz
theorem en104:Enters Tryz.prog 104:=λ_ _=>Zz
theorem en109:Enters Tryz.prog 109:=λ_ _=>Zz
theorem en110:Enters Tryz.prog 110:=λ_ _=>Zz
theorem yg:Enters Tryz.prog 111:=λ_ _=>Zz
theorem en112:Enters Tryz.prog 112:=λ_ _=>Zz
theorem KH:Enters Tryz.prog 113:=λ_ _=>Zz
theorem KI:Enters Tryz.prog 114:=λ_ _=>Zz
theorem KJ:Enters Tryz.prog 115:=λ_ _=>Zz
theorem en116:Enters Tryz.prog 116:=λ_ _=>Zz
theorem en117:Enters Tryz.prog 117:=λ_ _=>Zz
theorem en118:Enters Tryz.prog 118:=λ_ _=>Zz
theorem en119:Enters Tryz.prog 119:=λ_ _=>Zz
theorem en120:Enters Tryz.prog 120:=λ_ _=>Zz
theorem en121:Enters Tryz.prog 121:=λ_ _=>Zz
theorem en122:Enters Tryz.prog 122:=λ_ _=>Zz
theorem en123:Enters Tryz.prog 123:=λ_ _=>Zz
theorem en124:Enters Tryz.prog 124:=λ_ _=>Zz
theorem KL:Enters Tryz.prog 126:=λ_ _=>Zz
theorem en128:Enters Tryz.prog 128:=λ_ _=>Zz
theorem en129:Enters Tryz.prog 129:=λ_ _=>Zz
theorem en130:Enters Tryz.prog 130:=λ_ _=>Zz
theorem en131:Enters Tryz.prog 131:=λ_ _=>Zz
theorem en132:Enters Tryz.prog 132:=λ_ _=>Zz
theorem en133:Enters Tryz.prog 133:=λ_ _=>Zz
theorem en134:Enters Tryz.prog 134:=λ_ _=>Zz
theorem en135:Enters Tryz.prog 135:=λ_ _=>Zz
theorem en136:Enters Tryz.prog 136:=λ_ _=>Zz
theorem en137:Enters Tryz.prog 137:=λ_ _=>Zz
theorem en138:Enters Tryz.prog 138:=λ_ _=>Zz
theorem en139:Enters Tryz.prog 139:=λ_ _=>Zz
theorem en140:Enters Tryz.prog 140:=λ_ _=>Zz
theorem en141:Enters Tryz.prog 141:=λ_ _=>Zz
theorem en142:Enters Tryz.prog 142:=λ_ _=>Zz
theorem en143:Enters Tryz.prog 143:=λ_ _=>Zz
theorem en144:Enters Tryz.prog 144:=λ_ _=>Zz
theorem en145:Enters Tryz.prog 145:=λ_ _=>Zz
theorem en146:Enters Tryz.prog 146:=λ_ _=>Zz
theorem en147:Enters Tryz.prog 147:=λ_ _=>Zz
theorem en148:Enters Tryz.prog 148:=λ_ _=>Zz
theorem en149:Enters Tryz.prog 149:=λ_ _=>Zz
theorem en150:Enters Tryz.prog 150:=λ_ _=>Zz
theorem en151:Enters Tryz.prog 151:=λ_ _=>Zz
theorem en153:Enters Tryz.prog 153:=λ_ _=>Zz
theorem en160:Enters Tryz.prog 160:=λ_ _=>Zz
theorem en163:Enters Tryz.prog 163:=λ_ _=>Zz
theorem en166:Enters Tryz.prog 166:=λ_ _=>Zz
theorem en167:Enters Tryz.prog 167:=λ_ _=>Zz
theorem en168:Enters Tryz.prog 168:=λ_ _=>Zz
theorem en169:Enters Tryz.prog 169:=λ_ _=>Zz
theorem en170:Enters Tryz.prog 170:=λ_ _=>Zz
theorem en171:Enters Tryz.prog 171:=λ_ _=>Zz
theorem en172:Enters Tryz.prog 172:=λ_ _=>Zz
theorem en173:Enters Tryz.prog 173:=λ_ _=>Zz
theorem KM:Enters Tryz.prog 174:=λ_ _=>Zz
theorem en175:Enters Tryz.prog 175:=λ_ _=>Zz
theorem en176:Enters Tryz.prog 176:=λ_ _=>Zz
theorem en177:Enters Tryz.prog 177:=λ_ _=>Zz
theorem Gf:Enters Tryz.prog 178:=λ_ _=>Zz
theorem en182:Enters Tryz.prog 182:=λ_ _=>Zz
theorem en183:Enters Tryz.prog 183:=λ_ _=>Zz
theorem en184:Enters Tryz.prog 184:=λ_ _=>Zz
theorem en185:Enters Tryz.prog 185:=λ_ _=>Zz
theorem en186:Enters Tryz.prog 186:=λ_ _=>Zz
theorem en187:Enters Tryz.prog 187:=λ_ _=>Zz
theorem en188:Enters Tryz.prog 188:=λ_ _=>Zz
theorem en189:Enters Tryz.prog 189:=λ_ _=>Zz
theorem en190:Enters Tryz.prog 190:=λ_ _=>Zz
theorem en191:Enters Tryz.prog 191:=λ_ _=>Zz
theorem en192:Enters Tryz.prog 192:=λ_ _=>Zz
theorem en193:Enters Tryz.prog 193:=λ_ _=>Zz
theorem en194:Enters Tryz.prog 194:=λ_ _=>Zz
theorem Gg:Enters Tryz.prog 195:=λ_ _=>Zz
theorem qL:Enters Tryz.prog 196:=λ_ _=>Zz
theorem en197:Enters Tryz.prog 197:=λ_ _=>Zz
theorem en199:Enters Tryz.prog 199:=λ_ _=>Zz
theorem en200:Enters Tryz.prog 200:=λ_ _=>Zz
theorem en203:Enters Tryz.prog 203:=λ_ _=>Zz
theorem kG:Enters Tryz.prog 204:=λ_ _=>Zz
theorem en205:Enters Tryz.prog 205:=λ_ _=>Zz
theorem KN:Enters Tryz.prog 206:=λ_ _=>Zz
theorem en207:Enters Tryz.prog 207:=λ_ _=>Zz
theorem en208:Enters Tryz.prog 208:=λ_ _=>Zz
theorem en209:Enters Tryz.prog 209:=λ_ _=>Zz
theorem en210:Enters Tryz.prog 210:=λ_ _=>Zz
theorem en211:Enters Tryz.prog 211:=λ_ _=>Zz
theorem en212:Enters Tryz.prog 212:=λ_ _=>Zz
theorem en213:Enters Tryz.prog 213:=λ_ _=>Zz
theorem KO:Enters Tryz.prog 214:=λ_ _=>Zz
theorem en215:Enters Tryz.prog 215:=λ_ _=>Zz
theorem en216:Enters Tryz.prog 216:=λ_ _=>Zz
theorem en217:Enters Tryz.prog 217:=λ_ _=>Zz
theorem en218:Enters Tryz.prog 218:=λ_ _=>Zz
theorem en219:Enters Tryz.prog 219:=λ_ _=>Zz
theorem en220:Enters Tryz.prog 220:=λ_ _=>Zz
theorem en221:Enters Tryz.prog 221:=λ_ _=>Zz
theorem en222:Enters Tryz.prog 222:=λ_ _=>Zz
theorem en223:Enters Tryz.prog 223:=λ_ _=>Zz
theorem en224:Enters Tryz.prog 224:=λ_ _=>Zz
theorem en225:Enters Tryz.prog 225:=λ_ _=>Zz
theorem en226:Enters Tryz.prog 226:=λ_ _=>Zz
theorem en227:Enters Tryz.prog 227:=λ_ _=>Zz
theorem en228:Enters Tryz.prog 228:=λ_ _=>Zz
theorem en229:Enters Tryz.prog 229:=λ_ _=>Zz
theorem en231:Enters Tryz.prog 231:=λ_ _=>Zz
theorem en235:Enters Tryz.prog 235:=λ_ _=>Zz
theorem en236:Enters Tryz.prog 236:=λ_ _=>Zz
theorem en237:Enters Tryz.prog 237:=λ_ _=>Zz
theorem en241:Enters Tryz.prog 241:=λ_ _=>Zz
theorem Gh:Enters Tryz.prog 242:=λ_ _=>Zz
theorem en244:Enters Tryz.prog 244:=λ_ _=>Zz
theorem en245:Enters Tryz.prog 245:=λ_ _=>Zz
theorem en246:Enters Tryz.prog 246:=λ_ _=>Zz
theorem en247:Enters Tryz.prog 247:=λ_ _=>Zz
theorem en248:Enters Tryz.prog 248:=λ_ _=>Zz
theorem en260:Enters Tryz.prog 260:=λ_ _=>Zz
theorem en261:Enters Tryz.prog 261:=λ_ _=>Zz
theorem en262:Enters Tryz.prog 262:=λ_ _=>Zz
theorem en263:Enters Tryz.prog 263:=λ_ _=>Zz
theorem en264:Enters Tryz.prog 264:=λ_ _=>Zz
theorem en265:Enters Tryz.prog 265:=λ_ _=>Zz
theorem en266:Enters Tryz.prog 266:=λ_ _=>Zz
theorem en267:Enters Tryz.prog 267:=λ_ _=>Zz
theorem en268:Enters Tryz.prog 268:=λ_ _=>Zz
theorem en269:Enters Tryz.prog 269:=λ_ _=>Zz
theorem en270:Enters Tryz.prog 270:=λ_ _=>Zz
theorem en271:Enters Tryz.prog 271:=λ_ _=>Zz
theorem en272:Enters Tryz.prog 272:=λ_ _=>Zz
theorem en278:Enters Tryz.prog 278:=λ_ _=>Zz
theorem en279:Enters Tryz.prog 279:=λ_ _=>Zz
theorem en280:Enters Tryz.prog 280:=λ_ _=>Zz
theorem en294:Enters Tryz.prog 294:=λ_ _=>Zz
theorem en296:Enters Tryz.prog 296:=λ_ _=>Zz
theorem en297:Enters Tryz.prog 297:=λ_ _=>Zz
end Fx
end Go.Proofs.YtknmacdbffgjgaaGreatDoor
namespace Go.Ck
open Go Go.RowKit

def OpenRow (v:Value) (sz n:Nat) (l:List Value) (b cp:Nat) (j:List Value):Prop:=v = .slice (some ⟨b,0,none⟩) n cp/\l.length=n * sz/\n<=cp/\cp<=maxLen/\(l++j).length=cp * sz
section
variable {c:Cx} {Q:Exit->Act->World->Prop} {e:Env} {h h':SH} {x:Code} {v:Value} {E:TypeId} {sz n:Nat} {l l':List Value}
end
end Go.Ck
namespace Go.Hr
open Go
inductive Kt
 | mk (kind:Int) (name:Nm) (args:List Kt) (void sep:Bool)
namespace Kt
def kind:Kt->Int | .mk k _ _ _ _=>k
def name:Kt->Nm | .mk _ n _ _ _=>n
def args:Kt->List Kt | .mk _ _ az _ _=>az
def void:Kt->Bool | .mk _ _ _ v _=>v
def sep:Kt->Bool | .mk _ _ _ _ s=>s
theorem ext {t u:Kt} (h1:t.kind=u.kind) (h2:t.name=u.name) (h3:t.args=u.args) (h4:t.void=u.void) (h5:t.sep=u.sep):t=u:=by
 cases t; cases u; simp only [kind,name,args,void,sep] at *; subst h1 h2 h3 h4 h5; rfl
end Kt
mutual
def Kt.same:Kt->Kt->Bool
 | .mk k n az v s,.mk k' n' az' v' s'=>k == k' && n == n' && v == v' && s == s' && Ag az az'
def Ag:List Kt->List Kt->Bool
 | [],[]=>true
 | a::t,b::u=>a.same b && Ag t u
 | [],_::_=>false
 | _::_,[]=>false
end
mutual
theorem same_iff:∀ (a b:Kt),a.same b=true↔a=b
 | .mk k n az v s,.mk k' n' az' v' s'=>by
  simp only [Kt.same,Bool.and_eq_true,beq_iff_eq,Di az az',Kt.mk.injEq]
  constructor
  .rintro ⟨⟨⟨⟨h1,h2⟩,h3⟩,h4⟩,h5⟩; exact ⟨h1,h2,h5,h3,h4⟩
  .rintro ⟨h1,h2,h5,h3,h4⟩; exact ⟨⟨⟨⟨h1,h2⟩,h3⟩,h4⟩,h5⟩
theorem Di:∀ (a b:List Kt),Ag a b=true↔a=b
 | [],[]=>by simp [Ag]
 | a::t,b::u=>by simp only [Ag,Bool.and_eq_true,same_iff a b,Di t u,List.cons.injEq]
 | [],_::_=>by simp [Ag]
 | _::_,[]=>by simp [Ag]
end
instance:DecidableEq Kt:=λa b=>decidable_of_iff _ (same_iff a b)
mutual
def Kt.depth:Kt->Nat
 | .mk _ _ az _ _=>Ah az+1
def Ah:List Kt->Nat
 | []=>0
 | a::t=>max a.depth (Ah t)
end
theorem qi:∀ {l:List Kt} {t:Kt},t∈l->t.depth<=Ah l
 | a::l,t,h=>by
  unfold Ah
  rcases List.mem_cons.1 h with rfl | h
  .omega
  .have:=qi h; omega
theorem jX {t a:Kt} (h:a∈t.args):a.depth<t.depth:=by
 cases t
 have:=qi h
 simp only [Kt.args] at this
 show a.depth<Ah _+1; omega
mutual
def Kt.parts:Kt->Nat
 | .mk _ _ az _ _=>1+NN az
def NN:List Kt->Nat
 | []=>0
 | a::t=>a.parts+NN t
end
structure Fm where
 name:Nm
 bound:Nm
def EJ (F:List Fm) (n:Nm):Option Nat:=F.findIdx? λf=>f.name == n
def Kt.flag (t:Kt) (v s:Bool):Kt:=.mk t.kind t.name t.args (t.void || v) (t.sep || s)
def Kt.with (t:Kt) (v s:Bool):Kt:=.mk t.kind t.name t.args v s
def oV (F:List Fm) (A:List Kt) (n:Nm):Option Kt:=(EJ F n).bind λi=>A[i]?
mutual
def Kt.subst (F:List Fm) (A:List Kt):Kt->Kt
 | .mk k n az v s=>if k=4 then (match oV F A n with | some t=>t.flag v s | none=>.mk k n az v s) else if k=3 then .mk k n (EK F A az) v s else .mk k n az v s
def EK (F:List Fm) (A:List Kt):List Kt->List Kt
 | []=>[]
 | a::t=>a.subst F A::EK F A t
end
section
variable {F G:List Fm} {A B:List Kt}
theorem Ai:∀ (l:List Kt),EK F A l=l.map (Kt.subst F A)
 | []=>rfl
 | a::t=>by rw [EK,Ai t]; rfl
theorem EL {n:Nm} {az:List Kt} {v s:Bool}:Kt.subst F A (.mk 4 n az v s)=(match oV F A n with | some t=>t.flag v s | none=>.mk 4 n az v s):=by
 rw [Kt.subst,if_pos rfl]
theorem Gi {n:Nm} {az:List Kt} {v s:Bool}:Kt.subst F A (.mk 3 n az v s) = .mk 3 n (az.map (Kt.subst F A)) v s:=by
 rw [Kt.subst,if_neg (by decide),if_pos rfl,Ai]
inductive Cl (F:List Fm) (m:Nat):Kt->Prop
 | fml {n:Nm} {v s:Bool} {i:Nat}:EJ F n=some i->i<m->Cl F m (.mk 4 n [] v s)
 | cls {n:Nm} {az:List Kt} {v s:Bool}:(∀ a∈az,Cl F m a)->Cl F m (.mk 3 n az v s)
theorem IV {n:Nm} {i:Nat} (h:EJ F n=some i) (hi:i<A.length):oV F A n=some A[i]:=by
 unfold oV; rw [h,Option.bind_some,List.getElem?_eq_getElem hi]
theorem Cl.subst {t:Kt} {m:Nat} (h:Cl G B.length t) (hB:∀ b∈B,Cl F m b):Cl F m (t.subst G B):=by
 induction h with
 | @fml n v s i hi hl =>
  rw [EL,IV hi hl]
  have:=hB B[i]<|List.getElem_mem hl
  generalize B[i]=b at this
  cases this with
  | fml h1 h2=>exact .fml h1 h2
  | cls h1=>exact .cls h1
 | @cls n az v s _ ih =>
  rw [Gi]
  refine .cls λa ha=>?_
  obtain ⟨a',h1,rfl⟩:=List.mem_map.1 ha
  exact ih a' h1
def ownT (F:List Fm):List Kt:=F.map λf=>.mk 4 f.name [] false false
end
end Go.Hr
