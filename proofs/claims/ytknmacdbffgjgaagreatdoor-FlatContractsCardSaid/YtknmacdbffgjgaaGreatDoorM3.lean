/-
  A range over a name's signs. Generic: nothing of the program is named here. No condition.
-/
import Derived.Test.YtknmacdbffgjgaaGreatDoorM2
import Derived.Scope
set_option linter.unusedVariables false
set_option linter.unusedSimpArgs false
set_option maxRecDepth 100000
set_option maxHeartbeats 16000000
namespace Go.Ck
open Go Go.RowKit

theorem sH {m:List (Int×Value)} {k:Int}:(m.findIdx? (·.1 == k)=none↔sF m k=none):=by
 simp [sF,List.findIdx?_eq_none_iff,List.find?_eq_none]
theorem yz (k : Int) (v : Value) : ∀ (es : List MapEntry) (m : List (Int × Value)) (i : Nat), es.map (λx => (x.key, x.val)) = mU m -> m.findIdx? (·.1 == k) = some i ->
  (es.modify i<|λx=>{ x with key:=.int .i64 k,val:=v }).map (λx=>(x.key,x.val))=mU (nG m k v)
 | [],m,i,h,hi=>by
  have:m=[]:=by cases m with | nil=>rfl | cons _ _=>simp [mU] at h
  subst this; simp at hi
 | x :: es, m, i, h, hi => by
  cases m with
  | nil=>simp at hi
  | cons p t =>
   simp only [List.map_cons,mU,List.cons.injEq,Prod.mk.injEq] at h
   obtain ⟨⟨h1,h2⟩,h3⟩:=h
   by_cases hp:p.1=k
   ·simp [List.findIdx?_cons,hp] at hi
    subst hi
    simp [nG,hp,mU,h3,List.modify]
   ·have hpk':(p.1 == k)=false:=by simp [hp]
    simp only [List.findIdx?_cons,hpk',Bool.false_eq_true,if_false,Option.map_eq_some_iff] at hi
    obtain ⟨j,hj,rfl⟩:=hi
    have ih:=yz k v es t j h3 hj
    simp only [List.modify_succ_cons,List.map_cons,ih,nG,hp,if_false,mU,h1,h2]

theorem mq (f:MapEntry->MapEntry):∀ (l:List MapEntry) (j:Nat),(∀ x,(f x).born=x.born)->(l.modify j f).map (·.born)=l.map (·.born)
 | [],_,_=>by simp
 | x::t,0,h=>by simp [List.modify,h]
 | x::t,j+1,h=>by simp only [List.modify_succ_cons,List.map_cons,mq f t j h]
theorem Cg : ∀ (m : List (Int × Value)) (k : Int) (v : Value) (x : Int), x ∈ (nG m k v).map (·.1) -> x = k ∨ x ∈ m.map (·.1)
 | [],k,v,x,h=>by simp [nG] at h; exact .inl h
 | p::t,k,v,x,h=>by
  unfold nG at h
  split at h
  ·simp only [List.map_cons,List.mem_cons] at h ⊢
   exact h.imp id .inr
  ·simp only [List.map_cons,List.mem_cons] at h ⊢
   rcases h with h | h
   ·exact .inr<|.inl h
   ·exact (Cg t k v x h).imp id .inr
theorem zU : ∀ (m : List (Int × Value)) (k : Int) (v : Value), (m.map (·.1)).Nodup -> ((nG m k v).map (·.1)).Nodup
 | [],k,v,_=>by simp [nG]
 | p::t,k,v,h=>by
  rw [List.map_cons,List.nodup_cons] at h
  unfold nG
  split
  ·rename_i hp
   rw [List.map_cons,List.nodup_cons]
   exact ⟨by rw [<- hp]; exact h.1,h.2⟩
  ·rename_i hp
   rw [List.map_cons,List.nodup_cons]
   exact ⟨λhm=>(Cg t k v _ hm).elim hp h.1,zU t k v h.2⟩
def MpT (P:Program) (T K E:TypeId):Prop:=P.underlying T=some (.map K E)/\P.underlying K=some (.int .i64)

section
variable {P:Program} {e:Env} {h h':SH} {ty:TypeId}
theorem run_findKey {K:TypeId} (hK:P.underlying K=some (.int .i64)) {es:Array MapEntry} {m:List (Int×Value)} (hm:es.toList.map (λx=>(x.key,x.val))=mU m) (k:Int) (w:World) :
  (Instr.findKey K (.int .i64 k) es.toList).run P w = .ok (dA m k) w:=by
 unfold Instr.findKey
 simp only [Sem.run_bind,run_underlying hK,Result.andThen_ok,uQ k es.toList m 0 hm,Sem.run_pure,Nat.zero_add]
 congr 1
 cases dA m k <;> rfl
theorem run_checkKey {K:TypeId} (hK:P.underlying K=some (.int .i64)) (b:Bool) (n:Nat) (k:Int) (w:World):(Instr.checkKey b (n+1) K (.int .i64 k)).run P w = .ok () w:=by
 unfold Instr.checkKey
 simp only [Sem.run_bind,run_underlying hK,Result.andThen_ok,Sem.run_pure]
theorem run_getObj_map {w:World} {b:Nat} {es:Array MapEntry} {ck:Nat} (hb:w.heap[b]? = some (.map es ck)):(getObj b).run P w = .ok (.map es ck) w:=by simp [getObj,Sem.run,hb]
end

section
variable {c:Cx} {ops:Array Oper} {K:Act->World->Prop} {rest:List Oper} {e:Env} {h h' hr:SH}
theorem dQ (w:World) (b k:Nat) (o:Obj) (hk:k≠b):({ w with heap:=w.heap.setIfInBounds b o }:World).heap[k]? = w.heap[k]? := by
 simp [Array.getElem?_setIfInBounds_ne (Ne.symm hk)]
theorem DJ {T K' E ty : TypeId} {x y v : Operand} {pos : String} {after : Array Edge} {b : Nat} {m : List (Int × Value)} {k : Int} {u : Value} (hx : e.ev? x = some (.map (some b))) (hy : e.ev? y = some (.int .i64 k)) (hv : e.ev? v = some u)
  (hT:MpT c.P T K' E) (hs:Sel h (mpr b m) h') (hnx:St c ops K rest e (mpr b (nG m k u)::h')) :
  St c ops K (⟨none,.mapUpdate T x y v,ty,pos,after,none⟩::rest) e h :=
 ek (by simp) λa w hk hh hw => by
  have hh':=hh.sel hs
  obtain ⟨es,ck,h1,h2,b1,b2,b3⟩:=hh'.1
  have hnd:=zU m k u b3
  have h1':w.heap[b]? = some (.map es ck):=h1
  have hlt:b<w.heap.size:=(Array.getElem?_eq_some_iff.1 h1').1
  have hg:(getObj b).run c.P w = .ok (.map es ck) w:=run_getObj_map h1
  have hset:∀ o,(setObj b o).run c.P w = .ok () { w with heap:=w.heap.setIfInBounds b o }:=λo=>by simp [setObj,Sem.run,h1']
  have hnew:∀ es' ck',es'.toList.map (λx=>(x.key,x.val))=mU (nG m k u)->(∀ x∈es'.toList,x.born<ck')->(es'.toList.map (·.born)).Nodup->Holds { w with heap:=w.heap.setIfInBounds b (.map es' ck') } (mpr b (nG m k u)::h'):=λes' ck' he hb1 hb2=>by
   refine ⟨⟨es',ck',?_,he,hb1,hb2,hnd⟩,hh'.2.1,bi.loc hh'.2.2 λc hc=>?_⟩
   ·show (w.heap.setIfInBounds b _)[b]? = _
    simp [hlt]
   ·exact (dQ w b c _<|λe=>hh'.2.1 b rfl (e ▸ hc)).symm
  have hsame:∀ es' ck',Same w { w with heap:=w.heap.setIfInBounds b (.map es' ck') }:=λes' ck'=>⟨rfl,rfl,rfl,Nat.le_refl _,by simp,oG (b:=b) (λo ho=>by rw [h1'] at ho; cases ho; rfl) (λo ho=>by
   have:(w.heap.setIfInBounds b<|.map es' ck')[b]? = some o:=ho
   simp [hlt] at this; rw [<- this]; rfl) λc hc=>dQ w b c _ hc⟩
  have hrun : ∃ w', (Instr.mapUpdate T (.map<|some b) (.int .i64 k) u).run c.P w = .ok () w' /\ Holds w' (mpr b (nG m k u) :: h') /\ Same w w' := by
   unfold Instr.mapUpdate
   simp only [Sem.run_bind,run_underlying hT.1,Result.andThen_ok,hg,run_checkKey hT.2,run_findKey hT.2 h2]
   cases hi:m.findIdx? (·.1 == k) with
   | none =>
    have hl:=sH.1 hi
    have hf:dA m k=none:=by simp [dA,hi]
    simp only [hf,hset]
    refine ⟨_,rfl,hnew _ _ ?_ ?_ ?_,hsame _ _⟩
    rotate_left
    ·intro x hx
     simp only [Array.toList_push,List.mem_append,List.mem_singleton] at hx
     rcases hx with hx | rfl
     ·have:=b1 x hx; omega
     ·exact Nat.lt_succ_self _
    ·simp only [Array.toList_push,List.map_append,List.map_cons,List.map_nil]
     refine List.nodup_append.2 ⟨b2,by simp,λx hx y hy e=>?_⟩
     obtain ⟨z,hz,rfl⟩:=List.mem_map.1 hx
     have:=b1 z hz
     simp at hy
     omega
    have hup : nG m k u = m ++ [(k, u)] := by
     have:∀ (m:List (Int×Value)),sF m k=none->nG m k u=m++[(k,u)]:=by
      intro m
      induction m with
      | nil=>intro _; rfl
      | cons p t ih =>
       intro hm
       have hp:¬ p.1=k:=λe=>by simp [sF,e] at hm
       have hpk:(p.1 == k)=false:=by simp [hp]
       have ht:sF t k=none:=by simpa [sF,List.find?_cons,hpk] using hm
       simp [nG,hp,ih ht]
     exact this m hl
    rw [hup]
    simp only [Array.toList_push,List.map_append,List.map_cons,List.map_nil,h2,mU]
   | some j =>
    cases hl:sF m k with
    | none=>rw [sH.2 hl] at hi; cases hi
    | some v0 =>
     have hkey:((es[j]?).map (·.key)).getD (.int .i64 k) = .int .i64 k:=by
      cases hej:es[j]? with
      | none=>rfl
      | some x =>
       have h3:(es.toList.map<|λx=>(x.key,x.val))[j]? = some (x.key,x.val):=by simp [hej]
       rw [h2] at h3
       simp only [mU,List.getElem?_map,Option.map_eq_some_iff] at h3
       obtain ⟨p,hp,hpe⟩:=h3
       simp only [Prod.mk.injEq] at hpe
       have h4:=List.findIdx?_eq_some_iff_getElem.1 hi
       obtain ⟨hjl,h5,_⟩:=h4
       have:m[j]=p:=by rw [Zy hjl] at hp; exact Option.some.inj hp
       rw [this] at h5
       simp only [beq_iff_eq] at h5
       simp [<- hpe.1,h5]
     have hf:dA m k=some (j,v0):=by simp [dA,hi,hl]
     simp only [hf,hkey]
     have hstay:(Instr.keyThatStays (.int .i64 k)<|.int .i64 k).run c.P w = .ok (.int .i64 k) w:=by
      unfold Instr.keyThatStays
      rw [if_pos (by unfold Instr.sameBits; simp)]
      rfl
     simp only [Sem.run_bind,hstay,Result.andThen_ok,hset]
     have hmb:(es.toList.modify j<|λx=>{ x with key:=.int .i64 k,val:=u }).map (·.born)=es.toList.map (·.born):=mq _ _ _<|λ_=>rfl
     refine ⟨_,rfl,hnew _ _ ?_ ?_ ?_,hsame _ _⟩
     rotate_left
     ·intro x hx
      rw [Array.toList_modify] at hx
      have hx':x.born∈(es.toList.modify j<|λx=>{ x with key:=.int .i64 k,val:=u }).map (·.born):=List.mem_map.2 ⟨x,hx,rfl⟩
      rw [hmb] at hx'
      obtain ⟨z,hz,he⟩:=List.mem_map.1 hx'
      have:=b1 z hz
      omega
     ·rw [Array.toList_modify,hmb]; exact b2
     have:=yz k u es.toList m j h2 hi
     simpa using this
  obtain ⟨w',hr,hH,hS⟩:=hrun
  simp only [execOp,hk.ev hx,hk.ev hy,hk.ev hv,Sem.run_bind,hr,Result.andThen_ok,Sem.run_pure]
  exact hnx _ _ hk hH<|hw.trans hS
theorem Ia {d:Nat} {T ty:TypeId} {pos:String} {after:Array Edge} (hd:d<c.n) (hnx:∀ b,St c ops K rest ((d,.map (some b))::e) (mpr b []::h)) :
  St c ops K (⟨some d,.makeMap T none,ty,pos,after,none⟩::rest) e h :=
 ek (by simp) λa w hk hh hw=>by
  simp only [execOp,Instr.makeMap,Option.map_none,Sem.run_bind,run_newObj_alloc,Result.andThen_ok,Sem.run_pure]
  have hA:=Holds.alloc hh (.map #[] 0)
  exact hnx _ _ _ (hk.put _ hd) ⟨⟨#[],0,hA.1,rfl,λx hx=>by simp at hx,List.nodup_nil,List.nodup_nil⟩,hA.2.1,hA.2.2⟩<|hw.trans (Grew.alloc _ _ rfl).toSame
end

section
variable {P:Program} {e:Env} {h h':SH} {ty:TypeId}
theorem aO {T : TypeId} {parts : Array (Nat × Operand)} {vs cells : List Value} (hvs : parts.toList.mapM (λp => e.ev? p.2) = some vs)
  (hb:∀ w,(Instr.build T ((parts.toList.map (·.1)).zip vs).toArray).run P w = .ok (.agg cells.toArray) w):Vop P e h (.build T parts) ty (.agg cells.toArray):=
 ⟨by simp, by simp, λρ w d pos after g hρ _ => by
  have hmap:∀ (l:List (Nat×Operand)) (vs:List Value),l.mapM (λp=>e.ev? p.2)=some vs->(l.map λp=>(p.1,ρ p.2))=(l.map (·.1)).zip vs:=by
   intro l
   induction l with
   | nil=>intro vs hv; simp at hv; subst hv; rfl
   | cons p t ih =>
    intro vs hv
    simp only [List.mapM_cons,Option.bind_eq_bind,Option.bind_eq_some_iff,Option.pure_def,Option.some.injEq] at hv
    obtain ⟨u,hu,us,hus,rfl⟩:=hv
    simp [hρ _ u hu,ih us hus]
  have hpl:(parts.map λ(i,x)=>(i,ρ x))=((parts.toList.map (·.1)).zip vs).toArray:=by
   rw [<- hmap parts.toList vs hvs]
   apply Array.toList_inj.1; simp
  simp only [execOp,hpl,Sem.run_bind,hb w,Result.andThen_ok,Sem.run_pure]⟩
end

/-! ## Guards: what is walked in two ways, and joined -/
def zV (e' e:Env):Prop:=∀ i v,e'.get? i=some v->e.get? i=some v
theorem uR {e:Env}:zV e e:=λ_ _ h=>h
theorem uH {e e':Env} {d:Nat} {u v:Value} (hv:u=v) (h:zV e e'):zV ((d,u)::e) ((d,v)::e'):=λi x hx=>by
 subst hv
 by_cases hd:d=i
 ·subst hd; simpa [Env.get?] using hx
 ·simp only [Env.get?,zP hd,cond_false] at hx ⊢; exact h i x hx
theorem uS {e e':Env} {d:Nat} {v:Value} (hn:e.get? d=none) (h:zV e e'):zV e ((d,v)::e'):=λi x hx=>by
 by_cases hd:d=i
 ·subst hd; rw [hn] at hx; cases hx
 ·simp only [Env.get?,zP hd,cond_false]; exact h i x hx
theorem Kn.ssub {n:Nat} {ds:List Deferred} {a:Act} {e e':Env} (h:Kn n ds a e) (hs:zV e' e):Kn n ds a e':=⟨h.size,h.defers,λi v hi=>h.get i v<|hs i v hi⟩
theorem aM {p:Prop} {b:Bool} (want:Bool) (h1:b = !want->p) (h2:b=want->p):p:=by
 cases b <;> cases want <;> first | exact h1 rfl | exact h2 rfl
theorem bG {e:Env} {g:Nat} {b want:Bool} (hg:e.get? g=some (.bool b)) (h:b=want):e.get? g=some (.bool want):=h ▸ hg
theorem bO {e:Env} {g:Operand} {b want:Bool} (hg:e.ev? g=some (.bool b)) (h:b=want):e.ev? g=some (.bool want):=h ▸ hg
section
variable {c:Cx} {K:Act->World->Prop} {rest:List Oper} {e:Env} {h hC:SH} {pre:Nat->Bool}
theorem bC {l:List Oper} {k d:Nat} {v:Value} (h2:(∀ e2,zV ((d,v)::e) e2->St c l.toArray K (l.drop k) e2 h)->St c l.toArray K rest e h) (h1:St c l.toArray K (l.drop k) ((d,v)::e) h):St c l.toArray K rest e h :=
 h2 λ_ hs a w hk hh hw=>h1 a w (hk.ssub hs) hh hw
def Ord.drop:Nat->Ord->Ord
 | 0,t=>t
 | n+1,.cons _ t=>Ord.drop n t
 | n+1,.pure _ t=>Ord.drop n t
 | _,t=>t
theorem DrL.ssub {ops:Array Oper} {t:Ord} {e':Env} (hs:zV e' e) (hn:DrL c ops pre hC K t e' h):DrL c ops pre hC K t e h:=by
 cases t with
 | nil=>exact λa w hk hh hw=>hn a w (hk.ssub hs) hh hw
 | cons p t =>
  obtain ⟨i,b⟩:=p
  cases b with
  | true =>
   obtain ⟨h1,o,v,h2,h3,e2,h4,h5⟩:=hn
   exact ⟨h1,o,v,h2,λa hk=>h3 a (hk.ssub hs),e2,λa hk=>h4 a (hk.ssub hs),h5⟩
  | false =>
   obtain ⟨o,h1,h2,h3⟩:=hn
   exact ⟨o,h1,λa hk=>h2 a (hk.ssub hs),λa w hk hh hw=>h3 a w (hk.ssub hs) hh hw⟩
 | two i t j u =>
  obtain ⟨⟨o,h1,h2,h3⟩,⟨o',h4,h5,h6⟩⟩:=hn
  exact ⟨⟨o,h1,λa hk=>h2 a (hk.ssub hs),λa w hk hh hw=>h3 a w (hk.ssub hs) hh hw⟩,⟨o',h4,λa hk=>h5 a (hk.ssub hs),λa w hk hh hw=>h6 a w (hk.ssub hs) hh hw⟩⟩
 | three i t j u k v =>
  obtain ⟨⟨o,h1,h2,h3⟩,⟨o',h4,h5,h6⟩,⟨o'',h7,h8,h9⟩⟩:=hn
  exact ⟨⟨o,h1,λa hk=>h2 a (hk.ssub hs),λa w hk hh hw=>h3 a w (hk.ssub hs) hh hw⟩,⟨o',h4,λa hk=>h5 a (hk.ssub hs),λa w hk hh hw=>h6 a w (hk.ssub hs) hh hw⟩,⟨o'',h7,λa hk=>h8 a (hk.ssub hs),λa w hk hh hw=>h9 a w (hk.ssub hs) hh hw⟩⟩
 | pure i t =>
  obtain ⟨o,v,h2,h3,e2,h4,h5⟩:=hn
  exact ⟨o,v,h2,λa hk=>h3 a (hk.ssub hs),e2,λa hk=>h4 a (hk.ssub hs),h5⟩
theorem DK {ops:Array Oper} {t:Ord} {k d:Nat} {v:Value} (h2:(∀ e2,zV ((d,v)::e) e2->DrL c ops pre hC K (t.drop k) e2 h)->DrL c ops pre hC K t e h) (h1:DrL c ops pre hC K (t.drop k) ((d,v)::e) h):DrL c ops pre hC K t e h :=
 h2 λ_ hs=>DrL.ssub hs h1
end
section
variable {P:Program} {e:Env} {h:SH} {ty:TypeId}
end
end Go.Ck
namespace Go.Ck
open Go

def Yc (P:Program) (l:Nat) (args:Array Value) (hf:SH) (R:Value->SH->Prop):Prop :=
 ∀ (hr:SH) (w:World),Holds w (hf++hr)->zR P (λv w'=>∃ h',R v h'/\Holds w' (h'++hr)/\Same w w') ((Instr.yield l args).run P w)
def RQ (w0:World) (hr:SH) (R:Value->SH->Prop) (e:Ending) (w:World):Prop:=∃ v,e = .returned v/\∃ h',R v h'/\Holds w (h'++hr)/\Same w0 w
def Mid (P:Program) (l:Nat) (body:Code) (Q:Exit->Act->World->Prop) (a:Act) (w:World):Prop:=∃ w',(Instr.beginRound l).run P w = .ok () w'/\body.wpIn (Fw<|some l) 0 P Q a w'

theorem Holds.putObj {w:World} {b:Nat} {o:Obj} {h:SH} (hh:Holds w (pt b o::h)) (o':Obj):Holds (w.putObj b o') (pt b o'::h):=by
 have hlt:b<w.heap.size:=Holds.lt hh<|.inl rfl
 exact Holds.modify hh (World.putObj_heap_same hlt) λc hc=>World.putObj_heap_other hc
theorem Same.putObj (w:World) (b:Nat) (o:Obj) {o':Obj} (hb:w.heap[b]? = some o') (h1:melt o'=true) (h2:melt o=true):Same w (w.putObj b o):=⟨rfl,rfl,rfl,Nat.le_refl _,by simp,oG (b:=b) (λq hq=>by rw [hb] at hq; cases hq; exact h1)
 (λq hq=>by rw [World.putObj_heap_same (Array.getElem?_eq_some_iff.1 hb).1] at hq; cases hq; exact h2) λc hc=>World.putObj_heap_other hc⟩

def Env.params:List Nat->List Value->Env->Env
 | t::ts,v::vs,e=>Env.params ts vs ((t,v)::e)
 | _,_,e=>e
theorem Kn.params {n:Nat}:∀ (ps:List Nat) (vs:List Value) {tm:Array Value} {e:Env},Kn n [] { tmps:=tm,defers:=[] } e->(∀ p∈ps,p<n) ->
  Kn n [] { tmps:=(ps.zip vs).foldl (λtmps p=>tmps.setIfInBounds p.1 p.2) tm,defers:=[] } (Env.params ps vs e)
 | [],vs,tm,e,hk,_=>by simpa [Env.params] using hk
 | t::ts,[],tm,e,hk,_=>by simpa [Env.params] using hk
 | t::ts,v::vs,tm,e,hk,hn=>by
  have h1:=hk.put (d:=t) v<|hn t<|by simp
  simp only [Act.put] at h1
  have:=Kn.params ts vs h1<|λp hp=>hn p<|by simp [hp]
  simpa [Env.params] using this

theorem qF {P:Program} {l n:Nat} {rec:Loop} {args:List Value} {hf:SH} {R:Value->SH->Prop} {e:Env} (hsz:args.length=rec.params.size) (hk:Kn n [] { tmps:=rec.tmps,defers:=[] } e) (hps:∀ p∈rec.params.toList,p<n)
  (hc:∀ (hr:SH) (w0:World),Cd ⟨P,some l,n,[],w0⟩ rec.assign (Exit.then (Mid P l rec.body<|roundPost P l<|RQ w0 hr R)<|λ_ _ _=>False) (Env.params rec.params.toList args e) (pt l (.loop rec)::hf++hr)) :
  Yc P l args.toArray (pt l (.loop rec)::hf) R:=λhr w hh=>by
 have h1:w.heap[l]? = some (.loop rec):=hh.1
 rw [run_yield h1 Zh]
 have hk':=Kn.params rec.params.toList args hk hps
 have hfold:(rec.params.zip args.toArray).foldl (λtmps (t,a)=>tmps.setIfInBounds t a) rec.tmps=(rec.params.toList.zip args).foldl (λtmps p=>tmps.setIfInBounds p.1 p.2) rec.tmps:=by
  rw [<- Array.foldl_toList]; simp
 show RoundIn (Fw none) 0 P l rec.fn _ rec.assign rec.body w _
 refine roundIn_of_wpIn trivial ?_
 rw [hfold]
 exact hc hr w _ w hk' hh<|Same.refl w

section
variable {c:Cx} {Q:Exit->Act->World->Prop} {e:Env} {h h' h'':SH} {l:Nat} {rec:Loop}
theorem lu {body:Code} {F:Exit->Act->World->Prop} (hr:c.r=some l) (s:Sel h (pt l (.loop rec)) h') (hst:rec.state = .ready) (hb:Cd c body Q e (pt l (.loop { rec with state:=.busy })::h')) :
  Xt c .normal (Exit.then (Mid c.P l body Q) F) e h:=λa w hk hh hw=>by
 have hh':=hh.sel s
 refine ⟨_,run_beginRound hh'.1 hst,?_⟩
 have:=hb a _ hk (Holds.putObj hh' _)<|hw.trans<|Same.putObj w l _ hh'.1 rfl rfl
 rw [hr] at this
 exact this
theorem dB {P:Program} {r:Option Nat} {n:Nat} {w0:World} {hr:SH} {R:Value->SH->Prop} (s:Sel h (pt l (.loop rec)) h') (hR:R (.bool true) h'') (hp:Sub (h''++hr) (pt l (.loop { rec with state:=.ready,pending:=none })::h')) :
  Xt ⟨P,r,n,[],w0⟩ .normal (roundPost P l<|RQ w0 hr R) e h:=λa w hk hh hw=>by
 have hh':=hh.sel s
 exact ⟨_,_,run_endRound none hh'.1,_,rfl,h'',hR,(Holds.putObj hh' _).sub hp,hw.trans<|Same.putObj w l _ hh'.1 rfl rfl⟩
theorem kL {P:Program} {r:Option Nat} {n:Nat} {w0:World} {hr:SH} {R:Value->SH->Prop} (s:Sel h (pt l (.loop rec)) h') (hR:R (.bool false) h'') (hp:Sub (h''++hr) (pt l (.loop { rec with state:=.done,pending:=some .ret })::h')) :
  Xt ⟨P,r,n,[],w0⟩ .ret (roundPost P l<|RQ w0 hr R) e h:=λa w hk hh hw=>by
 have hh':=hh.sel s
 exact ⟨_,_,run_endRound (some .ret) hh'.1,_,rfl,h'',hR,(Holds.putObj hh' _).sub hp,hw.trans<|Same.putObj w l _ hh'.1 rfl rfl⟩
end

def mk (b:Nat):Deferred:={ target:=.collected b,args := #[] }
def marks (bs:List Nat):SH:=bs.map λb=>pt b<|.deferred<|some []
def qG (fn:FuncId) (tm:Array Value) (ps:Array Tmp) (assign body:Code) (db:Nat):Loop:=⟨.ready,none,fn,tm,ps,assign,body,db⟩
theorem MZ {P : Program} {n : Nat} {ds : List Deferred} {w0 : World} {Q : Exit -> Act -> World -> Prop} {e : Env} {h : SH} {g : Operand} {k : FuncId} {fi cp : Array Value} {ps : Array Tmp} {assign body : Code}
  (hg:e.ev? g=some (.func (.func k) fi cp)) (hE:Enters P k)
  (hct:∀ (l db:Nat) (fn:FuncId) (tm:Array Value),Kn n [] { tmps:=tm,defers:=[] } e ->
   ∃ R',Ct P k (fi ++ #[.func (.yield l) #[] #[]]++cp) (pt l (.loop<|qG fn tm ps assign body db)::pt db (.deferred<|some [])::h) R' /\
    ∀ v h',R' v h'->∃ rec h'',Sel h' (pt l (.loop rec)) h''/\rec.state≠.busy/\(match rec.pending with | none=>Xt ⟨P,none,n,mk db::ds,w0⟩ .normal Q e h'' | some x=>Cd ⟨P,none,n,mk db::ds,w0⟩ x Q e h'')) :
  Cd ⟨P,none,n,ds,w0⟩ (.rangeFunc g ps assign body) Q e h:=λa w hk hh hw=>by
 refine wpIn_rangeFunc λfn _=>?_
 obtain ⟨R',ct,hR'⟩:=hct (w.heap.size+1) w.heap.size fn a.tmps ⟨hk.size,rfl,hk.get⟩
 have h1:=Holds.alloc (Holds.alloc hh<|.deferred<|some [])<|.loop<|qG fn a.tmps ps assign body w.heap.size
 have hsz:(w.alloc<|.deferred<|some []).heap.size=w.heap.size+1:=World.size_alloc _ _
 rw [hsz] at h1
 refine ⟨_,_,_,⟨.fn (.func k) cp,fi ++ #[.func (.yield (w.heap.size+1)) #[] #[]]⟩,(w.alloc<|.deferred<|some []).alloc (.loop<|qG fn a.tmps ps assign body w.heap.size),k,fi ++ #[.func (.yield (w.heap.size+1)) #[] #[]]++cp,(w.alloc<|.deferred<|some []).alloc (.loop<|qG fn a.tmps ps assign body w.heap.size),run_enterLoop_outer fn a.tmps ps assign body,?_,λ_ _=>trivial,?_,λh=>by simp [Fw,Fence.wide] at h,?_⟩
 ·simp only [resolve,hk.ev hg,Deferred.ofValue,Sem.run_bind,Sem.run_pure,Result.andThen_ok]
  simp [Act.eval,qG]
 ·have:(invoke (.fn (.func k) cp) (fi ++ #[.func (.yield (w.heap.size+1)) #[] #[]])).run P ((w.alloc<|.deferred<|some []).alloc<|.loop<|qG fn a.tmps ps assign body w.heap.size) = .ok (.enter k (fi ++ #[.func (.yield (w.heap.size+1)) #[] #[]]++cp)) ((w.alloc<|.deferred<|some []).alloc<|.loop<|qG fn a.tmps ps assign body w.heap.size):=hE _ _
  exact this
 ·have hgr:Same w ((w.alloc<|.deferred<|some []).alloc<|.loop<|qG fn a.tmps ps assign body w.heap.size):=(Grew.alloc _ _ rfl).toSame.trans (Grew.alloc _ _ rfl).toSame
  have hctw:=ct [] _ Zf
  refine sZ (Calls.mono hctw λen w' ⟨v,h',he,hRv,hH,hS⟩=>?_)
  subst he
  obtain ⟨rec,h'',s,hbusy,hj⟩:=hR' v h' hRv
  have hH':=(show Holds w' h' by simpa using hH).sel s
  refine ⟨rec.pending,_,run_endLoop hH'.1 hbusy,?_⟩
  have hk2:Kn n (mk w.heap.size::ds) { a with defers:=[{ target:=.collected w.heap.size,args := #[] }]++a.defers } e:=⟨hk.size,by simp [mk,hk.defers],hk.get⟩
  have hH2:∀ o,Holds (w'.putObj (w.heap.size+1) o) h'':=λo=>(Holds.putObj hH' o).2.2
  have hS2:∀ r,Same w0 (w'.putObj (w.heap.size+1)<|.loop r):=λr=>(hw.trans hgr).trans<|hS.trans<|Same.putObj _ _ _ hH'.1 rfl rfl
  generalize rec.pending=j at hj ⊢
  cases j with
  | none=>exact hj _ _ hk2 (hH2 _) (hS2 _)
  | some x=>exact hj _ _ hk2 (hH2 _) (hS2 _)

/-! ### The function's end, with marks -/
theorem ze {P:Program} {fn:Func} {tm:Array Value} {Rf:Ending->World->Prop} {w0:World} {k:SH}:∀ (bs:List Nat) (w:World),Holds w (marks bs++k)->Same w0 w ->
  (∀ w',Holds w' k->Same w0 w'->∃ v,(results fn tm).run P w' = .ok v w'/\Rf (.returned v) w')->LeavesInM (Fw none) 0 P fn tm Rf (bs.map mk) .returning w
 | [],w,hh,hs,hf=>hf w hh hs
 | b::bs,w,hh,hs,hf=>by
  refine ⟨by simp,.inl ⟨b,_,rfl,run_takeDeferred (ds:=[]) hh.1,?_⟩⟩
  exact ze bs _ (Holds.putObj hh _).2.2 (hs.trans<|Same.putObj _ _ _ hh.1 rfl rfl) hf
theorem qH {P:Program} {k:FuncId} {fn:Func} {x:Code} {n:Nat} {l:List Value} {hf:SH} {R:Value->SH->Prop} (hF:P.funcs[k]? = some fn) (hb:fn.body=some x) (hnt:fn.ntmps=n) (hn:l.length≤n)
  (hc:∀ (hr:SH) (w0:World),Cd ⟨P,none,n,[],w0⟩ x (bodyPostM (Fw none) 0 P fn<|Post w0 hr R) (Env.ofArgs 0 l) (hf++hr)):Ct P k l.toArray hf R:=λhr w hh=>by
 refine uO (r:=none) (n:=0)<|callsIn_of_wp_marks hF hb trivial<|hc hr w _ w ⟨?_,rfl,λi v hi=>?_⟩ hh<|Same.refl w
 ·simp; omega
 ·obtain ⟨_,h2⟩:=Env.ofArgs_get hi
  simp only [Nat.sub_zero] at h2
  have hlt:i<l.length:=(List.getElem?_eq_some_iff.1 h2).1
  rw [Zy hlt,Option.some.injEq] at h2
  simp [Array.getElem?_append,hlt,h2]
section
variable {P:Program} {r:Option Nat} {n:Nat} {w0:World} {hr:SH} {R:Value->SH->Prop} {fn:Func} {e:Env} {h h':SH} {vs:List Value} {bs:List Nat} {ds:List Deferred}
theorem jO (hds:ds=bs.map mk) (hv:e.res? fn.results.toList=some vs) (hR:R (kC vs) h') (hp:Sub (marks bs++(h'++hr)) h):Xt ⟨P,r,n,ds,w0⟩ .ret (bodyPostM (Fw none) 0 P fn (Post w0 hr R)) e h :=
 λa w hk hh hw=>by
  show LeavesInM (Fw none) 0 P fn a.tmps _ a.defers .returning w
  rw [hk.defers,hds]
  exact ze bs w (hh.sub hp) hw λw' h1 h2=>⟨_,mi hk hv w',_,h',rfl,hR,h1,h2⟩
theorem xt_endM (hds:ds=bs.map mk) (hv:e.res? fn.results.toList=some vs) (hR:R (kC vs) h') (hp:Sub (marks bs++(h'++hr)) h):Xt ⟨P,r,n,ds,w0⟩ .normal (bodyPostM (Fw none) 0 P fn (Post w0 hr R)) e h :=
 λa w hk hh hw=>jO (r:=r) (n:=n) (w0:=w0) hds hv hR hp a w hk hh hw
end

/-! ### A loop in which marks are laid -/
section
variable {P:Program} {r:Option Nat} {n:Nat} {ds:List Deferred} {w0:World} {Q:Exit->Act->World->Prop} {e:Env} {h:SH}
def M0 {σ : Type} (P:Program) (r:Option Nat) (n:Nat) (w0:World) (D : σ -> List Deferred) (E : σ -> Env) (H : σ -> SH) (Φ : σ -> Prop) (μ : σ -> Nat) (s : σ) (a:Act) (w:World):Prop :=
 ∃ s',Φ s' /\ μ s' < μ s/\Kn n (D s') a (E s')/\Holds w (H s')/\Same w0 w
theorem nH {σ : Type} {x : Code} (D : σ -> List Deferred) (E : σ -> Env) (H : σ -> SH) (Φ : σ -> Prop) (μ : σ -> Nat) (s0 : σ) (h0 : Φ s0) (hd : ds = D s0) (hs : Env.sub (E s0) e) (hp : Sub (H s0) h)
    (hr:∀ s,Φ s->Cd ⟨P,r,n,D s,w0⟩ x (Exit.then (M0 P r n w0 D E H Φ μ s) Q) (E s) (H s)):Cd ⟨P,r,n,ds,w0⟩ (.loop x) Q e h:=λa w hk hh hw=>by
  subst hd
  let p:Act->World->Nat->Prop:=λa w m=>∃ s,Φ s /\ μ s=m/\Kn n (D s) a (E s)/\Holds w (H s)/\Same w0 w
  have hmin:∀ a w m,p a w m->p a w (least<|p a w)/\least (p a w)≤m:=λa w m hn=>⟨(oI ⟨m,hn⟩).1,(oI ⟨m,hn⟩).2 m hn⟩
  refine wpIn_loop (λa w=>∃ m,p a w m) (λa w=>least<|p a w) ⟨_,s0,h0,rfl,hk.weaken hs,hh.sub hp,hw⟩ λa w ⟨m,hn⟩=>?_
  obtain ⟨⟨s,h1,h2,h3,h4,h5⟩,_⟩:=hmin a w m hn
  refine wpIn_mono (hr s h1 a w h3 h4 h5) λex a' w' hq=>?_
  cases ex <;> first
    | exact hq
    | (obtain ⟨s', g1, g2, g3, g4, g5⟩ := hq
       have hp':p a' w' (μ s'):=⟨s',g1,rfl,g3,g4,g5⟩
       exact ⟨⟨_,hp'⟩,Nat.lt_of_le_of_lt (hmin a' w' _ hp').2 (h2 ▸ g2)⟩)
theorem kY {σ : Type} {D : σ -> List Deferred} {E : σ -> Env} {H : σ -> SH} {Φ : σ -> Prop} {μ : σ -> Nat} {s : σ} (s' : σ) (h1 : Φ s') (h2 : μ s' < μ s) (hd:ds=D s') (hs:Env.sub (E s') e) (hp:Sub (H s') h) :
  Xt ⟨P,r,n,ds,w0⟩ .normal (Exit.then (M0 P r n w0 D E H Φ μ s) Q) e h:=λ_ _ hk hh hw=>⟨s',h1,h2,by subst hd; exact hk.weaken hs,hh.sub hp,hw⟩
end

/-! ### Calls of yield -/
section
variable {c:Cx} {ops:Array Oper} {K:Act->World->Prop} {rest:List Oper} {e:Env} {h h' hr:SH}
theorem Bw {P:Program} {f:Operand} {az:Array Operand} {ts:Array TypeId} {l:Nat} {vs:List Value} (hf:e.ev? f=some (.func (.yield l) #[] #[])) (has:az.toList.mapM e.ev? = some vs)
  {ρ : Operand->Value} (hρ : ∀ x u,e.ev? x=some u -> ρ x=u) (w:World) (d:Option Tmp) (ty:TypeId) (pos:String) (after:Array Edge) (g:Option (Nat×Bool)) :
  (execOp ρ ⟨d,.call { callee:=.value f,args:=az,argTypes:=ts },ty,pos,after,g⟩).run P w=(Instr.yield l vs.toArray).run P w:=by
 have e1:Array.map ρ az=vs.toArray:=by
  apply Array.toList_inj.1; simpa using DF hρ az.toList vs has
 simp only [execOp,resolve,hρ f _ hf,Deferred.ofValue,e1,Sem.run_bind,Sem.run_pure,Result.andThen_ok,invoke]
 simp
theorem uT {d:Nat} {f:Operand} {az:Array Operand} {ts:Array TypeId} {ty:TypeId} {pos:String} {after:Array Edge} {l:Nat} {vs:List Value} {hf:SH} {R:Value->SH->Prop} {gu:Option (Nat×Bool)} {gd:Nat}
  (hgu:gu=none∨∃ g want,gu=some (g,want)/\((ops[g]?).bind (·.dst))=some gd/\e.get? gd=some (.bool want))
  (hv:e.ev? f=some (.func (.yield l) #[] #[])) (has:az.toList.mapM e.ev? = some vs) (yc:Yc c.P l vs.toArray hf R) (pk:Pk h hf hr) (hd:d<c.n)
  (hn:∀ v h',R v h'->St c ops K rest ((d,v)::e) (h'++hr)) :
  St c ops K (⟨some d,.call { callee:=.value f,args:=az,argTypes:=ts },ty,pos,after,gu⟩::rest) e h:=λa w hk hh hs=>by
 unfold LsW
 have hw:Region.wanted (⟨some d,.call { callee:=.value f,args:=az,argTypes:=ts },ty,pos,after,gu⟩:Oper) (yielded ops a.tmps)=true:=by
  rcases hgu with rfl | ⟨g,want,rfl,hg,hgv⟩
  ·simp [Region.wanted]
  ·simp [Region.wanted,eZ hg hgv hk]
 rw [if_pos hw]
 unfold OpW OpV
 rw [Oper.semAt_eq _ _ _ (by simp),Bw hv has hk.evs]
 refine iW (λv w' ⟨h',hR,hH,hS⟩=>?_)<|yc hr w<|hh.pk pk
 exact hn v h' hR _ w' (hk.put v hd) hH<|hs.trans hS
theorem JJ {pre:Nat->Bool} {hC:SH} {t:Ord} {i:Nat} {d:Option Nat} {op:Op} {ty:TypeId} {pos:String} {after:Array Edge} {g gd:Nat} {want:Bool} (hi:ops[i]? = some ⟨d,op,ty,pos,after,some (g,want)⟩)
  (hg:((ops[g]?).bind (·.dst))=some gd) (hgv:e.get? gd=some (.bool want)) (hn:St c ops (EffK c ops pre hC K i t h) [⟨d,op,ty,pos,after,some (g,want)⟩] e h):DrL c ops pre hC K (.cons (i,false) t) e h :=
 ⟨_,hi,λ_ hk=>by simp [Region.wanted,eZ hg hgv hk],hn⟩
end
end Go.Ck
namespace Go.Ck
open Go Go.RowKit

def JK:Option TypeDesc->Bool
 | some (.int .i64)=>true
 | _=>false
def uU (P:Program):List Field->Nat->Bool
 | [],_=>true
 | f :: t, i => (f.name != "_") && JK (P.underlying f.type) && Nat.beq f.offset i && uU P t (i + 1)
def EqI (P:Program) (T:TypeId) (n:Nat):Prop:=P.eqGuardType P.depth T=false/\∀ (xs ys:List Int) (w:World),xs.length=n->ys.length=n ->
 (Op.equalIn 10000 T (.agg (ints xs).toArray)<|.agg (ints ys).toArray).run P w = .ok (xs == ys) w
theorem uV {P:Program} {T:TypeId} (h:JK (P.underlying T)=true) {xs:List Int} {i:Nat} {x:Int} (hx:xs[i]? = some x) (w:World):(part T (ints xs).toArray i).run P w = .ok (.int .i64 x) w:=by
 have hu:P.underlying T=some (.int .i64):=by
  unfold JK at h; split at h
  ·assumption
  ·cases h
 have hi:(isAgg T).run P w = .ok false w:=by
  unfold isAgg
  simp only [Sem.run_bind,run_underlying hu,Result.andThen_ok]
  rfl
 unfold part
 have:(ints xs).toArray[i]? = some (.int .i64 x):=by simp [ints,hx]
 simp only [Sem.run_bind,hi,Result.andThen_ok,Bool.false_eq_true,if_false,this,Sem.run_pure]
theorem uW {P : Program} {d : Nat} {xs ys : List Int} {w : World} : ∀ (fs : List Field) (i : Nat), uU P fs i = true -> xs.length = i + fs.length -> ys.length = i + fs.length ->
  (Op.eqFields (d+1) (ints xs).toArray (ints ys).toArray fs).run P w = .ok (xs.drop i == ys.drop i) w
 | [],i,_,hx,hy=>by
  have h1:xs.drop i=[]:=List.drop_of_length_le (by simp at hx; omega)
  have h2:ys.drop i=[]:=List.drop_of_length_le (by simp at hy; omega)
  rw [h1,h2]
  simp [Op.eqFields]
 | f::t,i,h,hx,hy=>by
  simp only [uU,Bool.and_eq_true,bne_iff_ne] at h
  obtain ⟨⟨⟨h1,h2⟩,h3⟩,h4⟩:=h
  have h3':=Nat.eq_of_beq_eq_true h3
  simp only [List.length_cons] at hx hy
  have hxi:i<xs.length:=by omega
  have hyi:i<ys.length:=by omega
  have hu:P.underlying f.type=some (.int .i64):=by
   unfold JK at h2; split at h2
   ·assumption
   ·cases h2
  unfold Op.eqFields
  rw [if_pos h1,h3']
  simp only [Sem.run_bind,uV h2 (Zy hxi),uV h2 (Zy hyi),Result.andThen_ok,run_equalIn_int w d f.type .i64 .i64 xs[i] ys[i] hu]
  have hb:(xs.drop i == ys.drop i)=(xs[i] == ys[i] && (xs.drop (i+1) == ys.drop (i+1))):=by
   rw [List.drop_eq_getElem_cons hxi,List.drop_eq_getElem_cons hyi]; rfl
  rw [hb]
  by_cases he:xs[i]=ys[i]
  ·rw [if_neg (by simp [he]),uW t (i+1) h4 (by omega) (by omega),he]
   simp only [beq_self_eq_true,Bool.true_and]
  ·rw [if_pos (by simp [he]),beq_eq_false_iff_ne.2 he]
   rfl
theorem EqI.of {P:Program} {T:TypeId} {fs:Array Field} {n:Nat} (h1:P.underlying T=some (.struct fs)) (h2:P.stoodInHeld T=false) (h3:P.eqGuardType P.depth T=false) (h4:uU P fs.toList 0=true) (hn:fs.size=n):EqI P T n:=by
 refine ⟨h3,λxs ys w hx hy=>?_⟩
 have hf:P.fieldsOf T=fs:=by simp [Program.fieldsOf,h1]
 rw [run_equalIn_struct w 9999 T _ _ (by rw [hf]; exact h1) h2,hf,uW fs.toList 0 h4 (by simp [hx,hn]) (by simp [hy,hn])]
 simp

section
variable {P:Program} {e:Env} {h h':SH} {ty:TypeId}
theorem oJ {T t':TypeId} {x y:Operand} {a b:Bool} (hT:P.underlying T=some .bool) (hx:e.ev? x=some (.bool a)) (hy:e.ev? y=some (.bool b)):Vop P e h (.binOp .eql T x y t') ty (.bool (a == b)):=
 ⟨by simp,by simp,λρ w d pos after g hρ _=>by
  have hq:(Op.equalIn 10000 T (.bool a)<|.bool b).run P w = .ok (a == b) w:=run_equalIn_bool' w 9999 T a b hT
  simp [execOp,hρ x _ hx,hρ y _ hy,eqGuard,binOp,Op.equal,Op.maxDepth,hq]⟩
theorem zW {T t':TypeId} {x y:Operand} {a b:Bool} (hT:P.underlying T=some .bool) (hx:e.ev? x=some (.bool a)) (hy:e.ev? y=some (.bool b)):Vop P e h (.binOp .neq T x y t') ty (.bool (!(a == b))):=
 ⟨by simp,by simp,λρ w d pos after g hρ _=>by
  have hq:(Op.equalIn 10000 T (.bool a)<|.bool b).run P w = .ok (a == b) w:=run_equalIn_bool' w 9999 T a b hT
  simp [execOp,hρ x _ hx,hρ y _ hy,eqGuard,binOp,Op.equal,Op.maxDepth,hq]⟩
def Rds (r:Res) (b o:Nat) (vs:List Value):Prop:=∀ i (hi:i<vs.length),Rd r ⟨b,o+i,none⟩ vs[i]
theorem v_loadR {T:TypeId} {x:Operand} {b o n:Nat} {vs:List Value} {r:Res} (hx:e.ev? x=some (.pointer (some ⟨b,o,none⟩))) (hT:LdN P T n) (hl:vs.length=n) (s:Sel h r h') (hr:Rds r b o vs) :
  Vop P e h (.load T x) ty (.agg vs.toArray):=v_loadN hx hT hl λi hi=>⟨r,h',s,hr i hi⟩
theorem ah {b:Nat} {vs:List Value} {E:TypeId}:Rds (pt b (cl vs E)) b 0 vs:=λi hi=>bV<|by simp [hi]
end

section
variable {c:Cx} {ops:Array Oper} {K:Act->World->Prop} {rest:List Oper} {e:Env} {h h' hr:SH}
theorem ik {T E : TypeId} {x y : Operand} {ty : TypeId} {pos : String} {after : Array Edge} {b off n : Nat} {l vs : List Value} {k : SH}
  (hx:e.ev? x=some (.pointer<|some ⟨b,off,none⟩)) (hy:e.ev? y=some (.agg vs.toArray)) (hT:Sz c.P T n) (hn:vs.length=n) (h1:∀ v∈vs,v.oneCell'=true) (hs:Sel h (pt b<|cl l E) k) (ho:off+vs.length≤l.length)
  (hnx:St c ops K rest e (pt b (cl (splice l off vs) E)::k)) :
  St c ops K (⟨none,.store T x y,ty,pos,after,none⟩::rest) e h :=
 ek (by simp) λa w hk hh hs'=>by
  have hh':=hh.sel hs
  have hg:w.heap[b]? = some (.cells l.toArray E (0,0)):=hh'.1
  have hr:(Instr.storeAt T (.pointer<|some ⟨b,off,none⟩)<|.agg vs.toArray).run c.P w = .ok () (w.setRow b (splice l off vs).toArray):=by
   have hst:=run_storeCells_at c.P b off E vs 0 l.toArray w hg (by simpa using ho) h1
   unfold Instr.storeAt storeVar
   have hsz:(Value.agg vs.toArray).cells.size=n:=by simp [Value.cells,hn]
   simp only [Instr.sureAddr,Sem.run_bind,Sem.run_pure,Result.andThen_ok,hT w,hsz]
   simp only [Value.cells,ne_eq,not_true_eq_false,if_false,hst]
   simp [splice]
  simp only [execOp,hk.ev hx,hk.ev hy,Sem.run_bind,hr,Result.andThen_ok,Sem.run_pure]
  exact hnx _ _ hk (Holds.setRow hh'<|splice l off vs)<|hs'.trans<|Same.setRow _ _ _ hh'.1
theorem KN {T E:TypeId} {x y:Operand} {ty:TypeId} {pos:String} {after:Array Edge} {b n:Nat} {l vs:List Value} {k:SH}
  (hx:e.ev? x=some (.pointer<|some ⟨b,0,none⟩)) (hy:e.ev? y=some (.agg vs.toArray)) (hT:Sz c.P T n) (hn:vs.length=n) (h1:∀ v∈vs,v.oneCell'=true) (hs:Sel h (pt b<|cl l E) k) (hl:l.length=vs.length)
  (hnx:St c ops K rest e (pt b (cl vs E)::k)) :
  St c ops K (⟨none,.store T x y,ty,pos,after,none⟩::rest) e h:=by
 refine ik hx hy hT hn h1 hs (by omega) ?_
 have:splice l 0 vs=vs:=by simp [splice,<- hl]
 rw [this]; exact hnx
end

theorem ones {vs:List Value} (h:vs.all Value.oneCell'=true):∀ v∈vs,v.oneCell'=true:=List.all_eq_true.1 h

/-! ## Results that lie in cells -/
inductive ResV (P:Program) (h:SH) (e:Env):List ResultVar->List Value->Prop
 | nil:ResV P h e [] []
 | tmp {t:Nat} {v:Value} {rs:List ResultVar} {vs:List Value}:e.get? t=some v->ResV P h e rs vs->ResV P h e (.tmp t::rs) (v::vs)
 | cell1 {a b o:Nat} {T:TypeId} {v:Value} {rs:List ResultVar} {vs:List Value}:e.get? a=some (.pointer (some ⟨b,o,none⟩))->Ld1 P T->At h ⟨b,o,none⟩ v->ResV P h e rs vs->ResV P h e (.cell a T::rs) (v::vs)
 | cellN {a b n:Nat} {T E:TypeId} {us:List Value} {h':SH} {rs:List ResultVar} {vs:List Value}:e.get? a=some (.pointer (some ⟨b,0,none⟩))->LdN P T n->us.length=n->Sel h (pt b (cl us E)) h'->ResV P h e rs vs->ResV P h e (.cell a T::rs) (.agg us.toArray::vs)
theorem zX {P:Program} {T:TypeId} {a:Addr} {v:Value} {w:World} (h:(Instr.loadAt T (.pointer (some a))).run P w = .ok v w):(loadVar T a).run P w = .ok v w:=by
 unfold Instr.loadAt at h
 simpa [Instr.sureAddr] using h
theorem uX {P : Program} {fn : Func} {n : Nat} {ds : List Deferred} {a : Act} {e : Env} {h : SH} (hk : Kn n ds a e) {vs : List Value} (hr : ResV P h e fn.results.toList vs) {w : World} (hh : Holds w h) :
  (results fn a.tmps).run P w = .ok (kC vs) w:=by
 have key:∀ (f:ResultVar->Sem Value) (_:∀ t,f (.tmp t)=pure (a.tmps.getD t undef)) (_:∀ t T,f (.cell t T)=do loadVar T (<- asAddr (a.tmps.getD t undef))) (l:List ResultVar) (vs:List Value),ResV P h e l vs->(l.mapM f).run P w = .ok vs w:=by
  intro f hf hc l vs hv
  induction hv with
  | nil=>simp
  | tmp h1 _ ih=>simp [List.mapM_cons,ih,hf,Array.getD_eq_getD_getElem?,hk.get _ _ h1]
  | cell1 h1 h2 h3 _ ih =>
   simp only [List.mapM_cons,hc,Array.getD_eq_getD_getElem?,hk.get _ _ h1,Option.getD_some,asAddr,Sem.run_bind,Sem.run_pure,Result.andThen_ok,zX (h2 w _ _<|h3.cell hh),ih]
  | cellN h1 h2 h3 h4 _ ih =>
   have hld:=h2 w _ 0 _ h3<|λi hi=>by rw [Zy (by omega)]; exact (ah i<|by omega).at h4 hh
   simp only [List.mapM_cons,hc,Array.getD_eq_getD_getElem?,hk.get _ _ h1,Option.getD_some,asAddr,Sem.run_bind,Sem.run_pure,Result.andThen_ok,zX hld,ih]
 unfold results
 rw [<- Array.toArray_toList (xs:=fn.results),List.mapM_toArray]
 simp only [Sem.run_bind,Sem.run_map]
 rw [key _ (λ_=>rfl) (λ_ _=>rfl) _ _ hr]
 simp only [Result.andThen_ok,Sem.run_pure]
 cases vs with
 | nil=>simp [kC]
 | cons v t=>cases t <;> simp [kC]
section
variable {P:Program} {r:Option Nat} {n:Nat} {w0:World} {hr:SH} {R:Value->SH->Prop} {fn:Func} {e:Env} {h h':SH} {vs:List Value}
theorem bD (hv:ResV P h e fn.results.toList vs) (hR:R (kC vs) h') (hp:Sub (h'++hr) h):Xt ⟨P,r,n,[],w0⟩ .ret (bodyPost P fn (Post w0 hr R)) e h :=
 λa w hk hh hw=>⟨hk.defers,_,uX hk hv hh,_,h',rfl,hR,hh.sub hp,hw⟩
end

/-! ## A scope that nothing jumps within -/
section
variable {P:Program} {F:Fence} {n:Nat} {b:Frame} {a:Act} {k:List Item} {cs:List Frame} {w:World} {Q:Exit->Act->World->Prop}
theorem iX {c:Code}:step P (lone (b.atR a (.code (.scope c)::k)) cs w) = .next (lone (b.atR a (.code c::.inScope c::k)) cs w):=step_lone_go (by simp [stepG,stepG.exec,Frame.atR])
theorem Bz {c:Code}:step P (lone (b.atR a (.inScope c::k)) cs w) = .next (lone (b.atR a k) cs w):=step_lone_go (by simp [stepG,stepG.exec,Frame.atR])
theorem Ib {c:Code} (h:c.wpIn F n P (Exit.noGoto Q) a w):(Code.scope c).wpIn F n P Q a w:=by
 intro b k cs hro hb hr
 have h0:(lone (b.atR a (.code (.scope c)::k)) cs w).fenced P F:=fenced_calm hb hr rfl
 obtain ⟨e,a₁,w₁,hq,harr⟩:=h b (.inScope c::k) cs hro hb hr
 cases e with
 | normal=>exact ⟨.normal,a₁,w₁,hq,.head h0 iX (StepsIn.trans harr (.one (fenced_calm hb hr rfl) Bz))⟩
 | exit id =>
  have hx:exitTo id (.inScope c::k)=exitTo id k:=by simp [exitTo]
  exact ⟨.exit id,a₁,w₁,hq,λk' hk=>.head h0 iX (harr.1 k' (by rw [hx]; exact hk)),
   λhr' hk=>let ⟨k₁,h1,h2⟩:=harr.2 hr' (by rw [hx]; exact hk); ⟨k₁,h1,.head h0 iX h2⟩⟩
 | goto l=>exact hq.elim
 | ret=>exact ⟨_,a₁,w₁,hq,.of_steps (.one h0 iX) harr⟩
 | panic ch=>exact ⟨_,a₁,w₁,hq,.of_steps (.one h0 iX) harr⟩
 | outgrown=>exact ⟨_,a₁,w₁,hq,.of_steps (.one h0 iX) harr⟩
end
section
variable {c:Cx} {Q:Exit->Act->World->Prop} {e:Env} {h:SH}
theorem E5 {x:Code} (hx:Cd c x (Exit.noGoto Q) e h):Cd c (.scope x) Q e h:=λa w hk hh hw=>Ib<|hx a w hk hh hw
theorem pX (hx:Xt c .normal Q e h):Xt c .normal (Exit.noGoto Q) e h:=hx
theorem fq (hx:Xt c .ret Q e h):Xt c .ret (Exit.noGoto Q) e h:=hx
theorem BA {id:Nat} (hx:Xt c (.exit id) Q e h):Xt c (.exit id) (Exit.noGoto Q) e h:=hx
end
end Go.Ck
namespace Go.Ck
open Go

section
variable {c:Cx} {Q:Exit->Act->World->Prop} {e:Env} {h h':SH} {x:Code}
theorem nI (hc:Cd c x Q e (Res.star (marks [])::h)):Cd c x Q e h:=λa w hk hh hw=>hc a w hk ⟨trivial,λ_ hb=>hb.elim,hh⟩ hw
theorem jl {ex:Exit} {db:Nat} {bs:List Nat} {h1 h2:SH} (s1:Sel h (pt db (.deferred (some []))) h1) (s2:Sel h1 (Res.star (marks bs)) h2) (hx:Xt c ex Q e (Res.star (marks (db::bs))::h2)):Xt c ex Q e h:=λa w hk hh hw=>by
 have k1:=hh.sel s1
 have k2:Holds w (pt db (.deferred<|some [])::Res.star (marks bs)::h2):=k1.perm<|(s2.perm).cons _
 have k3:bi (hp w) (pt db (.deferred<|some [])::(marks bs++h2)):=by
  refine ⟨k2.1,λb hb hd=>k2.2.1 b hb ?_,dx.1 k2.2.2⟩
  rcases SH.dom_append.1 hd with h | h
  ·exact .inl h
  ·exact .inr h
 exact hx a w hk (dx.2 k3) hw
end
theorem Yc.perm {P:Program} {l:Nat} {args:Array Value} {hf hf':SH} {R:Value->SH->Prop} (h:Yc P l args hf R) (p:hf'.Perm hf):Yc P l args hf' R:=λhr w hh=>h hr w<|hh.perm<|p.append_right hr
section
variable {P:Program} {r:Option Nat} {n:Nat} {w0:World} {hr:SH} {R:Value->SH->Prop} {fn:Func} {e:Env} {h h':SH} {vs:List Value} {bs:List Nat} {ds:List Deferred}
theorem DL (hds:ds=bs.map mk) (hv:e.res? fn.results.toList=some vs) (hR:R (kC vs) h') (hp:Sub (Res.star (marks bs)::(h'++hr)) h):Xt ⟨P,r,n,ds,w0⟩ .ret (bodyPostM (Fw none) 0 P fn (Post w0 hr R)) e h :=
 λa w hk hh hw=>by
  show LeavesInM (Fw none) 0 P fn a.tmps _ a.defers .returning w
  rw [hk.defers,hds]
  exact ze bs w (dx.1<|hh.sub hp) hw λw' h1 h2=>⟨_,mi hk hv w',_,h',rfl,hR,h1,h2⟩
end
theorem Ct.perm {P:Program} {k:FuncId} {args:Array Value} {hf hf':SH} {R:Value->SH->Prop} (h:Ct P k args hf R) (p:hf'.Perm hf):Ct P k args hf' R:=λhr w hh=>h hr w<|hh.perm<|p.append_right hr
theorem dC {rec:Loop} (h1:rec.state = .ready) (h2:rec.pending=none):({ ({ rec with state:=.busy }:Loop) with state:=.ready,pending:=none }:Loop)=rec:=by
 obtain ⟨st,pe,fn,tm,ps,a,b,d⟩:=rec
 simp only at h1 h2
 subst h1 h2
 rfl
theorem iY {P : Program} {n : Nat} {ds : List Deferred} {w0 : World} {Q : Exit -> Act -> World -> Prop} {e : Env} {h : SH} {g : Operand} {k : FuncId} {fi cp : Array Value} {ps : Array Tmp} {assign body : Code}
  (hg:e.ev? g=some (.func (.func k) fi cp)) (hE:Enters P k)
  (hct:∀ (l db:Nat) (rec:Loop),rec.state = .ready->rec.pending=none->rec.params=ps->rec.assign=assign->rec.body=body->Kn n [] { tmps:=rec.tmps,defers:=[] } e ->
   ∃ R',Ct P k (fi ++ #[.func (.yield l) #[] #[]]++cp) (pt l (.loop rec)::pt db (.deferred<|some [])::h) R' /\
    ∀ v h',R' v h'->∃ rec h'',Sel h' (pt l (.loop rec)) h''/\rec.state≠.busy/\(match rec.pending with | none=>Xt ⟨P,none,n,mk db::ds,w0⟩ .normal Q e h'' | some x=>Cd ⟨P,none,n,mk db::ds,w0⟩ x Q e h'')) :
  Cd ⟨P,none,n,ds,w0⟩ (.rangeFunc g ps assign body) Q e h :=
 MZ hg hE λl db fn tm hk=>hct l db (qG fn tm ps assign body db) rfl rfl rfl rfl rfl hk
section
variable {c:Cx} {ops:Array Oper} {K:Act->World->Prop} {rest:List Oper} {e:Env} {h:SH} {Q:Exit->Act->World->Prop}
theorem zY {d : Nat} {T E ty : TypeId} {pos : String} {after : Array Edge} {z : Value} {sz bytes : Nat} (hT : c.P.underlying T = some (.slice E)) (hE : Inf c.P E z sz bytes) (hd : d < c.n)
  (hnx:∀ b,St c ops K rest ((d,.slice (some ⟨b,0,none⟩) 0 0)::e) (vec (.slice (some ⟨b,0,none⟩) 0 0) E sz 0 []::h)) :
  St c ops K (⟨some d,.buildSlice T 0 #[],ty,pos,after,none⟩::rest) e h :=
 ek (by simp) λa w hk hh hs=>by
  obtain ⟨ie,h1,h2,h3,h4⟩:=hE.parts
  have hr:(Instr.buildSlice T 0 (#[].map λ(i,x)=>(i,a.eval x))).run c.P w = .ok (.slice (some ⟨w.heap.size,0,none⟩) 0 0) (w.alloc<|cl [] E):=by
   have h0:Array.range 0 = #[]:=rfl
   simp [Instr.buildSlice,run_underlying hT,sizeOf,typeInfo,h1,Instr.fill,newRow,cl,h0]
  simp only [execOp,Sem.run_bind,hr,Result.andThen_ok,Sem.run_pure]
  have hA:=Holds.alloc hh<|cl [] E
  exact hnx _ _ _ (hk.put _ hd) ⟨⟨by simp,.inr ⟨w.heap.size,0,[],rfl,hA.1,Nat.le_refl _,Nat.zero_le _,by simp⟩⟩,λb ⟨m,cp,hv⟩=>(by cases hv; exact hA.2.1 _ rfl),hA.2.2⟩<|hs.trans (Grew.alloc _ _ rfl).toSame
end
section
variable {c:Cx} {ops:Array Oper} {K:Act->World->Prop} {rest:List Oper} {e:Env} {h h' hr:SH}
end
end Go.Ck
namespace Go.Ck
open Go Go.RowKit
abbrev Bs:=List UInt8
abbrev sv (n:Bs):Value:=.string ⟨⟨n⟩⟩
theorem DN (a b:Bs):((⟨⟨a⟩⟩:ByteArray) == ⟨⟨b⟩⟩)=(a == b):=by
 show ((⟨a⟩:Array UInt8) == ⟨b⟩)=_
 rw [Bool.eq_iff_iff]; simp
/-! ## Maps from names -/
def kM (m:List (Bs×Value)):List (Value×Value):=m.map λp=>(sv p.1,p.2)
def bK (m:List (Bs×Value)) (k:Bs):Option Value:=(m.find? (·.1 == k)).map (·.2)
def eu:List (Bs×Value)->Bs->Value->List (Bs×Value)
 | [],k,v=>[(k,v)]
 | p::t,k,v=>if p.1=k then (k,v)::t else p::eu t k v
def SBrn (es:Array MapEntry) (ck:Nat) (m:List (Bs×Value)):Prop:=(∀ x∈es.toList,x.born<ck)/\(es.toList.map (·.born)).Nodup/\(m.map (·.1)).Nodup
def mps (b:Nat) (m:List (Bs×Value)):Res where
 dom:=(· = b)
 ok f:=∃ es ck,f b=some (.map es ck)/\es.toList.map (λx=>(x.key,x.val))=kM m/\SBrn es ck m
 loc f g he:=λ⟨es,ck,h1,h2⟩=>⟨es,ck,by rw [<- he b rfl]; exact h1,h2⟩
 pres f:=λ⟨es,ck,h1,_⟩ b' hb=>by rw [hb,h1]; rfl
def jA (m:List (Bs×Value)) (k:Bs):Option (Nat×Value):=(m.findIdx? (·.1 == k)).bind λj=>(bK m k).map λv=>(j,v)
theorem uY (k : Bs) : ∀ (es : List MapEntry) (m : List (Bs × Value)) (i : Nat), es.map (λx => (x.key, x.val)) = kM m ->
  Instr.findNow .string (sv k) es i=some ((jA m k).map λp=>(i+p.1,p.2))
 | [],m,i,h=>by
  have:m=[]:=by cases m with | nil=>rfl | cons _ _=>simp [kM] at h
  subst this; simp [Instr.findNow,jA]
 | x :: es, m, i, h => by
  cases m with
  | nil=>simp [kM] at h
  | cons p t =>
   simp only [List.map_cons,kM,List.cons.injEq,Prod.mk.injEq] at h
   obtain ⟨⟨h1,h2⟩,h3⟩:=h
   unfold Instr.findNow
   rw [h1]
   by_cases hp:p.1=k
   ·simp [Instr.sameNow,hp,bK,List.findIdx?_cons,h2,jA,DN]
   ·have hpk:(k == p.1)=false:=by simp; exact λe=>hp e.symm
    have hpk':(p.1 == k)=false:=by simp [hp]
    have ih:=uY k es t (i+1) h3
    simp only [Instr.sameNow,DN,hpk]
    rw [ih]
    simp only [jA,List.findIdx?_cons,hpk',Bool.false_eq_true,if_false,bK,List.find?_cons,Option.some.injEq]
    cases t.findIdx? (·.1 == k) with
    | none=>rfl
    | some j=>simp only [Option.map_some,Option.bind_some]; cases h:(List.find? (·.1 == k) t) <;> simp [Nat.add_assoc,Nat.add_comm 1 j]
theorem gB {m:List (Bs×Value)} {k:Bs}:(m.findIdx? (·.1 == k)=none↔bK m k=none):=by
 simp [bK,List.findIdx?_eq_none_iff,List.find?_eq_none]
theorem nJ (m:List (Bs×Value)) (k k':Bs) (v:Value):bK (eu m k v) k'=if k'=k then some v else bK m k':=by
 induction m with
 | nil=>by_cases h:k'=k <;> simp [eu,bK,h]; exact λe=>h e.symm
 | cons p t ih =>
  unfold eu
  by_cases hp:p.1=k
  ·rw [if_pos hp]
   by_cases h:k'=k
   ·simp [bK,h]
   ·have h1:(k == k')=false:=by simp; exact λe=>h e.symm
    have h2:(p.1 == k')=false:=by rw [hp]; exact h1
    simp [bK,h,List.find?_cons,h1,h2]
  ·rw [if_neg hp]
   by_cases h:p.1=k'
   ·have:¬ k'=k:=λe=>hp<|h.trans e
    simp [bK,h,this]
   ·have h2:(p.1 == k')=false:=by simp [h]
    simp only [bK,List.find?_cons,h2] at ih ⊢
    exact ih
theorem zZ {m:List (Bs×Value)} {k:Bs}:bK m k=none↔k ∉ m.map (·.1):=by
 simp only [bK,Option.map_eq_none_iff,List.find?_eq_none,List.mem_map,beq_iff_eq,not_exists,not_and]
theorem Ch : ∀ (m : List (Bs × Value)) (k : Bs) (v : Value) (x : Bs), x ∈ (eu m k v).map (·.1) -> x = k ∨ x ∈ m.map (·.1)
 | [],k,v,x,h=>by simp [eu] at h; exact .inl h
 | p::t,k,v,x,h=>by
  unfold eu at h
  split at h
  ·simp only [List.map_cons,List.mem_cons] at h ⊢
   exact h.imp id .inr
  ·simp only [List.map_cons,List.mem_cons] at h ⊢
   rcases h with h | h
   ·exact .inr<|.inl h
   ·exact (Ch t k v x h).imp id .inr
theorem tq : ∀ (m : List (Bs × Value)) (k : Bs) (v : Value), (m.map (·.1)).Nodup -> ((eu m k v).map (·.1)).Nodup
 | [],k,v,_=>by simp [eu]
 | p::t,k,v,h=>by
  rw [List.map_cons,List.nodup_cons] at h
  unfold eu
  split
  ·rename_i hp
   rw [List.map_cons,List.nodup_cons]
   exact ⟨by rw [<- hp]; exact h.1,h.2⟩
  ·rename_i hp
   rw [List.map_cons,List.nodup_cons]
   exact ⟨λhm=>(Ch t k v _ hm).elim hp h.1,tq t k v h.2⟩
theorem qI (k : Bs) (v : Value) : ∀ (es : List MapEntry) (m : List (Bs × Value)) (i : Nat), es.map (λx => (x.key, x.val)) = kM m -> m.findIdx? (·.1 == k) = some i ->
  (es.modify i<|λx=>{ x with key:=sv k,val:=v }).map (λx=>(x.key,x.val))=kM (eu m k v)
 | [],m,i,h,hi=>by
  have:m=[]:=by cases m with | nil=>rfl | cons _ _=>simp [kM] at h
  subst this; simp at hi
 | x :: es, m, i, h, hi => by
  cases m with
  | nil=>simp at hi
  | cons p t =>
   simp only [List.map_cons,kM,List.cons.injEq,Prod.mk.injEq] at h
   obtain ⟨⟨h1,h2⟩,h3⟩:=h
   by_cases hp:p.1=k
   ·simp [List.findIdx?_cons,hp] at hi
    subst hi
    simp [eu,hp,kM,h3,List.modify]
   ·have hpk':(p.1 == k)=false:=by simp [hp]
    simp only [List.findIdx?_cons,hpk',Bool.false_eq_true,if_false,Option.map_eq_some_iff] at hi
    obtain ⟨j,hj,rfl⟩:=hi
    have ih:=qI k v es t j h3 hj
    simp only [List.modify_succ_cons,List.map_cons,ih,eu,hp,if_false,kM,h1,h2]
def MpS (P:Program) (T K E:TypeId):Prop:=P.underlying T=some (.map K E)/\P.underlying K=some .string

section
variable {P:Program} {e:Env} {h h':SH} {ty:TypeId}
theorem oK {K:TypeId} (hK:P.underlying K=some .string) {es:Array MapEntry} {m:List (Bs×Value)} (hm:es.toList.map (λx=>(x.key,x.val))=kM m) (k:Bs) (w:World) :
  (Instr.findKey K (sv k) es.toList).run P w = .ok (jA m k) w:=by
 unfold Instr.findKey
 simp only [Sem.run_bind,run_underlying hK,Result.andThen_ok,uY k es.toList m 0 hm,Sem.run_pure,Nat.zero_add]
 congr 1
 cases jA m k <;> rfl
theorem mV {K:TypeId} (hK:P.underlying K=some .string) (b:Bool) (n:Nat) (k:Bs) (w:World):(Instr.checkKey b (n+1) K (sv k)).run P w = .ok () w:=by
 unfold Instr.checkKey
 simp only [Sem.run_bind,run_underlying hK,Result.andThen_ok,Sem.run_pure]
theorem yA {T K E : TypeId} (hT : MpS P T K E) {z : Value} {sz bytes : Nat} (hE : Inf P E z sz bytes) {w : World} {b : Nat} {m : List (Bs × Value)} (hb : (mps b m).ok (hp w)) (k : Bs) (ok : Bool) :
  (Instr.lookup T (.map<|some b) (sv k) ok).run P w = .ok (if ok then .tuple #[(bK m k).getD z,.bool (bK m k).isSome] else (bK m k).getD z) w:=by
 obtain ⟨es,ck,h1,h2,_⟩:=hb
 obtain ⟨ie,g1,g2,_,_⟩:=hE.parts
 have hzero:(zeroValue E).run P w = .ok z w:=by simp [zeroValue,typeInfo,g1,g2]
 have hg:(getObj b).run P w = .ok (.map es ck) w:=run_getObj_map h1
 unfold Instr.lookup
 simp only [Sem.run_bind,run_underlying hT.1,Result.andThen_ok,hg,Sem.run_pure,mV hT.2,oK hT.2 h2]
 cases hi:m.findIdx? (·.1 == k) with
 | none =>
  have:=gB.1 hi
  have hf:jA m k=none:=by simp [jA,hi]
  rw [hf]
  cases ok <;> simp [this,hzero]
 | some j =>
  cases hl:bK m k with
  | none=>rw [gB.2 hl] at hi; cases hi
  | some v =>
   have hf:jA m k=some (j,v):=by simp [jA,hi,hl]
   rw [hf]
   cases ok <;> simp
theorem dR {T K E:TypeId} {x y:Operand} {b:Nat} {m:List (Bs×Value)} {k:Bs} {z:Value} {sz bytes:Nat} (hx:e.ev? x=some (.map (some b))) (hy:e.ev? y=some (sv k)) (hT:MpS P T K E) (hE:Inf P E z sz bytes) (hs:Sel h (mps b m) h') :
  Vop P e h (.lookup T x y true) ty (.tuple #[(bK m k).getD z,.bool (bK m k).isSome]):=
 ⟨by simp,by simp,λρ w d pos after g hρ hh=>by
  simp [execOp,hρ x _ hx,hρ y _ hy,yA hT hE (hh.sel hs).1 k true]⟩
theorem bI {T K E:TypeId} {x y:Operand} {b:Nat} {m:List (Bs×Value)} {k:Bs} {z:Value} {sz bytes:Nat} (hx:e.ev? x=some (.map (some b))) (hy:e.ev? y=some (sv k)) (hT:MpS P T K E) (hE:Inf P E z sz bytes) (hs:Sel h (mps b m) h') :
  Vop P e h (.lookup T x y false) ty ((bK m k).getD z):=
 ⟨by simp,by simp,λρ w d pos after g hρ hh=>by
  simp [execOp,hρ x _ hx,hρ y _ hy,yA hT hE (hh.sel hs).1 k false]⟩
end
section
variable {c:Cx} {ops:Array Oper} {K:Act->World->Prop} {rest:List Oper} {e:Env} {h h' hr:SH}
theorem cz {T K' E ty : TypeId} {x y v : Operand} {pos : String} {after : Array Edge} {b : Nat} {m : List (Bs × Value)} {k : Bs} {u : Value} (hx : e.ev? x = some (.map (some b))) (hy : e.ev? y = some (sv k)) (hv : e.ev? v = some u)
  (hT:MpS c.P T K' E) (hs:Sel h (mps b m) h') (hnx:St c ops K rest e (mps b (eu m k u)::h')) :
  St c ops K (⟨none,.mapUpdate T x y v,ty,pos,after,none⟩::rest) e h :=
 ek (by simp) λa w hk hh hw => by
  have hh':=hh.sel hs
  obtain ⟨es,ck,h1,h2,b1,b2,b3⟩:=hh'.1
  have hnd:=tq m k u b3
  have h1':w.heap[b]? = some (.map es ck):=h1
  have hlt:b<w.heap.size:=(Array.getElem?_eq_some_iff.1 h1').1
  have hg:(getObj b).run c.P w = .ok (.map es ck) w:=run_getObj_map h1
  have hset:∀ o,(setObj b o).run c.P w = .ok () { w with heap:=w.heap.setIfInBounds b o }:=λo=>by simp [setObj,Sem.run,h1']
  have hnew:∀ es' ck',es'.toList.map (λx=>(x.key,x.val))=kM (eu m k u)->(∀ x∈es'.toList,x.born<ck')->(es'.toList.map (·.born)).Nodup->Holds { w with heap:=w.heap.setIfInBounds b (.map es' ck') } (mps b (eu m k u)::h'):=λes' ck' he hb1 hb2=>by
   refine ⟨⟨es',ck',?_,he,hb1,hb2,hnd⟩,hh'.2.1,bi.loc hh'.2.2 λc hc=>?_⟩
   ·show (w.heap.setIfInBounds b _)[b]? = _
    simp [hlt]
   ·exact (dQ w b c _<|λe=>hh'.2.1 b rfl (e ▸ hc)).symm
  have hsame:∀ es' ck',Same w { w with heap:=w.heap.setIfInBounds b (.map es' ck') }:=λes' ck'=>⟨rfl,rfl,rfl,Nat.le_refl _,by simp,oG (b:=b) (λo ho=>by rw [h1'] at ho; cases ho; rfl) (λo ho=>by
   have:(w.heap.setIfInBounds b<|.map es' ck')[b]? = some o:=ho
   simp [hlt] at this; rw [<- this]; rfl) λc hc=>dQ w b c _ hc⟩
  have hrun : ∃ w', (Instr.mapUpdate T (.map<|some b) (sv k) u).run c.P w = .ok () w' /\ Holds w' (mps b (eu m k u) :: h') /\ Same w w' := by
   unfold Instr.mapUpdate
   simp only [Sem.run_bind,run_underlying hT.1,Result.andThen_ok,hg,mV hT.2,oK hT.2 h2]
   cases hi:m.findIdx? (·.1 == k) with
   | none =>
    have hl:=gB.1 hi
    have hf:jA m k=none:=by simp [jA,hi]
    simp only [hf,hset]
    refine ⟨_,rfl,hnew _ _ ?_ ?_ ?_,hsame _ _⟩
    rotate_left
    ·intro x hx
     simp only [Array.toList_push,List.mem_append,List.mem_singleton] at hx
     rcases hx with hx | rfl
     ·have:=b1 x hx; omega
     ·exact Nat.lt_succ_self _
    ·simp only [Array.toList_push,List.map_append,List.map_cons,List.map_nil]
     refine List.nodup_append.2 ⟨b2,by simp,λx hx y hy e=>?_⟩
     obtain ⟨z,hz,rfl⟩:=List.mem_map.1 hx
     have:=b1 z hz
     simp at hy
     omega
    have hup : eu m k u = m ++ [(k, u)] := by
     have:∀ (m:List (Bs×Value)),bK m k=none->eu m k u=m++[(k,u)]:=by
      intro m
      induction m with
      | nil=>intro _; rfl
      | cons p t ih =>
       intro hm
       have hp:¬ p.1=k:=λe=>by simp [bK,e] at hm
       have hpk:(p.1 == k)=false:=by simp [hp]
       have ht:bK t k=none:=by simpa [bK,List.find?_cons,hpk] using hm
       simp [eu,hp,ih ht]
     exact this m hl
    rw [hup]
    simp only [Array.toList_push,List.map_append,List.map_cons,List.map_nil,h2,kM]
   | some j =>
    cases hl:bK m k with
    | none=>rw [gB.2 hl] at hi; cases hi
    | some v0 =>
     have hkey:((es[j]?).map (·.key)).getD (sv k)=sv k:=by
      cases hej:es[j]? with
      | none=>rfl
      | some x =>
       have h3:(es.toList.map<|λx=>(x.key,x.val))[j]? = some (x.key,x.val):=by simp [hej]
       rw [h2] at h3
       simp only [kM,List.getElem?_map,Option.map_eq_some_iff] at h3
       obtain ⟨p,hp,hpe⟩:=h3
       simp only [Prod.mk.injEq] at hpe
       have h4:=List.findIdx?_eq_some_iff_getElem.1 hi
       obtain ⟨hjl,h5,_⟩:=h4
       have:m[j]=p:=by rw [Zy hjl] at hp; exact Option.some.inj hp
       rw [this] at h5
       simp only [beq_iff_eq] at h5
       simp [<- hpe.1,h5]
     have hf:jA m k=some (j,v0):=by simp [jA,hi,hl]
     simp only [hf,hkey]
     have hstay:(Instr.keyThatStays (sv k)<|sv k).run c.P w = .ok (sv k) w:=by
      unfold Instr.keyThatStays
      rw [if_pos (by unfold Instr.sameBits; rw [DN]; simp)]
      rfl
     simp only [Sem.run_bind,hstay,Result.andThen_ok,hset]
     have hmb:(es.toList.modify j<|λx=>{ x with key:=sv k,val:=u }).map (·.born)=es.toList.map (·.born):=mq _ _ _<|λ_=>rfl
     refine ⟨_,rfl,hnew _ _ ?_ ?_ ?_,hsame _ _⟩
     rotate_left
     ·intro x hx
      rw [Array.toList_modify] at hx
      have hx':x.born∈(es.toList.modify j<|λx=>{ x with key:=sv k,val:=u }).map (·.born):=List.mem_map.2 ⟨x,hx,rfl⟩
      rw [hmb] at hx'
      obtain ⟨z,hz,he⟩:=List.mem_map.1 hx'
      have:=b1 z hz
      omega
     ·rw [Array.toList_modify,hmb]; exact b2
     have:=qI k u es.toList m j h2 hi
     simpa using this
  obtain ⟨w',hr,hH,hS⟩:=hrun
  simp only [execOp,hk.ev hx,hk.ev hy,hk.ev hv,Sem.run_bind,hr,Result.andThen_ok,Sem.run_pure]
  exact hnx _ _ hk hH<|hw.trans hS
theorem Ic {T K' E ty : TypeId} {x y v : Operand} {pos : String} {after : Array Edge} {b : Nat} {m : List (Bs × Value)} {k : Bs} {u : Value} (hx : e.ev? x = some (.map (some b))) (hy : e.ev? y = some (sv k)) (hv : e.ev? v = some u)
  (hT:MpS c.P T K' E) (hs:Sel h (mps b m) h') (hnx:St c ops K rest e (mps b (eu m k u)::h')) :
  St c ops K (⟨none,.insert T x y v,ty,pos,after,none⟩::rest) e h :=
 ek (by simp) λa w hk hh hw => by
  have hh':=hh.sel hs
  obtain ⟨es,ck,h1,h2,b1,b2,b3⟩:=hh'.1
  have hnd:=tq m k u b3
  have h1':w.heap[b]? = some (.map es ck):=h1
  have hlt:b<w.heap.size:=(Array.getElem?_eq_some_iff.1 h1').1
  have hg:(getObj b).run c.P w = .ok (.map es ck) w:=run_getObj_map h1
  have hset:∀ o,(setObj b o).run c.P w = .ok () { w with heap:=w.heap.setIfInBounds b o }:=λo=>by simp [setObj,Sem.run,h1']
  have hnew:∀ es' ck',es'.toList.map (λx=>(x.key,x.val))=kM (eu m k u)->(∀ x∈es'.toList,x.born<ck')->(es'.toList.map (·.born)).Nodup->Holds { w with heap:=w.heap.setIfInBounds b (.map es' ck') } (mps b (eu m k u)::h'):=λes' ck' he hb1 hb2=>by
   refine ⟨⟨es',ck',?_,he,hb1,hb2,hnd⟩,hh'.2.1,bi.loc hh'.2.2 λc hc=>?_⟩
   ·show (w.heap.setIfInBounds b _)[b]? = _
    simp [hlt]
   ·exact (dQ w b c _<|λe=>hh'.2.1 b rfl (e ▸ hc)).symm
  have hsame:∀ es' ck',Same w { w with heap:=w.heap.setIfInBounds b (.map es' ck') }:=λes' ck'=>⟨rfl,rfl,rfl,Nat.le_refl _,by simp,oG (b:=b) (λo ho=>by rw [h1'] at ho; cases ho; rfl) (λo ho=>by
   have:(w.heap.setIfInBounds b<|.map es' ck')[b]? = some o:=ho
   simp [hlt] at this; rw [<- this]; rfl) λc hc=>dQ w b c _ hc⟩
  have hrun : ∃ w', (Instr.mapUpdate T (.map<|some b) (sv k) u).run c.P w = .ok () w' /\ Holds w' (mps b (eu m k u) :: h') /\ Same w w' := by
   unfold Instr.mapUpdate
   simp only [Sem.run_bind,run_underlying hT.1,Result.andThen_ok,hg,mV hT.2,oK hT.2 h2]
   cases hi:m.findIdx? (·.1 == k) with
   | none =>
    have hl:=gB.1 hi
    have hf:jA m k=none:=by simp [jA,hi]
    simp only [hf,hset]
    refine ⟨_,rfl,hnew _ _ ?_ ?_ ?_,hsame _ _⟩
    rotate_left
    ·intro x hx
     simp only [Array.toList_push,List.mem_append,List.mem_singleton] at hx
     rcases hx with hx | rfl
     ·have:=b1 x hx; omega
     ·exact Nat.lt_succ_self _
    ·simp only [Array.toList_push,List.map_append,List.map_cons,List.map_nil]
     refine List.nodup_append.2 ⟨b2,by simp,λx hx y hy e=>?_⟩
     obtain ⟨z,hz,rfl⟩:=List.mem_map.1 hx
     have:=b1 z hz
     simp at hy
     omega
    have hup : eu m k u = m ++ [(k, u)] := by
     have:∀ (m:List (Bs×Value)),bK m k=none->eu m k u=m++[(k,u)]:=by
      intro m
      induction m with
      | nil=>intro _; rfl
      | cons p t ih =>
       intro hm
       have hp:¬ p.1=k:=λe=>by simp [bK,e] at hm
       have hpk:(p.1 == k)=false:=by simp [hp]
       have ht:bK t k=none:=by simpa [bK,List.find?_cons,hpk] using hm
       simp [eu,hp,ih ht]
     exact this m hl
    rw [hup]
    simp only [Array.toList_push,List.map_append,List.map_cons,List.map_nil,h2,kM]
   | some j =>
    cases hl:bK m k with
    | none=>rw [gB.2 hl] at hi; cases hi
    | some v0 =>
     have hkey:((es[j]?).map (·.key)).getD (sv k)=sv k:=by
      cases hej:es[j]? with
      | none=>rfl
      | some x =>
       have h3:(es.toList.map<|λx=>(x.key,x.val))[j]? = some (x.key,x.val):=by simp [hej]
       rw [h2] at h3
       simp only [kM,List.getElem?_map,Option.map_eq_some_iff] at h3
       obtain ⟨p,hp,hpe⟩:=h3
       simp only [Prod.mk.injEq] at hpe
       have h4:=List.findIdx?_eq_some_iff_getElem.1 hi
       obtain ⟨hjl,h5,_⟩:=h4
       have:m[j]=p:=by rw [Zy hjl] at hp; exact Option.some.inj hp
       rw [this] at h5
       simp only [beq_iff_eq] at h5
       simp [<- hpe.1,h5]
     have hf:jA m k=some (j,v0):=by simp [jA,hi,hl]
     simp only [hf,hkey]
     have hstay:(Instr.keyThatStays (sv k)<|sv k).run c.P w = .ok (sv k) w:=by
      unfold Instr.keyThatStays
      rw [if_pos (by unfold Instr.sameBits; rw [DN]; simp)]
      rfl
     simp only [Sem.run_bind,hstay,Result.andThen_ok,hset]
     have hmb:(es.toList.modify j<|λx=>{ x with key:=sv k,val:=u }).map (·.born)=es.toList.map (·.born):=mq _ _ _<|λ_=>rfl
     refine ⟨_,rfl,hnew _ _ ?_ ?_ ?_,hsame _ _⟩
     rotate_left
     ·intro x hx
      rw [Array.toList_modify] at hx
      have hx':x.born∈(es.toList.modify j<|λx=>{ x with key:=sv k,val:=u }).map (·.born):=List.mem_map.2 ⟨x,hx,rfl⟩
      rw [hmb] at hx'
      obtain ⟨z,hz,he⟩:=List.mem_map.1 hx'
      have:=b1 z hz
      omega
     ·rw [Array.toList_modify,hmb]; exact b2
     have:=qI k u es.toList m j h2 hi
     simpa using this
  obtain ⟨w',hr,hH,hS⟩:=hrun
  simp only [execOp,hk.ev hx,hk.ev hy,hk.ev hv,Sem.run_bind,hr,Result.andThen_ok,Sem.run_pure]
  exact hnx _ _ hk hH<|hw.trans hS
theorem eH {d:Nat} {T ty:TypeId} {pos:String} {after:Array Edge} (hd:d<c.n) (hnx:∀ b,St c ops K rest ((d,.map (some b))::e) (mps b []::h)) :
  St c ops K (⟨some d,.makeMap T none,ty,pos,after,none⟩::rest) e h :=
 ek (by simp) λa w hk hh hw=>by
  simp only [execOp,Instr.makeMap,Option.map_none,Sem.run_bind,run_newObj_alloc,Result.andThen_ok,Sem.run_pure]
  have hA:=Holds.alloc hh (.map #[] 0)
  exact hnx _ _ _ (hk.put _ hd) ⟨⟨#[],0,hA.1,rfl,λx hx=>by simp at hx,List.nodup_nil,List.nodup_nil⟩,hA.2.1,hA.2.2⟩<|hw.trans (Grew.alloc _ _ rfl).toSame
end
theorem DR (a:Bs):(⟨⟨a⟩⟩:ByteArray).size=a.length:=rfl
theorem iZ (a:Bs):(⟨⟨a⟩⟩:ByteArray).toList=a:=ByteArray.toList_eq _
section
variable {P:Program} {e:Env} {h h':SH} {ty:TypeId}
theorem iE {t t':TypeId} {x y:Operand} {a b:Bs} (hx:e.ev? x=some (sv a)) (hy:e.ev? y=some (sv b)):Vop P e h (.binOp .eql t x y t') ty (.bool (a == b)):=
 ⟨by simp,by simp,λρ w d pos after g hρ _=>by simp [execOp,hρ x _ hx,hρ y _ hy,eqGuard,binOp,Op.stringOp,iZ]⟩
theorem wV {t t':TypeId} {x y:Operand} {a b:Bs} (hx:e.ev? x=some (sv a)) (hy:e.ev? y=some (sv b)):Vop P e h (.binOp .neq t x y t') ty (.bool (!(a == b))):=
 ⟨by simp,by simp,λρ w d pos after g hρ _=>by simp [execOp,hρ x _ hx,hρ y _ hy,eqGuard,binOp,Op.stringOp,iZ]⟩
theorem v_slss {t t':TypeId} {x y:Operand} {a b:Bs} (hx:e.ev? x=some (sv a)) (hy:e.ev? y=some (sv b)):Vop P e h (.binOp .lss t x y t') ty (.bool (Op.bytesLess a b)):=
 ⟨by simp,by simp,λρ w d pos after g hρ _=>by simp [execOp,hρ x _ hx,hρ y _ hy,eqGuard,binOp,Op.stringOp,iZ]⟩
theorem v_sgtr {t t':TypeId} {x y:Operand} {a b:Bs} (hx:e.ev? x=some (sv a)) (hy:e.ev? y=some (sv b)):Vop P e h (.binOp .gtr t x y t') ty (.bool (!(Op.bytesLess a b || a == b))):=
 ⟨by simp,by simp,λρ w d pos after g hρ _=>by simp [execOp,hρ x _ hx,hρ y _ hy,eqGuard,binOp,Op.stringOp,iZ]⟩
theorem DT {t ty':TypeId} {x:Operand} {a:Bs} (hx:e.ev? x=some (sv a)) (ht:P.underlying t=some .string):Vop P e h (.call { callee:=.builtin .len,args := #[x],argTypes := #[t] }) ty' (.int .i64 a.length):=
 ⟨by simp,by simp,λρ w d pos after g hρ _=>by simp [execOp,resolve,invoke,builtin,hρ x _ hx,Builtin.len_,run_underlying ht,goInt,DR,-ByteArray.size_data]⟩
theorem uZ {T : TypeId} {x y : Operand} {a : Bs} {k : Nat} {kd : IntKind} {i : Int} {u : UInt8} (hx : e.ev? x = some (sv a)) (hy : e.ev? y = some (.int kd i)) (hT : P.underlying T = some .string) (hi : i = (k : Int)) (hu : a[k]? = some u) :
  Vop P e h (.index T x y) ty (.int .u8 u.toNat):=
 ⟨by simp,by simp,λρ w d pos after g hρ _=>by
  subst hi
  have h1:(⟨⟨a⟩⟩:ByteArray)[k]? = some u:=by
   have hlt:=(List.getElem?_eq_some_iff.1 hu).1
   have h2:k<(⟨⟨a⟩⟩:ByteArray).size:=hlt
   obtain ⟨_,h3⟩:=List.getElem?_eq_some_iff.1 hu
   rw [getElem?_pos (⟨⟨a⟩⟩:ByteArray) k h2,<- h3]; rfl
  have h0:(0:Int)≤k:=by omega
  simp [execOp,hρ x _ hx,hρ y _ hy,Instr.index,asIntOf,run_underlying hT,h1]⟩
theorem v_smin {ty':TypeId} {x y:Operand} {ts:Array TypeId} {a b:Bs} (hx:e.ev? x=some (sv a)) (hy:e.ev? y=some (sv b)):Vop P e h (.call { callee:=.builtin .min,args := #[x,y],argTypes:=ts }) ty' (sv (if Op.bytesLess a b || a == b then a else b)):=
 ⟨by simp,by simp,λρ w d pos after g hρ _=>by
  simp [execOp,resolve,invoke,builtin,hρ x _ hx,hρ y _ hy,Builtin.min_,Builtin.min2,Op.stringOp,iZ,asBool]
  split <;> simp⟩
theorem v_mlen {t ty' K E : TypeId} {x : Operand} {b : Nat} {m : List (Bs × Value)} (hx : e.ev? x = some (.map (some b))) (ht : P.underlying t = some (.map K E)) (hs : Sel h (mps b m) h') :
  Vop P e h (.call { callee:=.builtin .len,args := #[x],argTypes := #[t] }) ty' (.int .i64 m.length):=
 ⟨by simp,by simp,λρ w d pos after g hρ hh=>by
  obtain ⟨es,ck,h1,h2,_⟩:=(hh.sel hs).1
  have hg:(getObj b).run P w = .ok (.map es ck) w:=run_getObj_map h1
  have hl:es.size=m.length:=by
   have:=congrArg List.length h2
   simpa [kM] using this
  simp [execOp,resolve,invoke,builtin,hρ x _ hx,Builtin.len_,run_underlying ht,goInt,hg,hl]⟩
end
section
variable {c:Cx} {ops:Array Oper} {K:Act->World->Prop} {rest:List Oper} {e:Env} {h h' hr:SH}
theorem KO {d:Nat} {T ty:TypeId} {x:Operand} {pos:String} {after:Array Edge} {a:Bs} (hx:e.ev? x=some (sv a)) (hT:c.P.underlying T=some .string) (hd:d<c.n)
  (hnx:∀ b,St c ops K rest ((d,.pointer (some ⟨b,0,none⟩))::e) (pt b (.stringIter ⟨⟨a⟩⟩ 0)::h)) :
  St c ops K (⟨some d,.range T x,ty,pos,after,none⟩::rest) e h :=
 ek (by simp) λact w hk hh hw=>by
  simp only [execOp,Instr.range,hk.ev hx,Sem.run_bind,run_underlying hT,Result.andThen_ok,Sem.run_pure,run_newObj_alloc]
  exact hnx _ _ _ (hk.put _ hd) (Holds.alloc hh _)<|hw.trans (Grew.alloc _ _ rfl).toSame
theorem KP {d:Nat} {ty:TypeId} {x:Operand} {pos:String} {after:Array Edge} {a:Bs} {b p:Nat} (hx:e.ev? x=some (.pointer (some ⟨b,0,none⟩))) (hs:Sel h (pt b (.stringIter ⟨⟨a⟩⟩ p)) h') (hp:a.length≤p) (hd:d<c.n)
  (hnx:St c ops K rest ((d,.tuple #[.bool false])::e) h) :
  St c ops K (⟨some d,.next x true,ty,pos,after,none⟩::rest) e h :=
 ek (by simp) λact w hk hh hw=>by
  have hg:w.heap[b]? = some (.stringIter ⟨⟨a⟩⟩ p):=(hh.sel hs).1
  have hgo:(getObj b).run c.P w = .ok (.stringIter ⟨⟨a⟩⟩ p) w:=by simp [getObj,Sem.run,hg]
  have hlt:¬ p<(⟨⟨a⟩⟩:ByteArray).size:=by rw [DR]; omega
  simp only [execOp,Instr.next,hk.ev hx,Sem.run_bind,hgo,Result.andThen_ok,if_neg hlt,Sem.run_pure]
  exact hnx _ _ (hk.put _ hd) hh hw
theorem M3 {d:Nat} {ty:TypeId} {x:Operand} {pos:String} {after:Array Edge} {a:Bs} {b p:Nat} (hx:e.ev? x=some (.pointer (some ⟨b,0,none⟩))) (hs:Sel h (pt b (.stringIter ⟨⟨a⟩⟩ p)) h') (hp:p<a.length) (hd:d<c.n)
  (hnx:St c ops K rest ((d,.tuple #[.bool true,.int .i64 p,.int .i32 (Utf8.decode ⟨⟨a⟩⟩ p).1])::e) (pt b (.stringIter ⟨⟨a⟩⟩ (p+(Utf8.decode ⟨⟨a⟩⟩ p).2))::h')) :
  St c ops K (⟨some d,.next x true,ty,pos,after,none⟩::rest) e h :=
 ek (by simp) λact w hk hh hw=>by
  have hh':=hh.sel hs
  have hg:w.heap[b]? = some (.stringIter ⟨⟨a⟩⟩ p):=hh'.1
  have hgo:(getObj b).run c.P w = .ok (.stringIter ⟨⟨a⟩⟩ p) w:=by simp [getObj,Sem.run,hg]
  have hlt:p<(⟨⟨a⟩⟩:ByteArray).size:=by rw [DR]; omega
  have hset:∀ o,(setObj b o).run c.P w = .ok () (w.putObj b o):=λo=>by simp [setObj,Sem.run,hg,World.putObj]
  simp only [execOp,Instr.next,hk.ev hx,Sem.run_bind,hgo,Result.andThen_ok,if_pos hlt,Sem.run_pure,hset]
  refine hnx _ _ (hk.put _ hd) (Holds.putObj hh' _)<|hw.trans<|Same.putObj w b _ hg rfl rfl
end
theorem Ci {a:Bs} {p:Nat} {u:UInt8} (hu:a[p]? = some u) (h:u.toNat<128):Utf8.decode ⟨⟨a⟩⟩ p=(u.toNat,1):=by
 have hg:(⟨⟨a⟩⟩:ByteArray).get! p=u:=by
  obtain ⟨hl,he⟩:=List.getElem?_eq_some_iff.1 hu
  show (⟨a⟩:Array UInt8)[p]! = u
  rw [getElem!_pos (⟨a⟩:Array UInt8) p hl]; exact he
 unfold Utf8.decode
 simp only [Nat.add_zero,hg,h,if_true]
theorem KQ {a:Bs} {p:Nat} {u:UInt8} (hu:a[p]? = some u) (h:128≤u.toNat):128≤(Utf8.decode ⟨⟨a⟩⟩ p).1:=by
 have hg:(⟨⟨a⟩⟩:ByteArray).get! p=u:=by
  obtain ⟨hl,he⟩:=List.getElem?_eq_some_iff.1 hu
  show (⟨a⟩:Array UInt8)[p]! = u
  rw [getElem!_pos (⟨a⟩:Array UInt8) p hl]; exact he
 unfold Utf8.decode
 simp only [Nat.add_zero,hg,show ¬ u.toNat<128 by omega,if_false,Utf8.runeError]
 split
 ·split
  ·show 128≤_; assumption
  ·show 128≤0xFFFD; omega
 ·split
  ·split
   ·rename_i _ _ hc
    have:=(Bool.and_eq_true _ _ ▸ hc:_/\_).1
    simp at this
    show 128≤_; omega
   ·show 128≤0xFFFD; omega
  ·split
   ·split
    ·rename_i _ _ _ hc
     have:=(Bool.and_eq_true _ _ ▸ hc:_/\_).1
     simp at this
     show 128≤_; omega
    ·show 128≤0xFFFD; omega
   ·show 128≤0xFFFD; omega
section
variable {c:Cx} {ops:Array Oper} {K:Act->World->Prop} {rest:List Oper} {e:Env} {h:SH}
theorem ku {d:Option Nat} {op:Op} {ty:TypeId} {pos:String} {after:Array Edge} {g gd:Nat} {want:Bool} (hg:((ops[g]?).bind (·.dst))=some gd) (hgv:e.get? gd=some (.bool want)) (hn:St c ops K (⟨d,op,ty,pos,after,none⟩::rest) e h) :
  St c ops K (⟨d,op,ty,pos,after,some (g,want)⟩::rest) e h:=λa w hk hh hw=>by
 have h1:=hn a w hk hh hw
 unfold LsW at h1 ⊢
 have e1:Region.wanted (⟨d,op,ty,pos,after,none⟩:Oper) (yielded ops a.tmps)=true:=by simp [Region.wanted]
 have e2:Region.wanted (⟨d,op,ty,pos,after,some (g,want)⟩:Oper) (yielded ops a.tmps)=true:=by simp [Region.wanted,eZ hg hgv hk]
 rw [if_pos e1] at h1
 rw [if_pos e2]
 exact h1
end
end Go.Ck
