/-
  The form of a system; what the calls return,as plain functions: the first conflict,the flat forms,whether a conflict is one; the law of conflicts. No program in sight.
-/
import Derived.Test.YtknmacdbffgjgaaGreatDoorM8
import Derived.RangeFuncNested
import Derived.Test.YtknmacdbffgjgaaGreatDoorM6
import Derived.Test.YtknmacdbffgjgaaGreatDoorM5
import Derived.JoinedCond
import Derived.SizedLaws
import Derived.Test.YtknmacdbffgjgaaGreatDoorM1
set_option linter.unusedVariables false
set_option linter.unusedSimpArgs false
set_option maxRecDepth 100000
set_option maxHeartbeats 16000000
namespace Go.Ck
open Go Go.RowKit
/-! ## Structs of texts -/
def isStr:Option TypeDesc->Bool
 | some .string=>true
 | _=>false
def Eh (P:Program):List Field->Nat->Bool
 | [],_=>true
 | f :: t, i => (f.name != "_") && isStr (P.underlying f.type) && Nat.beq f.offset i && Eh P t (i + 1)
def EqS (P:Program) (T:TypeId) (n:Nat):Prop:=P.eqGuardType P.depth T=false/\∀ (xs ys:List Bs) (w:World),xs.length=n->ys.length=n ->
 (Op.equalIn 10000 T (.agg (xs.map sv).toArray)<|.agg (ys.map sv).toArray).run P w = .ok (xs == ys) w
theorem NJ {o:Option TypeDesc} (h:isStr o=true):o=some .string:=by
 unfold isStr at h; split at h
 ·rfl
 ·cases h
theorem vH {P:Program} {T:TypeId} (hu:P.underlying T=some .string) {xs:List Bs} {i:Nat} {x:Bs} (hx:xs[i]? = some x) (w:World):(part T (xs.map sv).toArray i).run P w = .ok (sv x) w:=by
 have hi:(isAgg T).run P w = .ok false w:=by
  unfold isAgg
  simp only [Sem.run_bind,run_underlying hu,Result.andThen_ok]
  rfl
 unfold part
 have:(xs.map sv).toArray[i]? = some (sv x):=by simp [hx]
 simp only [Sem.run_bind,hi,Result.andThen_ok,Bool.false_eq_true,if_false,this,Sem.run_pure]
theorem ug {P : Program} {d : Nat} {xs ys : List Bs} {w : World} : ∀ (fs : List Field) (i : Nat), Eh P fs i = true -> xs.length = i + fs.length -> ys.length = i + fs.length ->
  (Op.eqFields (d+1) (xs.map sv).toArray (ys.map sv).toArray fs).run P w = .ok (xs.drop i == ys.drop i) w
 | [],i,_,hx,hy=>by
  have h1:xs.drop i=[]:=List.drop_of_length_le (by simp at hx; omega)
  have h2:ys.drop i=[]:=List.drop_of_length_le (by simp at hy; omega)
  rw [h1,h2]
  simp [Op.eqFields]
 | f::t,i,h,hx,hy=>by
  simp only [Eh,Bool.and_eq_true,bne_iff_ne] at h
  obtain ⟨⟨⟨h1,h2⟩,h3⟩,h4⟩:=h
  have h3':=Nat.eq_of_beq_eq_true h3
  simp only [List.length_cons] at hx hy
  have hxi:i<xs.length:=by omega
  have hyi:i<ys.length:=by omega
  have hu:P.underlying f.type=some .string:=NJ h2
  unfold Op.eqFields
  rw [if_pos h1,h3']
  simp only [Sem.run_bind,vH hu (Zy hxi),vH hu (Zy hyi),Result.andThen_ok,run_equalIn_string w d f.type _ _ hu,iG]
  have hb:(xs.drop i == ys.drop i)=(xs[i] == ys[i] && (xs.drop (i+1) == ys.drop (i+1))):=by
   rw [List.drop_eq_getElem_cons hxi,List.drop_eq_getElem_cons hyi]; rfl
  rw [hb]
  by_cases he:xs[i]=ys[i]
  ·rw [if_neg (by simp [he]),ug t (i+1) h4 (by omega) (by omega),he]
   simp only [beq_self_eq_true,Bool.true_and]
  ·rw [if_pos (by simp [he]),beq_eq_false_iff_ne.2 he]
   rfl
theorem EqS.of {P:Program} {T:TypeId} {fs:Array Field} {n:Nat} (h1:P.underlying T=some (.struct fs)) (h2:P.stoodInHeld T=false) (h3:P.eqGuardType P.depth T=false) (h4:Eh P fs.toList 0=true) (hn:fs.size=n):EqS P T n:=by
 refine ⟨h3,λxs ys w hx hy=>?_⟩
 have hf:P.fieldsOf T=fs:=by simp [Program.fieldsOf,h1]
 rw [run_equalIn_struct w 9999 T _ _ (by rw [hf]; exact h1) h2,hf,ug fs.toList 0 h4 (by simp [hx,hn]) (by simp [hy,hn])]
 simp
section
variable {P:Program} {e:Env} {h h':SH} {ty:TypeId}
theorem iH {T t':TypeId} {x y:Operand} {a b c d:Bs} (hE:EqS P T 2) (hx:e.ev? x=some (.agg #[sv a,sv b])) (hy:e.ev? y=some (.agg #[sv c,sv d])) :
  Vop P e h (.binOp .eql T x y t') ty (.bool ([a,b] == [c,d])):=
 ⟨by simp,by simp,λρ w dd pos after g hρ _=>by
  have hq:(Op.equalIn 10000 T (.agg #[sv a,sv b]) (.agg #[sv c,sv d])).run P w = .ok ([a,b] == [c,d]) w:=hE.2 [a,b] [c,d] w rfl rfl
  simp only [execOp,hρ x _ hx,hρ y _ hy,Sem.run_bind,run_eqGuard_agg w .eql T x y _ _ hE.1,Result.andThen_ok,run_eql_struct,hq,Sem.run_pure]⟩
theorem wQ {T t':TypeId} {x y:Operand} {a b c d:Bs} (hE:EqS P T 2) (hx:e.ev? x=some (.agg #[sv a,sv b])) (hy:e.ev? y=some (.agg #[sv c,sv d])) :
  Vop P e h (.binOp .neq T x y t') ty (.bool (!([a,b] == [c,d]))):=
 ⟨by simp,by simp,λρ w dd pos after g hρ _=>by
  have hq:(Op.equalIn 10000 T (.agg #[sv a,sv b]) (.agg #[sv c,sv d])).run P w = .ok ([a,b] == [c,d]) w:=hE.2 [a,b] [c,d] w rfl rfl
  simp only [execOp,hρ x _ hx,hρ y _ hy,Sem.run_bind,run_eqGuard_agg w .neq T x y _ _ hE.1,Result.andThen_ok,run_neq_struct,hq,Sem.run_pure]⟩
end
theorem Kr {a b c d:Bs}:([a,b] == [c,d])=(a == c && b == d):=by
 rw [Bool.eq_iff_iff]
 simp
end Go.Ck
namespace Go.Ck
open Go Go.RowKit Go.ChangeShapes Go.WideShapes
theorem cells_one {v:Value} (h:v.oneCell'=true):v.cells.toList=[v]:=by
 cases v <;> first | rfl | (simp [Value.oneCell'] at h)
theorem row_of {α : Type} {r:Res} {t:Ty} {v:Value} (f:t.D -> α) (X:List Value -> α -> Prop) (hX:∀ us x,Rep r t us x->X us (f x)) {y:(Ty.slice t).D} (h:Rep r (.slice t) [v] y):Row r t.sz X v ((show List t.D from y).map f):=by
 unfold Rep at h
 obtain ⟨a,cap,h1,hl,hm,hn,h2⟩:=h
 refine ⟨a,cap,by rw [List.length_map]; exact (List.cons.inj h1).1,by rw [List.length_map]; exact hl,hm,hn,λi x hi=>?_⟩
 rw [List.getElem?_map] at hi
 cases hy:(show List t.D from y)[i]? with
 | none=>rw [hy] at hi; cases hi
 | some z =>
  rw [hy] at hi
  obtain rfl:=Option.some.inj hi
  rcases h2 with h0 | ⟨b,o,h3,h4⟩
  ·rw [show (show List t.D from y)=[] from h0] at hy; simp at hy
  ·obtain ⟨us,h5,h6,h7⟩:=h4 i z hy
   exact ⟨b,o,us,h3,h5,h6,hX _ _ h7⟩
theorem one_cell {us:List Value} (h:us.length=1):∃ u,us=[u]:=by
 match us,h with
 | [u],_=>exact ⟨u,rfl⟩
end Go.Ck
namespace Go.Hr
open Go Go.RowKit Go.ChangeShapes Go.WideShapes Go.Ck
def FW:List TypeId:=[3,4,9,25,59,62,185,186,188,189,191,192,194,196,198,201,203]
def zW:Ty:=.struct [.str,.slice (.any 5 FW),.slice (.any 2 FW),.slice .str,.slice .str,.slice .str]
def xN:Ty:=.struct [.str,.bool,.slice (.any 2 FW),.slice zW,.slice .str,.slice (.any 15 FW),.slice (.any 5 FW)]
def nmOf (s:ByteArray):Nm:=s.data.toList
def parOf (x:zW.D):Nm:=nmOf (show ByteArray from x.1)
def clsOf (x:xN.D):Cls:=⟨nmOf (show ByteArray from x.1),(show List zW.D from x.2.2.2.1).map parOf,(show List Unit from x.2.2.2.2.2.1).length⟩
def sysOf (y:(Ty.slice xN).D):Sys:=(show List xN.D from y).map clsOf
theorem parC_of {r:Res} {us:List Value} {x:zW.D} (h:Rep r zW us x):parC us (parOf x):=by
 obtain ⟨x1,x2,x3,x4,x5,x6,x7⟩:=x
 simp only [zW,Rep,Reps] at h
 obtain ⟨u1,us1,e1,l1,r1,h⟩:=h
 obtain ⟨u2,us2,e2,l2,r2,h⟩:=h
 obtain ⟨u3,us3,e3,l3,r3,h⟩:=h
 obtain ⟨u4,us4,e4,l4,r4,h⟩:=h
 obtain ⟨u5,us5,e5,l5,r5,h⟩:=h
 obtain ⟨u6,us6,e6,l6,r6,h⟩:=h
 have r1:=r1.1
 obtain ⟨a2,c2,g2,_⟩:=r2
 obtain ⟨a3,c3,g3,_⟩:=r3
 obtain ⟨a4,c4,g4,_⟩:=r4
 obtain ⟨a5,c5,g5,_⟩:=r5
 obtain ⟨a6,c6,g6,_⟩:=r6
 subst h r1 g2 g3 g4 g5 g6 e6 e5 e4 e3 e2
 exact ⟨_,_,_,_,_,e1,Z⟩
theorem cls_of {r:Res} {us:List Value} {x:xN.D} (h:Rep r xN us x):clsC r us (clsOf x):=by
 obtain ⟨x1,x2,x3,x4,x5,x6,x7,x8⟩:=x
 simp only [xN,Rep,Reps] at h
 obtain ⟨u1,us1,e1,l1,r1,h⟩:=h
 obtain ⟨u2,us2,e2,l2,r2,h⟩:=h
 obtain ⟨u3,us3,e3,l3,r3,h⟩:=h
 obtain ⟨u4,us4,e4,l4,r4,h⟩:=h
 obtain ⟨u5,us5,e5,l5,r5,h⟩:=h
 obtain ⟨u6,us6,e6,l6,r6,h⟩:=h
 obtain ⟨u7,us7,e7,l7,r7,h⟩:=h
 obtain ⟨p4,rfl⟩:=one_cell l4
 have s4:Rep r (.slice zW) [p4] x4:=by simp only [Rep]; exact r4
 have r1:=r1.1
 obtain ⟨a3,c3,g3,_⟩:=r3
 obtain ⟨a4,c4,g4,_⟩:=r4
 obtain ⟨a5,c5,g5,_⟩:=r5
 obtain ⟨a6,c6,g6,_⟩:=r6
 obtain ⟨a7,c7,g7,_⟩:=r7
 have g4:=(List.cons.inj g4).1
 subst h r1 r2 g3 g4 g5 g6 g7 e7 e6 e5 e4 e3 e2
 exact ⟨_,_,_,_,_,_,_,e1,Z,row_of parOf parC (λ_ _ h=>parC_of h) s4⟩
theorem wR {r:Res} {v:Value} {y:(Ty.slice xN).D} (h:Rep r (.slice xN) [v] y):mD r v (sysOf y):=row_of clsOf (clsC r) (λ_ _ h=>cls_of h) h
def nmsOf (y:(Ty.slice .str).D):List Nm:=(show List ByteArray from y).map nmOf
end Go.Hr
namespace Go.Ck
open Go Go.RowKit Go.ChangeShapes Go.WideShapes
section
variable {H:Type}
theorem qw {P:Program} {e:TypeId}:∀ {ds:List (DataW H)} {d:DataW H},d∈ds->∀ n∈d.weights P e,n∈DataW.weightsAll P e ds
 | d0::ds,d,hd,n,hn=>by
  simp only [DataW.weightsAll,List.mem_append]
  rcases List.mem_cons.1 hd with rfl | hd
  ·exact .inl hn
  ·exact .inr<|qw hd n hn
variable (enc:TypeId×Value->H) (P:Program) (W:World)
def Gd (n:Nat) (t:TypeId) (cs:List Value):Prop:=∃ x,DataW.trod enc P W 0 (λ_=>true) true n t cs=some x/\∀ m∈x.1.weights P t,m≤reachBytes
variable {enc P W}
theorem Gd.slice {n : Nat} {t e : TypeId} {cs : List Value} (h : Gd enc P W n t cs) (hu : P.underlying t = some (.slice e)) (hsz : 0 < P.cellsOf e) :
  cs=[.slice none 0 0]∨∃ a len cap m,n=m+1/\cs=[.slice (some a) len cap]/\len≤cap/\cap≤maxLen/\len * P.bytesOf e≤reachBytes /\
   ∀ i,i<len->∃ b o us,a=⟨b,o,none⟩/\us.length=P.cellsOf e/\Rds (old W) b (o+i * P.cellsOf e) us/\Gd enc P W m e us:=by
 obtain ⟨x,h,hz⟩:=h
 rcases DataW.trod_slice hu h with ⟨h0,_⟩ | ⟨a,len,cap,elems,rest,m,hn,h1,hx,_,hl,hc,hlen,hel,_⟩
 ·exact .inl h0
 ·refine .inr ⟨a, len, cap, m, hn, h1, hl, hc, ?_, λi hi => ?_⟩
  ·have:=hz ((elems.length+rest.length) * P.bytesOf e) (by rw [hx]; simp [DataW.weights,hu])
   rw [hlen] at this
   exact Nat.le_trans (Nat.mul_le_mul_right _<|Nat.le_add_right _ _) this
  ·have h2:=hel i hi
   rw [Zy (by omega),Option.bind_eq_some_iff] at h2
   obtain ⟨us,h3,h4⟩:=h2
   obtain ⟨h5,h6⟩:=wC h3
   have hspot:a.spot=none:=by
    have g2:=hel 0<|by omega
    rw [Zy (by omega),Option.bind_eq_some_iff] at g2
    obtain ⟨us0,g3,_⟩:=g2
    obtain ⟨g5,g6⟩:=wC g3
    have:=g6 0<|by omega
    simp only [Nat.zero_mul,Addr.add,if_true] at this
    exact (cell_spot this).1
   obtain ⟨ab,ao,asp⟩:=a
   simp only at hspot
   subst hspot
   refine ⟨ab,ao,us,Z,h5,λj hj=>?_,elems[i]'(by omega),h4,λk hk=>hz k ?_⟩
   ·have:=h6 j hj
    rw [Addr.add_lit,Addr.add_lit] at this
    exact M3 (cell_spot this).2 this
   ·rw [hx]
    simp only [DataW.weights,hu]
    exact List.mem_cons_of_mem _<|List.mem_append_left _<|qw (List.mem_map.2 ⟨_,List.getElem_mem (by omega),Z⟩) _ hk
theorem Gd.struct {n:Nat} {t:TypeId} {fs:Array Field} {cs:List Value} (h:Gd enc P W n t cs) (hu:P.underlying t=some (.struct fs)) :
  ∃ m,n=m+1/\cs.length=P.cellsOf t/\∀ (i:Nat) (f:Field),fs[i]? = some f->Gd enc P W m f.type ((cs.drop f.offset).take<|P.cellsOf f.type):=by
 obtain ⟨x,h,hz⟩:=h
 obtain ⟨xs,m,hn,hx,hcl,hxl,hfe⟩:=DataW.trod_struct hu h
 refine ⟨m,hn,hcl,λi f hf=>?_⟩
 have h1:=hfe i f hf
 have hlt:i<xs.length:=by rw [hxl]; exact (Array.getElem?_eq_some_iff.1 hf).1
 rw [Zy hlt] at h1
 refine ⟨xs[i],h1,λk hk=>hz k ?_⟩
 rw [hx]
 simp only [DataW.weights,hu]
 exact DataW.weights_mem_each (j:=i) (by rw [List.getElem?_map]; simp [hf]) (by rw [List.getElem?_map,Zy hlt]; rfl) _ hk
end
end Go.Ck
namespace Go.Ck
open Go Go.RowKit
theorem NK {z:Array Value} {sz n:Nat} (hz:z.size=sz) (h0:0<sz):(madeCells z (n * sz)).toList=(List.replicate n z.toList).flatten:=by
 have hfl:((List.replicate n z.toList).flatten).length=n * sz:=by simp [hz]
 apply List.ext_getElem?
 intro i
 rcases Nat.lt_or_ge i (n * sz) with h | h
 ·have h1:i / sz<n:=Nat.div_lt_of_lt_mul (by rw [Nat.mul_comm]; exact h)
  have h2:=Nat.mod_lt i h0
  have h3:=pG (rows:=List.replicate n z.toList) (sz:=sz) (m:=i / sz) (k:=i % sz) (r:=z.toList) (x:=z[i % sz]'(by omega)) (λr hr=>by rw [List.eq_of_mem_replicate hr]; simpa using hz) (by simp [h1])<|by simp [hz,h2]
  rw [Nat.div_add_mod' i sz] at h3
  rw [h3]
  simp [madeCells,h,hz,h2]
 ·rw [List.getElem?_eq_none (by simp [madeCells]; omega),List.getElem?_eq_none (by omega)]
section
variable {c:Cx} {ops:Array Oper} {K:Act->World->Prop} {rest:List Oper} {e:Env} {h:SH}
theorem NL {d : Nat} {T E ty : TypeId} {x y : Operand} {pos : String} {after : Array Edge} {z : Value} {sz bytes n : Nat} {i : Int} (hx : e.ev? x = some (.int .i64 i)) (hy : e.ev? y = some (.int .i64 i)) (hn : i = (n : Int))
  (hT:c.P.underlying T=some (.slice E)) (hE:Inf c.P E z sz bytes) (hz:z.cells.size=sz) (h0:0<sz) (hb:bytes * n≤281474976710656) (h63:n≤maxLen) (hd:d<c.n)
  (hnx:∀ b,St c ops K rest ((d,.slice (some ⟨b,0,none⟩) n n)::e) (pt b (cl ((List.replicate n z.cells.toList).flatten) E)::h)) :
  St c ops K (⟨some d,.makeSlice T x y,ty,pos,after,none⟩::rest) e h :=
 eF (by simp) λa w hk hh hs=>by
  obtain ⟨ie,h1,h2,h3,h4⟩:=hE.parts
  have hml:maxLen=9223372036854775807:=rfl
  subst hn
  have hm:=run_make (P:=c.P) w T E ie z hT h1 h2 .i64 .i64 n n (by omega) (by omega) (by rw [h4]; have h:=Int.ofNat_le.2 hb; rw [Int.natCast_mul] at h; omega)<|by omega
  have hcl:(Obj.cells (madeCells z.cells ((n:Int).toNat * ie.size)) E)=cl ((List.replicate n z.cells.toList).flatten) E:=by
   simp only [cl,h3,Int.toNat_natCast,Obj.cells.injEq,and_true]
   apply Array.ext'
   rw [NK hz h0]
  rw [hcl] at hm
  simp only [Int.toNat_natCast] at hm
  simp only [execOp,hk.ev hx,hk.ev hy,Sem.run_bind,hm,Result.andThen_ok,Sem.run_pure]
  exact hnx _ _ _ (hk.put _ hd) (Holds.alloc hh _)<|hs.trans (Grew.alloc _ _ Z).toSame
theorem zX {sz:Nat}:∀ {rows:List (List Value)},(∀ r∈rows,r.length=sz)->rows.flatten.length=rows.length * sz
 | [],_=>by simp
 | r::t,h=>by
  rw [List.flatten_cons,List.length_append,h r (by simp),zX (rows:=t) λq hq=>h q (by simp [hq]),List.length_cons,Nat.succ_mul]; omega
theorem mR {sz:Nat} {vs:List Value} (hv:vs.length=sz):∀ {rows:List (List Value)} {m:Nat},(∀ r∈rows,r.length=sz)->m<rows.length->splice rows.flatten (m * sz) vs=(rows.set m vs).flatten
 | [],m,_,hm=>by simp at hm
 | r::t,0,h,_=>by
  have hr:=h r<|by simp
  simp [splice,hv,<- hr]
 | r::t,m+1,h,hm=>by
  have hr:=h r<|by simp
  have ih:=mR hv (rows:=t) (m:=m) (λq hq=>h q<|by simp [hq])<|by simpa using hm
  have ht:=zX (sz:=sz) (rows:=t) λq hq=>h q<|by simp [hq]
  rw [List.set_cons_succ,List.flatten_cons,List.flatten_cons,<- ih]
  unfold splice
  rw [Nat.succ_mul,show m * sz+sz=r.length+m * sz by omega]
  rw [List.take_length_add_append,show r.length+m * sz+vs.length=r.length+(m * sz+vs.length) by omega,List.drop_length_add_append]
  simp
end
end Go.Ck
namespace Go.Ck
open Go Go.RowKit Go.ChangeShapes Go.WideShapes
def oneB (P:Program) (L:List TypeId):Bool:=L.all λt=>match P.underlying t with
 | some (.int _)=>true
 | some .bool=>true
 | some .string=>true
 | some (.slice _)=>true
 | some (.struct fs)=>(List.range (P.cellsOf t)).all λk=>fs.toList.any λf=>L.contains f.type && Nat.ble f.offset k && Nat.blt k (f.offset+P.cellsOf f.type)
 | _=>false
theorem Gd.one {H : Type} {enc : TypeId × Value -> H} {P : Program} {W : World} {L : List TypeId} (hL : oneB P L = true) : ∀ (n : Nat) (t : TypeId) (cs : List Value), t ∈ L -> Gd enc P W n t cs -> ∀ u ∈ cs, u.oneCell' = true
 | 0,t,cs,_,⟨x,h,_⟩=>by simp [DataW.trod] at h
 | n + 1, t, cs, ht, hg => by
  have hc:=List.all_eq_true.1 hL t ht
  obtain ⟨x,h,hz⟩:=id hg
  cases hu:P.underlying t with
  | none=>rw [hu] at hc; cases hc
  | some d =>
   rw [hu] at hc
   cases d with
   | int k=>obtain ⟨q,rfl,_⟩:=DataW.trod_int hu h; intro u hm; simp at hm; subst hm; rfl
   | bool=>obtain ⟨q,rfl,_⟩:=DataW.trod_bool hu h; intro u hm; simp at hm; subst hm; rfl
   | string=>obtain ⟨q,rfl,_⟩:=DataW.trod_string hu h; intro u hm; simp at hm; subst hm; rfl
   | slice e =>
    rcases DataW.trod_slice hu h with ⟨rfl,_⟩ | ⟨a,len,cap,_,_,_,_,rfl,_⟩ <;> (intro u hm; simp at hm; subst hm; rfl)
   | struct fs =>
    obtain ⟨m,hm,hcl,hf⟩:=hg.struct hu
    obtain rfl:n=m:=by omega
    intro u hu2
    obtain ⟨k,hk,rfl⟩:=List.getElem_of_mem hu2
    have h1:=List.all_eq_true.1 hc k<|List.mem_range.2<|by omega
    obtain ⟨f,hfm,h2⟩:=List.any_eq_true.1 h1
    simp only [Bool.and_eq_true] at h2
    obtain ⟨⟨h3,h4⟩,h5⟩:=h2
    have h4:=Nat.le_of_ble_eq_true h4
    have h5:k<f.offset+P.cellsOf f.type:=Nat.lt_of_succ_le<|by simpa [Nat.blt] using h5
    obtain ⟨i,hi⟩:=List.getElem?_of_mem hfm
    refine Gd.one hL n f.type _ Zb (hf i f Zi) _ ?_
    refine List.mem_iff_getElem?.2 ⟨k - f.offset,?_⟩
    rw [List.getElem?_take,if_pos (by omega),List.getElem?_drop,show f.offset+(k - f.offset)=k by omega,Zy hk]
   | _=>cases hc
/-! ## The same, out of any resource -/
section
variable (P:Program)
def Gr (S:Res):Nat->TypeId->List Value->Prop
 | 0,_,_=>False
 | n+1,t,cs=>match P.underlying t with
  | some (.int _)=>∃ v,cs=[v]/\v.oneCell'=true
  | some .bool=>∃ v,cs=[v]/\v.oneCell'=true
  | some .string=>∃ v,cs=[v]/\v.oneCell'=true
  | some (.slice e)=>∃ (l:List Unit) (v:Value),cs=[v]/\Row S (P.cellsOf e) (λus _=>Gr S n e us) v l/\l.length * P.bytesOf e≤reachBytes
  | some (.struct fs)=>cs.length=P.cellsOf t/\∀ (i:Nat) (f:Field),fs[i]? = some f->Gr S n f.type ((cs.drop f.offset).take (P.cellsOf f.type))
  | _=>False
def kinB (L:List TypeId):Bool:=L.all λt=>match P.underlying t with
 | some (.int _)=>true
 | some .bool=>true
 | some .string=>true
 | some (.slice e)=>L.contains e && Nat.blt 0 (P.cellsOf e)
 | some (.struct fs)=>fs.toList.all λf=>L.contains f.type
 | _=>false
def flatB (L:List TypeId):Bool:=L.all λt=>match P.underlying t with
 | some (.int _)=>true
 | some .bool=>true
 | some .string=>true
 | some (.struct fs)=>fs.toList.all λf=>L.contains f.type
 | _=>false
inductive Gall (S:Res) (n:Nat) (cs:List Value):List Field->Prop
 | nil:Gall S n cs []
 | cons {f:Field} {fs:List Field}:Gr P S n f.type ((cs.drop f.offset).take (P.cellsOf f.type))->Gall S n cs fs->Gall S n cs (f::fs)
end
section
variable {P:Program} {S T:Res}
theorem Gr.row {n:Nat} {t e:TypeId} {v:Value} (h:Gr P S n t [v]) (hu:P.underlying t=some (.slice e)):∃ (m:Nat) (l:List Unit),n=m+1/\Row S (P.cellsOf e) (λus _=>Gr P S m e us) v l/\l.length * P.bytesOf e≤reachBytes:=by
 cases n with
 | zero=>exact h.elim
 | succ n =>
  simp only [Gr,hu] at h
  obtain ⟨l,v',h1,h2,h3⟩:=h
  cases h1
  exact ⟨n,l,Z,h2,h3⟩
theorem Gr.slice {n : Nat} {t e : TypeId} {v : Value} (h : Gr P S n t [v]) (hu : P.underlying t = some (.slice e)) (_ : 0 < P.cellsOf e) :
  [v]=[Value.slice none 0 0]∨∃ a len cap m,n=m+1/\[v]=[Value.slice (some a) len cap]/\len≤cap/\cap≤maxLen/\len * P.bytesOf e≤reachBytes /\
   ∀ i,i<len->∃ b o us,a=⟨b,o,none⟩/\us.length=P.cellsOf e/\Rds S b (o+i * P.cellsOf e) us/\Gr P S m e us:=by
 obtain ⟨m,l,hm,⟨a,cap,rfl,h1,h2,h3,h4⟩,hb⟩:=h.row hu
 cases a with
 | none =>
  have hc:=h3 rfl
  subst hc
  rw [show l.length=0 by omega]
  exact .inl Z
 | some a =>
  refine .inr ⟨a,l.length,cap,m,hm,Z,h1,h2,hb,λi hi=>?_⟩
  obtain ⟨b,o,us,e1,e2,e3,e4⟩:=h4 i _<|Zy hi
  exact ⟨b,o,us,Option.some.inj e1,e2,e3,e4⟩
theorem Gr.struct {n:Nat} {t:TypeId} {fs:Array Field} {cs:List Value} (h:Gr P S n t cs) (hu:P.underlying t=some (.struct fs)) :
  ∃ m,n=m+1/\cs.length=P.cellsOf t/\∀ (i:Nat) (f:Field),fs[i]? = some f->Gr P S m f.type ((cs.drop f.offset).take<|P.cellsOf f.type):=by
 cases n with
 | zero=>exact h.elim
 | succ n =>
  simp only [Gr,hu] at h
  exact ⟨n,Z,h⟩
theorem Gall.at {n:Nat} {cs:List Value}:∀ {fs:List Field},Gall P S n cs fs->∀ (i:Nat) (f:Field),fs[i]? = some f->Gr P S n f.type ((cs.drop f.offset).take (P.cellsOf f.type))
 | _,.nil,i,f,h=>by simp at h
 | _,.cons h _,0,f,hf=>by simp at hf; subst hf; exact h
 | _,.cons _ ht,i+1,f,hf=>ht.at i f (by simpa using hf)
theorem Gr.mk {n k:Nat} {t:TypeId} {fs:Array Field} {cs:List Value} (hu:P.underlying t=some (.struct fs)) (hk:P.cellsOf t=k) (hl:cs.length=k) (h:Gall P S n cs fs.toList):Gr P S (n+1) t cs:=by
 subst hk
 simp only [Gr,hu]
 exact ⟨hl,λi f hf=>h.at i f<|by simpa using hf⟩
theorem Gr.mono (hr : ∀ p u, Rd S p u -> Rd T p u) : ∀ {n : Nat} {t : TypeId} {cs : List Value}, Gr P S n t cs -> Gr P T n t cs
 | 0,_,_,h=>h.elim
 | n + 1, t, cs, h => by
  unfold Gr at h ⊢
  cases hu:P.underlying t with
  | none=>rw [hu] at h; exact h.elim
  | some d =>
   rw [hu] at h
   cases d with
   | int k=>exact h
   | bool=>exact h
   | string=>exact h
   | slice e =>
    obtain ⟨l,v,h1,h2,h3⟩:=h
    exact ⟨l,v,h1,h2.mono hr λ_ _ _ h=>Gr.mono hr h,h3⟩
   | struct fs=>exact ⟨h.1,λi f hf=>Gr.mono hr (h.2 i f hf)⟩
   | _=>exact h.elim
theorem Gr.up : ∀ {n : Nat} {t : TypeId} {cs : List Value}, Gr P S n t cs -> Gr P S (n + 1) t cs
 | 0,_,_,h=>h.elim
 | n + 1, t, cs, h => by
  unfold Gr at h ⊢
  cases hu:P.underlying t with
  | none=>rw [hu] at h; exact h.elim
  | some d =>
   rw [hu] at h
   cases d with
   | int k=>exact h
   | bool=>exact h
   | string=>exact h
   | slice e =>
    obtain ⟨l,v,h1,h2,h3⟩:=h
    exact ⟨l,v,h1,h2.mono (λ_ _ h=>h) λ_ _ _ h=>Gr.up h,h3⟩
   | struct fs=>exact ⟨h.1,λi f hf=>Gr.up (h.2 i f hf)⟩
   | _=>exact h.elim
theorem Gr.flat {L : List TypeId} (hL : flatB P L = true) : ∀ {n : Nat} {t : TypeId} {cs : List Value}, L.contains t = true -> Gr P S n t cs -> Gr P T n t cs
 | 0,_,_,_,h=>h.elim
 | n+1,t,cs,ht,h=>by
  have hc:=List.all_eq_true.1 hL t<|by simpa using ht
  unfold Gr at h ⊢
  cases hu:P.underlying t with
  | none=>rw [hu] at h; exact h.elim
  | some d =>
   rw [hu] at h hc
   cases d with
   | int k=>exact h
   | bool=>exact h
   | string=>exact h
   | slice e=>cases hc
   | struct fs=>exact ⟨h.1,λi f hf=>Gr.flat hL (List.all_eq_true.1 hc f (List.mem_of_getElem? (i:=i) (by simpa using hf))) (h.2 i f hf)⟩
   | _=>exact h.elim
theorem Gr.one {L : List TypeId} (hL : oneB P L = true) : ∀ (n : Nat) (t : TypeId) (cs : List Value), t ∈ L -> Gr P S n t cs -> ∀ u ∈ cs, u.oneCell' = true
 | 0,t,cs,_,h=>h.elim
 | n + 1, t, cs, ht, hg => by
  have hc:=List.all_eq_true.1 hL t ht
  have h:=hg
  unfold Gr at h
  cases hu:P.underlying t with
  | none=>rw [hu] at hc; cases hc
  | some d =>
   rw [hu] at hc h
   cases d with
   | int k=>obtain ⟨q,rfl,hq⟩:=h; intro u hm; simp at hm; subst hm; exact hq
   | bool=>obtain ⟨q,rfl,hq⟩:=h; intro u hm; simp at hm; subst hm; exact hq
   | string=>obtain ⟨q,rfl,hq⟩:=h; intro u hm; simp at hm; subst hm; exact hq
   | slice e =>
    obtain ⟨l,v,rfl,⟨a,cap,rfl,_⟩,_⟩:=h
    intro u hm; simp at hm; subst hm; rfl
   | struct fs =>
    obtain ⟨hcl,hf⟩:=h
    intro u hu2
    obtain ⟨k,hk,rfl⟩:=List.getElem_of_mem hu2
    have h1:=List.all_eq_true.1 hc k<|List.mem_range.2<|by omega
    obtain ⟨f,hfm,h2⟩:=List.any_eq_true.1 h1
    simp only [Bool.and_eq_true] at h2
    obtain ⟨⟨h3,h4⟩,h5⟩:=h2
    have h4:=Nat.le_of_ble_eq_true h4
    have h5:k<f.offset+P.cellsOf f.type:=Nat.lt_of_succ_le<|by simpa [Nat.blt] using h5
    obtain ⟨i,hi⟩:=List.getElem?_of_mem hfm
    refine Gr.one hL n f.type _ Zb (hf i f Zi) _ ?_
    refine List.mem_iff_getElem?.2 ⟨k - f.offset,?_⟩
    rw [List.getElem?_take,if_pos (by omega),List.getElem?_drop,show f.offset+(k - f.offset)=k by omega,Zy hk]
   | _=>cases hc
theorem Gr.keep {L:List TypeId} (hL:flatB P L=true) {n o k:Nat} {t:TypeId} {us us':List Value} (h:Gr P S n t ((us.drop o).take (P.cellsOf t))) (ht:L.contains t=true) (hk:P.cellsOf t=k) (he:(us.drop o).take k=(us'.drop o).take k):Gr P T n t ((us'.drop o).take (P.cellsOf t)):=by
 rw [hk] at h ⊢
 rw [<- he]
 exact Gr.flat hL ht h
theorem Gr.cut {n o k:Nat} {t:TypeId} {us vs:List Value} (h:Gr P S n t vs) (hk:P.cellsOf t=k) (he:(us.drop o).take k=vs):Gr P S n t ((us.drop o).take (P.cellsOf t)):=by
 rw [hk,he]; exact h
end
end Go.Ck
namespace Go.Fl
open Go Go.Hr
inductive Ex
 | mk (kind:Int) (name:Nm) (n:Int) (kids:List Ex)
namespace Ex
def kind:Ex->Int | .mk k _ _ _=>k
def name:Ex->Nm | .mk _ n _ _=>n
def num:Ex->Int | .mk _ _ n _=>n
def kids:Ex->List Ex | .mk _ _ _ l=>l
end Ex
mutual
def Ex.same:Ex->Ex->Bool
 | .mk k n i l,.mk k' n' i' l'=>k == k' && n == n' && i == i' && exs l l'
def exs:List Ex->List Ex->Bool
 | [],[]=>true
 | a::t,b::u=>a.same b && exs t u
 | [],_::_=>false
 | _::_,[]=>false
end
mutual
theorem NM:∀ (a b:Ex),a.same b=true↔a=b
 | .mk k n i l,.mk k' n' i' l'=>by
  simp only [Ex.same,Bool.and_eq_true,beq_iff_eq,Ku l l',Ex.mk.injEq]
  constructor
  ·rintro ⟨⟨⟨h1,h2⟩,h3⟩,h4⟩; exact ⟨h1,h2,h3,h4⟩
  ·rintro ⟨h1,h2,h3,h4⟩; exact ⟨⟨⟨h1,h2⟩,h3⟩,h4⟩
theorem Ku:∀ (a b:List Ex),exs a b=true↔a=b
 | [],[]=>by simp [exs]
 | a::t,b::u=>by simp only [exs,Bool.and_eq_true,NM a b,Ku t u,List.cons.injEq]
 | [],_::_=>by simp [exs]
 | _::_,[]=>by simp [exs]
end
instance:DecidableEq Ex:=λa b=>decidable_of_iff _ (NM a b)
mutual
def Ex.depth:Ex->Nat
 | .mk _ _ _ l=>exds l+1
def exds:List Ex->Nat
 | []=>0
 | a::t=>max a.depth (exds t)
end
theorem vJ:∀ {l:List Ex} {t:Ex},t∈l->t.depth≤exds l
 | a::l,t,h=>by
  unfold exds
  rcases List.mem_cons.1 h with rfl | h
  ·omega
  ·have:=vJ h; omega
theorem pI {t a:Ex} (h:a∈t.kids):a.depth<t.depth:=by
 cases t
 have:=vJ h
 simp only [Ex.kids] at this
 show a.depth<exds _+1; omega
structure Cla where
 tag:Nm
 ex:Ex
 deriving DecidableEq
structure Grp where
 cls:Nm
 cs:List Cla
 deriving DecidableEq
structure Vr where
 name:Nm
 ty:Kt
 deriving DecidableEq
structure Sd where
 cls:Nm
 name:Nm
 deriving DecidableEq
structure Og where
 par:Nm
 name:Nm
 deriving DecidableEq
structure Mb where
 name:Nm
 kind:Int
 seeds:List Sd
 impl:Sd
 args:List Vr
 ty:Kt
 clients:List Nm
 pre:List Grp
 post:List Grp
 deriving DecidableEq
structure Fl where
 name:Nm
 dfd:Bool
 mems:List Mb
 inv:List Grp
 deriving DecidableEq
structure Fe where
 kind:Int
 name:Nm
 clients:List Nm
 args:List Vr
 ty:Kt
 req:List Cla
 ens:List Cla
structure Pn where
 fro:Nm
 to:Nm
structure Pt where
 name:Nm
 args:List Kt
 ren:List Pn
 und:List Nm
 red:List Nm
 sel:List Nm
structure FC where
 name:Nm
 dfd:Bool
 forms:List Fm
 pars:List Pt
 feats:List Fe
 inv:List Cla
abbrev FS:=List FC
def FC.cls (c:FC):Cls:={ name:=c.name,parents:=c.pars.map (·.name),feats:=c.feats.length }
def bC (l:FS):Hr.Sys:=l.map FC.cls
def bQ (l:FS) (n:Nm):Option FC:=l.find? λc=>c.name == n
def Bb:FC:=⟨[],false,[],[],[],[]⟩
def mb0:Mb:=⟨[],0,[],⟨[],[]⟩,[],.mk 0 [] [] false false,[],[],[]⟩
def fl0:Fl:=⟨[],false,[],[]⟩
def ae (l:FS) (n:Nm):FC:=(bQ l n).getD Bb
def feat (c:FC) (n:Nm):Option Fe:=c.feats.find? λf=>f.name == n
def dI (l:List Mb) (n:Nm):Option Mb:=l.find? λm=>m.name == n
mutual
def dh (F:List Fm) (A:List Kt):Kt->Kt
 | .mk k n az v s=>match (if k=4 then oD F A n else none) with
  | some t=>t.flag v s
  | none=>.mk k n (Kv F A az) v s
def Kv (F:List Fm) (A:List Kt):List Kt->List Kt
 | []=>[]
 | a::t=>dh F A a::Kv F A t
end
theorem Cw {F:List Fm} {A:List Kt}:∀ (l:List Kt),Kv F A l=l.map (dh F A)
 | []=>rfl
 | a::t=>by rw [Kv,Cw t]; rfl
structure Cm where
 og:Og
 par:Nat
 mem:Mb
 was:Int
 deriving DecidableEq
def Cm.dfd (x:Cm):Bool:=x.mem.kind == 3
def bN (p:Pt) (n:Nm):Nm:=match p.ren.find? λx=>x.fro == n with
 | some x=>x.to
 | none=>n
def ru (F:List Fm) (i:Nat) (p:Pt) (m:Mb):Cm :=
 { og:=⟨p.name,m.name⟩,par:=i,was:=m.kind,mem:={ m with name:=bN p m.name,kind:=if p.und.contains (bN p m.name) then 3 else m.kind,args:=m.args.map λa=>{ a with ty:=dh F p.args a.ty },ty:=dh F p.args m.ty } }
def comes (fl:Nm->Fl) (l:FS) (c:FC):List Cm:=c.pars.zipIdx.flatMap λq=>(fl q.1.name).mems.map<|ru (ae l q.1.name).forms q.2 q.1
def under (cs:List Cm) (n:Nm):List Cm:=cs.filter λx=>x.mem.name == n
def slt (a b:Sd):Bool:=lt a.cls b.cls || (a.cls == b.cls && lt a.name b.name)
def yx:List Sd->Sd->List Sd
 | [],x=>[x]
 | y::t,x=>if slt x y then x::y::t else if x=y then y::t else y::yx t x
def ry (xs:List Sd):List Sd:=xs.foldl yx []
def vL (o:List Grp) (g:Grp):List Grp:=if o.contains g then o else o++[g]
def rz (o l:List Grp):List Grp:=l.foldl vL o
def groups (ls:List (List Grp)):List Grp:=ls.foldl rz []
def joined (l:List Cm):Mb :=
 let m:=match l.find? (λ(x:Cm) => !x.dfd) with
  | some x=>x.mem
  | none=>(l.head?.map λ(x:Cm)=>x.mem).getD mb0
 { m with seeds:=ry (l.flatMap λ(x:Cm)=>x.mem.seeds),pre:=l.foldl (λ(o:List Grp) (x:Cm)=>groups [o,x.mem.pre]) [],post:=l.foldl (λ(o:List Grp) (x:Cm)=>groups [o,x.mem.post]) [] }
def jN (c:FC) (f:Fe) (l:List Cm):Mb :=
 let pre:List Grp:=[⟨c.name,f.req⟩]
 let post:List Grp:=if f.ens=[] then [] else [⟨c.name,f.ens⟩]
 let m:Mb:={ name:=f.name,kind:=f.kind,seeds:=[⟨c.name,f.name⟩],impl:=⟨c.name,f.name⟩,args:=f.args,ty:=f.ty,clients:=f.clients,pre:=pre,post:=post }
 if l=[] then m else { m with seeds:=(joined l).seeds,pre:=groups [(joined l).pre,if f.req=[] then [] else pre],post:=groups [(joined l).post,post] }
def yz:List Mb->Mb->List Mb
 | [],x=>[x]
 | y::t,x=>if lt x.name y.name then x::y::t else y::yz t x
def rA (xs:List Mb):List Mb:=xs.foldl yz []
def keys (cs:List Cm):List Nm:=dd [] (cs.map λx=>x.mem.name)
def members (cs:List Cm) (c:FC):List Mb :=
 rA (((keys cs).filter λn=>(feat c n).isNone).map (λn=>joined<|under cs n)++c.feats.map λf=>jN c f<|under cs f.name)
mutual
def tpw:Kt->Int
 | .mk _ _ az _ _=>tpws 1 az
def tpws:Int->List Kt->Int
 | n,[]=>n
 | n,a::t=>tpws (IntKind.i64.wrap (n+tpw a)) t
end
def over (l:List Mb):Bool:=decide (60<l.length) || l.any λm=>decide (400<tpw m.ty) || m.args.any λv=>decide (400<tpw v.ty)
def flatOf (l:FS) (c:FC) (ms:List Mb):Fl :=
 { name:=c.name,dfd:=c.dfd,mems:=ms,inv:=(above (bC l) c.name).filterMap λa=>if (ae l a).inv=[] then none else some ⟨a,(ae l a).inv⟩ }
def bn (l:List Mb) (s:Sd):List Nm:=(l.filter λm=>m.seeds.contains s).map (·.name)
def ko:List Nm->Nm
 | []=>[]
 | [a]=>a
 | a::b::t=>a++32::ko (b::t)
def having (cs:List Cm) (s:Sd):List Cm:=cs.filter λx=>x.mem.seeds.contains s
def dF (c:FC) (i:Nat):Pt:=(c.pars[i]?).getD ⟨[],[],[],[],[],[]⟩
def picked (c:FC) (xs:List Cm):List Nm:=dd [] ((xs.filter λx=>(dF c x.par).sel.contains x.mem.name).map λx=>x.mem.name)
def ddn (o xs:List Nat):List Nat:=xs.foldl (λo i=>if o.contains i then o else o++[i]) o
def bX (xs:List Cm):List Nat:=ddn [] (xs.map λx=>x.par)
theorem Kw : ∀ {xs o : List Nat} {i : Nat}, i ∈ ddn o xs ↔ i ∈ o ∨ i ∈ xs
 | [],o,i=>by simp [ddn]
 | x::t,o,i=>by
  show i∈ddn (if o.contains x then o else o++[x]) t↔_
  rw [Kw]
  split
  ·rename_i h
   have h:x∈o:=by simpa using h
   simp only [List.mem_cons]
   exact ⟨λh2=>h2.elim .inl λh2=>.inr (.inr h2),λh2=>h2.elim .inl λh2=>h2.elim (λe=>.inl (e ▸ h)) .inr⟩
  ·simp [or_assoc]
theorem pJ {xs:List Cm} {i:Nat}:i∈bX xs↔∃ x∈xs,x.par=i:=by
 unfold bX
 rw [Kw,List.mem_map]
 simp
def eT (fl : Nm -> Fl) (l : FS) : Nat -> FC -> List Mb -> Sd -> Nm × Bool
 | n, c, ms, s => match bn ms s with
  | [a]=>(a,true)
  | _ =>
   let xs:=having (comes fl l c) s
   if picked c xs≠[]∨(bX xs).length≠1 then (ko (picked c xs),(picked c xs).length == 1)
   else match bX xs, n with
    | i::_,n+1 =>
     let p:=dF c i
     if 1<(bn (fl p.name).mems s).length then
      let r:=eT fl l n (ae l p.name) (fl p.name).mems s
      (bN p r.1,r.2)
     else ([],false)
    | _,_=>([],false)
structure Cf where
 kind:Int
 cls:Nm
 name:Nm
 other:Nm
 a:Og
 b:Og
 deriving DecidableEq
def og0:Og:=⟨[],[]⟩
def cf0:Cf:=⟨0,[],[],[],og0,og0⟩
structure Sk where
 fl:Nm->Fl
 l:FS
 c:FC
 ms:List Mb
 all:Bool
namespace Sk
section
variable (s:Sk)
def cs:List Cm:=comes s.fl s.l s.c
def cf (k:Int) (n:Nm) (a b:Og):Cf:=⟨k,s.c.name,n,[],a,b⟩
def fro (i:Nat) (n:Nm):List Cm:=(under s.cs n).filter λx=>x.par == i
def pairs {α : Type} (l:List α) (is : α -> α -> Bool) (f : α -> α -> Cf):List Cf :=
 l.zipIdx.flatMap λa=>l.zipIdx.flatMap λb=>if a.2=b.2∨(s.all=false/\b.2<a.2)∨is a.1 b.1=false then [] else [f a.1 b.1]
def cut (r:List Cf):List Cf:=if s.all then r else r.take 1
def cpairs (l:List Cm) (k:Int) (is:Cm->Cm->Bool):List Cf:=s.cut (s.pairs l is λa b=>s.cf k a.mem.name a.og b.og)
def pz:List (Pt×Nat):=s.c.pars.zipIdx
def lost:List Cf :=
 (s.pz.flatMap λp=>(p.1.ren.flatMap λr=>if (dI (s.fl p.1.name).mems r.fro).isNone then [s.cf 1 r.fro ⟨p.1.name,r.fro⟩ og0] else []) ++
  (p.1.und++p.1.red++p.1.sel).flatMap λn=>if s.fro p.2 n=[] then [s.cf 1 n ⟨p.1.name,n⟩ og0] else []) ++
 (s.c.pars.flatMap λp=>p.und.flatMap λn=>if p.red.contains n then [s.cf 2 n ⟨p.name,n⟩ og0] else []) ++
 (s.pz.flatMap λp=>(s.fl p.1.name).mems.flatMap λm=>if 1<(s.fro p.2<|bN p.1 m.name).length then s.cpairs (s.fro p.2<|bN p.1 m.name) 3 (λ_ _=>true) else []) ++
 (s.pz.flatMap λp=>p.1.und.flatMap λn=>(s.fro p.2 n).flatMap λx=>if x.was≠2 then [s.cf 4 n x.og og0] else []) ++
 (s.c.pars.flatMap λp=>p.red.flatMap λn=>if (feat s.c n).isNone then [s.cf 5 n ⟨p.name,n⟩ og0] else [])
def skeys:List Nm:=srt (keys s.cs)
def redK (f:Fe) (x:Cm):Nat->Bool
 | 0=>x.mem.kind == 1
 | 1 => !x.dfd && !(dF s.c x.par).red.contains f.name
 | _=>f.kind == 3 && !x.dfd
def redeclared:List Cf:=[0,1,2].flatMap λk=>s.skeys.flatMap λn=>match feat s.c n with
 | none=>[]
 | some f=>(under s.cs n).flatMap λx=>if s.redK f x k then [s.cf (6+k) n x.og og0] else []
def sameTy (a b:Mb):Bool:=decide (a.args=b.args) && decide (a.ty=b.ty)
def same (a b:Mb):Bool:=(decide (a.impl=b.impl) && decide (a.seeds=b.seeds)) && sameTy a b
def typed : List Cf :=
 (s.skeys.flatMap λn=>(under s.cs n).flatMap λx=>match feat s.c n with
  | none=>let y:=((under s.cs n).head?).getD x
   if sameTy y.mem x.mem then [] else [s.cf 9 n y.og x.og]
  | some f=>if decide (f.args=x.mem.args) && ((f.ty.kind == 0) == (x.mem.ty.kind == 0)) then [] else [s.cf 9 n ⟨[],n⟩ x.og]) ++
 (s.skeys.flatMap λn=>if (feat s.c n).isSome then [] else s.cpairs (under s.cs n) 10 λa b=>(!a.dfd && !b.dfd) && !same a.mem b.mem)
def seeds:List Sd:=ry (s.ms.flatMap λm=>m.seeds)
def sel (d:Sd):Nm×Bool:=eT s.fl s.l s.l.length s.c s.ms d
def chosen:List Cf :=
 (s.seeds.flatMap λd=>if (s.sel d).2 then [] else s.cut (s.pairs (bn s.ms d) (λ_ _=>true) λa b=>⟨11,s.c.name,a,b,⟨d.cls,d.name⟩,og0⟩)) ++
 (s.pz.flatMap λp=>p.1.sel.flatMap λn=>if s.fro p.2 n≠[]/\(((dI s.ms n).getD mb0).seeds.any λd=>decide (1<(bn s.ms d).length))=false then [s.cf 12 n ⟨p.1.name,n⟩ og0] else []) ++
 (s.ms.flatMap λm=>if s.c.dfd=false/\m.kind=3 then [s.cf 13 m.name og0 og0] else [])
def apart:List Cf:=s.seeds.flatMap λd=>s.pairs (s.ms.filter λm=>m.seeds.contains d) (λa b => !sameTy a b) λa b=>⟨14,s.c.name,a.name,b.name,⟨d.cls,d.name⟩,og0⟩
def conflicts:List Cf:=s.lost++(s.redeclared++(s.typed++(s.chosen++s.apart)))
end
end Sk
structure Bd where
 order:List Nm
 fl:Nm->Fl
 clash:Cf
 err:Int
def look (fs:List (Nm×Fl)) (n:Nm):Fl:=((fs.find? λp=>p.1 == n).map (·.2)).getD fl0
def lV (l:FS) (fs:List (Nm×Fl)) (n:Nm):List Mb:=members (comes (look fs) l<|ae l n) (ae l n)
def rC (l:FS) (fs:List (Nm×Fl)) (n:Nm) (all:Bool):Sk:=⟨look fs,l,ae l n,lV l fs n,all⟩
def lW (l:FS):List Nm->List (Nm×Fl)->List (Nm×Fl)×Cf×Int
 | [],fs=>(fs,cf0,0)
 | n::t,fs=>match (rC l fs n false).conflicts with
  | x::_=>(fs,x,10)
  | []=>if over (lV l fs n) then (fs,cf0,3) else lW l t (fs++[(n,flatOf l (ae l n) (lV l fs n))])
def build (l:FS):List (Nm×Fl)×Cf×Int:=lW l (order<|bC l) []
def flF (l:FS):Nat->Nm->Fl
 | 0,_=>fl0
 | n+1,c=>flatOf l (ae l c) (members (comes (flF l n) l (ae l c)) (ae l c))
def FL (l:FS) (c:Nm):Fl:=flF l (l.length+1) c
def msF (l:FS) (c:Nm):List Mb:=members (comes (FL l) l<|ae l c) (ae l c)
def skF (l:FS) (c:Nm) (all:Bool):Sk:=⟨FL l,l,ae l c,msF l c,all⟩
def vO (l:FS) (c:Nm) (all:Bool):List Cf:=(skF l c all).conflicts
section
variable {l:FS}
theorem kr:(bC l).length=l.length:=by simp [bC]
theorem Cy (c:Nm):Hr.find (bC l) c=(bQ l c).map FC.cls:=by
 unfold Hr.find bC bQ
 rw [List.find?_map]; rfl
theorem ed (c:Nm):isC (bC l) c=(bQ l c).isSome:=by unfold isC; rw [Cy]; cases bQ l c <;> rfl
theorem pM {c:Nm} {x:FC} (h:bQ l c=some x):x.name=c:=by simpa using List.find?_some h
theorem iI {c:Nm} {x:FC} (h:bQ l c=some x):ae l c=x:=by unfold ae; rw [h]; rfl
theorem vR {c:Nm} (h:bQ l c=none):ae l c=Bb:=by unfold ae; rw [h]; rfl
theorem Lc (c:Nm):pars (bC l) c=(ae l c).pars.map λp=>p.name:=by
 unfold pars; rw [Cy]
 cases h:bQ l c with
 | none=>rw [vR h]; rfl
 | some x=>rw [iI h]; rfl
theorem zY (hr:Right (bC l)) (c:Nm):par (bC l) c=(ae l c).pars.map λp=>p.name:=by rw [<- hr.pars_eq,Lc]
theorem eY (hr:Right (bC l)) {c:Nm} {p:Pt} (hp:p∈(ae l c).pars):p.name∈par (bC l) c:=by rw [zY hr]; exact List.mem_map.2 ⟨p,hp,rfl⟩
theorem yT {α : Type} {xs:List α} {q : α × Nat} (h:q∈xs.zipIdx):q.1∈xs:=by
 obtain ⟨x,i⟩:=q
 exact List.mem_of_getElem?<|List.mem_zipIdx_iff_getElem?.1 h
theorem dG {α β : Type} {f g : α -> List β}:∀ {xs:List α},(∀ x∈xs,f x=g x)->xs.flatMap f=xs.flatMap g
 | [],_=>rfl
 | a::t,h=>by rw [List.flatMap_cons,List.flatMap_cons,h a (by simp),dG λx hx=>h x (by simp [hx])]
theorem oK {α β : Type} {f g : α -> Option β}:∀ {xs:List α},(∀ x∈xs,f x=g x)->xs.filterMap f=xs.filterMap g
 | [],_=>rfl
 | a::t,h=>by rw [List.filterMap_cons,List.filterMap_cons,h a (by simp),oK λx hx=>h x (by simp [hx])]
theorem rD (ha:gJ (bC l)) {c p:Nm} (h:p∈par (bC l) c):has (bC l) c p=true/\p≠c:=⟨rR h,λe=>by have:=iM ha h; rw [e] at this; omega⟩
theorem FX (ha:gJ (bC l)) {c p a:Nm} (h:p∈par (bC l) c) (h2:has (bC l) p a=true):has (bC l) c a=true/\a≠c:=⟨nN (rR h) h2,λe=>by
 have:=iM ha h
 rcases has_rk ha h2 with h3 | h3
 ·rw [e] at h3; rw [h3] at this; omega
 ·rw [e] at h3; omega⟩
theorem jl {fl:Nm->Fl} {c:FC} {x:Cm} (h:x∈comes fl l c):∃ p,c.pars[x.par]? = some p/\∃ m∈(fl p.name).mems,x=ru (ae l p.name).forms x.par p m:=by
 unfold comes at h
 obtain ⟨⟨p,i⟩,hq,hx⟩:=List.mem_flatMap.1 h
 obtain ⟨m,hm,rfl⟩:=List.mem_map.1 hx
 exact ⟨p,List.mem_zipIdx_iff_getElem?.1 hq,m,hm,rfl⟩
theorem rE {fl:Nm->Fl} {c:FC} {s:Sd} {i:Nat} (h:i∈bX (having (comes fl l c) s)):dF c i∈c.pars:=by
 obtain ⟨x,hx,rfl⟩:=pJ.1 h
 obtain ⟨p,hp,_⟩:=jl (List.mem_filter.1 hx).1
 unfold dF; rw [hp]
 exact List.mem_of_getElem? hp
theorem jm {fl fl':Nm->Fl} {c:FC} (h:∀ p∈c.pars,fl p.name=fl' p.name):comes fl l c=comes fl' l c:=by
 unfold comes
 refine dG λq hq=>?_
 rw [h q.1 (yT hq)]
theorem FY (hr : Right (bC l)) : ∀ (f g : Nat) (c : Nm), rk (bC l) c < f -> rk (bC l) c < g -> flF l f c = flF l g c
 | 0,_,_,h,_=>by omega
 | _+1,0,_,_,h=>by omega
 | f+1,g+1,c,h1,h2=>by
  have:comes (flF l f) l (ae l c)=comes (flF l g) l (ae l c):=jm λp hp=>by
   have:=iM hr.acyc<|eY hr hp
   exact FY hr f g p.name (by omega)<|by omega
  unfold flF
  rw [this]
theorem FZ (hr:Right (bC l)) (c:Nm):FL l c=flatOf l (ae l c) (msF l c):=by
 have:comes (flF l l.length) l (ae l c)=comes (FL l) l (ae l c):=jm λp hp=>by
  have h1:=iM hr.acyc<|eY hr hp
  have h2:=qI (bC l) c
  rw [kr] at h2
  exact FY hr _ _ _ (by omega)<|by omega
 show flatOf l (ae l c) (members (comes (flF l l.length) l<|ae l c)<|ae l c)=_
 rw [this]; rfl
theorem jC (hr:Right (bC l)) (c:Nm):(FL l c).mems=msF l c:=by rw [FZ hr]; rfl
theorem FL_name (hr:Right (bC l)) (c:Nm):(FL l c).name=(ae l c).name:=by rw [FZ hr]; rfl

/-! ### What a class's conflicts depend on -/
theorem uh (hr : Right (bC l)) {fl fl' : Nm -> Fl} : ∀ (n : Nat) (c : Nm) (ms : List Mb) (s : Sd), (∀ a, has (bC l) c a = true -> a ≠ c -> fl a = fl' a) -> eT fl l n (ae l c) ms s = eT fl' l n (ae l c) ms s
 | 0, c, ms, s, h => by
  have hc:comes fl l (ae l c)=comes fl' l (ae l c):=jm λp hp=>h _ (rD hr.acyc<|eY hr hp).1 (rD hr.acyc<|eY hr hp).2
  unfold eT
  rw [hc]
  split
  ·rfl
  ·simp only []
   split
   ·rfl
   ·split
    ·rename_i h2; cases h2
    ·rfl
 | n + 1, c, ms, s, h => by
  have hp1:∀ p∈(ae l c).pars,fl p.name=fl' p.name:=λp hp=>h _ (rD hr.acyc<|eY hr hp).1 (rD hr.acyc<|eY hr hp).2
  have hc:comes fl l (ae l c)=comes fl' l (ae l c):=jm hp1
  unfold eT
  rw [hc]
  split
  ·rfl
  ·simp only []
   split
   ·rfl
   ·split
    ·rename_i i t n' h1 h2
     cases h2
     have hi:i∈bX (having (comes fl' l<|ae l c) s):=by rw [h1]; simp
     have hpm:dF (ae l c) i∈(ae l c).pars:=rE hi
     have hpp:=eY hr hpm
     rw [hp1 _ hpm,uh hr n (dF (ae l c) i).name _ s λa ha hne=>h a (FX hr.acyc hpp ha).1 (FX hr.acyc hpp ha).2]
    ·rfl
end
section
variable {l:FS}
theorem Cz {fl fl' : Nm -> Fl} {l' : FS} {c : FC} {ms : List Mb} {all : Bool} (hc : comes fl l c = comes fl' l' c) (hp1 : ∀ p ∈ c.pars, fl p.name = fl' p.name) (h6 : ∀ d, (Sk.mk fl l c ms all).sel d = (Sk.mk fl' l' c ms all).sel d) :
  (Sk.mk fl l c ms all).conflicts=(Sk.mk fl' l' c ms all).conflicts:=by
 have h1:(Sk.mk fl l c ms all).cs=(Sk.mk fl' l' c ms all).cs:=hc
 have h2:∀ i n,(Sk.mk fl l c ms all).fro i n=(Sk.mk fl' l' c ms all).fro i n:=λi n=>by unfold Sk.fro; rw [h1]
 have h3 : (Sk.mk fl l c ms all).lost = (Sk.mk fl' l' c ms all).lost := by
  have k1:∀ p∈c.pars.zipIdx,fl p.1.name=fl' p.1.name:=λp hp=>hp1 _<|yT hp
  unfold Sk.lost
  congr 1
  ·congr 1
   ·congr 1
    ·congr 1
     refine dG λp hp=>?_
     have:=k1 p hp
     simp only [h2,this]
     rfl
    ·refine dG λp hp=>?_
     have:=k1 p hp
     simp only [h2,this]
     rfl
   ·refine dG λp hp=>?_
    simp only [h2]
    rfl
 have h4:(Sk.mk fl l c ms all).redeclared=(Sk.mk fl' l' c ms all).redeclared:=by
  unfold Sk.redeclared Sk.skeys
  simp only [h1]
  rfl
 have h5:(Sk.mk fl l c ms all).typed=(Sk.mk fl' l' c ms all).typed:=by
  unfold Sk.typed Sk.skeys
  simp only [h1]
  rfl
 have h7:(Sk.mk fl l c ms all).chosen=(Sk.mk fl' l' c ms all).chosen:=by
  unfold Sk.chosen
  simp only [h6,h2]
  rfl
 unfold Sk.conflicts
 rw [h3,h4,h5,h7]; rfl
theorem Io (hr:Right (bC l)) {fl fl':Nm->Fl} {c:Nm} {ms:List Mb} {all:Bool} (h:∀ a,has (bC l) c a=true->a≠c->fl a=fl' a):(Sk.mk fl l (ae l c) ms all).conflicts=(Sk.mk fl' l (ae l c) ms all).conflicts :=
 have hp1:∀ p∈(ae l c).pars,fl p.name=fl' p.name:=λp hp=>h _ (rD hr.acyc<|eY hr hp).1 (rD hr.acyc<|eY hr hp).2
 Cz (jm hp1) hp1 λd=>uh hr _ c ms d h
def forms (l:FS) (o:List Nm):List (Nm×Fl):=o.map λn=>(n,FL l n)
theorem pO {o:List Nm} {n:Nm} (h:n∈o):look (forms l o) n=FL l n:=by
 unfold look forms
 rw [List.find?_map]
 cases hf:o.find? ((λp:Nm×Fl=>p.1 == n) ∘ λn=>(n,FL l n)) with
 | none =>
  have:=List.find?_eq_none.1 hf n h
  simp at this
 | some x =>
  have hx:=List.find?_some hf
  simp only [Function.comp_apply,beq_iff_eq] at hx
  subst hx; rfl
theorem Ld {o:List Nm} {n:Nm} (h:n ∉ o):look (forms l o) n=fl0:=by
 unfold look forms
 rw [List.find?_map]
 cases hf:o.find? ((λp:Nm×Fl=>p.1 == n) ∘ λn=>(n,FL l n)) with
 | none=>rfl
 | some x =>
  have hx:=List.find?_some hf
  simp only [Function.comp_apply,beq_iff_eq] at hx
  exact absurd (hx ▸ List.mem_of_find?_eq_some hf) h
def Upto (l:FS) (o:List Nm) (n:Nm):Prop:=∀ a,has (bC l) n a=true->a≠n->a∈o
theorem tp_upto (ha:gJ (bC l)) {d t:List Nm} {n:Nm} (h:Tp (bC l) (d++n::t)):Upto l d n:=λa h1 h2=>by
 have hn:n∈d++n::t:=by simp
 have hm:=h.has hn h1
 rcases List.mem_append.1 hm with hm | hm
 ·exact hm
 rcases List.mem_cons.1 hm with hm | hm
 ·exact absurd hm h2
 ·obtain ⟨j,hj,rfl⟩:=List.getElem_of_mem hm
  have h3:=h.ahead d.length (d.length+1+j) (by omega) (by simp; omega)
  rw [List.getElem_append_right (by omega),List.getElem_append_right (by omega)] at h3
  simp only [Nat.sub_self,List.getElem_cons_zero,show d.length+1+j - d.length=j+1 by omega,List.getElem_cons_succ] at h3
  rw [h1] at h3; cases h3
theorem F3 (hr:Right (bC l)) {o:List Nm} {n:Nm} (h:Upto l o n):lV l (forms l o) n=msF l n:=by
 unfold lV msF
 rw [jm (fl':=FL l) λp hp=>pO (h _ (rD hr.acyc<|eY hr hp).1 (rD hr.acyc<|eY hr hp).2)]
theorem Ip (hr:Right (bC l)) {o:List Nm} {n:Nm} {all:Bool} (h:Upto l o n):(rC l (forms l o) n all).conflicts=vO l n all:=by
 unfold rC vO skF
 rw [F3 hr h]
 exact Io hr λa h1 h2=>pO<|h a h1 h2
def scan (l:FS):List Nm->List Nm×Cf×Int
 | []=>([],cf0,0)
 | n::t=>match vO l n false with
  | x::_=>([],x,10)
  | []=>if over (msF l n) then ([],cf0,3) else (n::(scan l t).1,(scan l t).2)
theorem CB (hr : Right (bC l)) : ∀ (t d : List Nm), Tp (bC l) (d ++ t) -> lW l t (forms l d) = (forms l (d ++ (scan l t).1), (scan l t).2)
 | [],d,_=>by simp [lW,scan]
 | n :: t, d, h => by
  have hu:=tp_upto hr.acyc h
  have h':Tp (bC l) (d++[n]++t):=by rw [List.append_assoc]; exact h
  unfold lW scan
  rw [Ip hr hu,F3 hr hu]
  cases hc:vO l n false with
  | cons x _=>simp only [List.append_nil]
  | nil =>
   simp only []
   split
   ·simp only [List.append_nil]
   ·rw [<- FZ hr,show forms l d++[(n,FL l n)]=forms l (d++[n]) by simp [forms],CB hr t (d++[n]) h',List.append_assoc]
    rfl
theorem F4 (hr:Right (bC l)):build l=(forms l (scan l (order (bC l))).1,(scan l (order (bC l))).2):=by
 have:=CB hr (order<|bC l) [] (jJ hr.acyc hr.uniq).1
 rw [List.nil_append] at this
 exact this
def okF (l:FS) (n:Nm):Prop:=vO l n false=[]/\over (msF l n)=false
theorem scan_ok {o:List Nm} (h:(scan l o).2.2=0):(scan l o).1=o/\(scan l o).2.1=cf0/\∀ n∈o,okF l n:=by
 induction o with
 | nil=>exact ⟨rfl,rfl,by simp⟩
 | cons n t ih =>
  unfold scan at h ⊢
  cases hc:vO l n false with
  | cons x _=>rw [hc] at h; cases h
  | nil =>
   rw [hc] at h
   simp only [] at h ⊢
   split at h
   ·cases h
   ·rename_i ho
    obtain ⟨h1,h2,h3⟩:=ih h
    rw [if_neg ho]
    refine ⟨by rw [h1],h2,λm hm=>?_⟩
    rcases List.mem_cons.1 hm with rfl | hm
    ·exact ⟨hc,by simpa using ho⟩
    ·exact h3 m hm
theorem F5 {o:List Nm} (h:∀ n∈o,okF l n):scan l o=(o,cf0,0):=by
 induction o with
 | nil=>rfl
 | cons n t ih =>
  obtain ⟨h1,h2⟩:=h n<|by simp
  unfold scan
  rw [h1,h2,ih λm hm=>h m (by simp [hm])]
  rfl
end
section
variable {fl:Nm->Fl} {l:FS} {c:FC} {ms:List Mb}
def Part (a b:List Cf):Prop:=(∀ x∈a,x∈b)/\(a=[]->b=[])
theorem Part.refl (a:List Cf):Part a a:=⟨λ_ h=>h,λh=>h⟩
theorem Part.app {a b a' b':List Cf} (h:Part a b) (h':Part a' b'):Part (a++a') (b++b'):=by
 refine ⟨λx hx=>?_,λhx=>?_⟩
 ·rcases List.mem_append.1 hx with hx | hx
  ·exact List.mem_append_left _<|h.1 x hx
  ·exact List.mem_append_right _<|h'.1 x hx
 ·obtain ⟨h1,h2⟩:=List.append_eq_nil_iff.1 hx
  rw [h.2 h1,h'.2 h2]; rfl
theorem Part.flat {α : Type} {f g : α -> List Cf} {xs:List α} (h:∀ x∈xs,Part (f x) (g x)):Part (xs.flatMap f) (xs.flatMap g):=by
 induction xs with
 | nil=>exact Part.refl _
 | cons a t ih =>
  rw [List.flatMap_cons,List.flatMap_cons]
  exact (h a<|by simp).app (ih λx hx=>h x<|by simp [hx])
theorem NN {s:Sk} {α : Type} {xs:List α} {is : α -> α -> Bool} {f : α -> α -> Cf} {x:Cf}:x∈s.pairs xs is f↔∃ (i k:Nat) (a b : α),xs[i]? = some a/\xs[k]? = some b/\i≠k/\(s.all=false->i<k)/\is a b=true/\x=f a b:=by
 unfold Sk.pairs
 constructor
 ·intro h
  obtain ⟨⟨a,i⟩,h1,h2⟩:=List.mem_flatMap.1 h
  obtain ⟨⟨b,k⟩,h3,h4⟩:=List.mem_flatMap.1 h2
  simp only [] at h4
  split at h4
  ·simp at h4
  ·rename_i hq
   simp only [not_or,not_and,Bool.not_eq_false] at hq
   obtain ⟨q1,q2,q3⟩:=hq
   simp only [List.mem_singleton] at h4
   exact ⟨i,k,a,b,List.mem_zipIdx_iff_getElem?.1 h1,List.mem_zipIdx_iff_getElem?.1 h3,q1,λh=>by have:=q2 h; omega,q3,h4⟩
 ·rintro ⟨i,k,a,b,h1,h2,h3,h4,h5,rfl⟩
  refine List.mem_flatMap.2 ⟨(a,i),List.mem_zipIdx_iff_getElem?.2 h1,List.mem_flatMap.2 ⟨(b,k),List.mem_zipIdx_iff_getElem?.2 h2,?_⟩⟩
  have hq:¬ (i=k∨(s.all=false/\k<i)∨is a b=false):=by
   simp only [not_or,not_and,Bool.not_eq_false]
   exact ⟨h3,λh=>by have:=h4 h; omega,h5⟩
  simp only []
  rw [if_neg hq]; simp
end
def lower (b:UInt8):Bool:=decide (97≤b.toNat) && decide (b.toNat≤122)
def okS (b:UInt8):Bool:=(lower b || digit b) || b.toNat == 95
def pQ : Nm := "true false void current result and as attached check class create deferred detachable do else end ensure feature from if implies inherit invariant local loop not old or put raise redefine rename require rescue retry select separate then undefine until variant when".toUTF8.data.toList
def rF:Nm->Nm->List Nm
 | [],w=>if w=[] then [] else [w]
 | b::t,w=>if b=32 then (if w=[] then rF t [] else w::rF t []) else rF t (w++[b])
def kws:List Nm:=rF pQ []
def small (s:Nm):Bool:=match s with
 | []=>false
 | b::_=>decide (s.length≤20) && lower b && s.all okS && !kws.contains s
def nG (xs:List Int):Int:=(xs.find? (· != 0)).getD 0
def wS (fs:List Fe) (q:Fe×Nat):Int :=
 if small q.1.name=false then 4 else if (fs.take q.2).any λg=>g.name == q.1.name then 6
 else if q.1.kind<1∨3<q.1.kind∨(q.1.kind=1/\(q.1.args≠[]∨q.1.ty.kind=0)) then 2 else 0
def zZ (c:FC):Int:=if 60<c.feats.length then 3 else nG (c.feats.zipIdx.map<|wS c.feats)
def F6 (p:Pt):Int:=if p.ren.any λx => !small x.to then 4 else if (p.ren.map λx=>x.fro).Nodup then 0 else 6
def kL (l:FS) (c:FC):Int :=
 if 3<c.forms.length then 3 else if ¬ (c.forms.map λf=>f.name).Nodup then 6
 else if c.pars.any λp=>decide (p.args.length≠(ae l p.name).forms.length) then 2
 else if zZ c≠0 then zZ c else nG (c.pars.map F6)
def bT (l:FS):Int×Nm :=
 if (check<|bC l).1≠0 then check (bC l) else match (l.map λc=>(kL l c,c.name)).find? λe=>e.1 != 0 with
  | some e=>e
  | none=>(0,[])
structure FRight (l:FS):Prop where
 sys:Right (bC l)
 form:∀ c∈l,kL l c=0
theorem jo {l:FS}:(bT l).1=0↔FRight l:=by
 unfold bT
 split
 ·rename_i h
  exact ⟨λh2=>absurd h2 h,λh2=>absurd (oO.2 h2.sys) h⟩
 ·rename_i h
  have h:=Classical.not_not.1 h
  split
  ·rename_i e he
   have h1:=List.find?_some he
   obtain ⟨c,hc,rfl⟩:=List.mem_map.1<|List.mem_of_find?_eq_some he
   simp only [bne_iff_ne,ne_eq] at h1
   exact ⟨λh2=>absurd h2 h1,λh2=>absurd (h2.form c hc) h1⟩
  ·rename_i hn
   refine ⟨λ_=>⟨oO.1 h,λc hc=>?_⟩,λ_=>rfl⟩
   have:=List.find?_eq_none.1 hn (kL l c,c.name)<|List.mem_map.2 ⟨c,hc,rfl⟩
   simpa using this
theorem xO {xs:List Int}:nG xs=0↔∀ x∈xs,x=0:=by
 unfold nG
 cases h:xs.find? (· != 0) with
 | none=>exact ⟨λ_ x hx=>by simpa using List.find?_eq_none.1 h x hx,λ_=>rfl⟩
 | some e =>
  have h1:=List.find?_some h
  simp only [bne_iff_ne,ne_eq] at h1
  exact ⟨λh2=>absurd h2 h1,λh2=>absurd (h2 e<|List.mem_of_find?_eq_some h) h1⟩
structure CRight (l:FS) (c:FC):Prop where
 few:c.forms.length≤3
 once:(c.forms.map λf=>f.name).Nodup
 args:∀ p∈c.pars,p.args.length=(ae l p.name).forms.length
 feats:c.feats.length≤60
 names:(c.feats.map λf=>f.name).Nodup
 fsmall:∀ f∈c.feats,small f.name=true
 fkind:∀ f∈c.feats,1≤f.kind/\f.kind≤3/\(f.kind=1->f.args=[]/\f.ty.kind≠0)
 tosmall:∀ p∈c.pars,∀ x∈p.ren,small x.to=true
 ren:∀ p∈c.pars,(p.ren.map λx=>x.fro).Nodup
theorem Iq {fs:List Fe} (h:∀ (i:Nat) (f:Fe),fs[i]? = some f->((fs.take i).any λg=>g.name == f.name)=false):(fs.map λf=>f.name).Nodup:=by
 rw [List.nodup_iff_pairwise_ne,List.pairwise_iff_getElem]
 intro i j hi hj hij
 simp only [List.length_map] at hi hj
 rw [List.getElem_map,List.getElem_map]
 intro e
 have h1:=h j fs[j]<|List.getElem?_eq_getElem hj
 have:fs[i]∈fs.take j:=by rw [List.mem_take_iff_getElem]; exact ⟨i,by omega,rfl⟩
 have h2:=List.any_eq_false.1 h1 _ this
 simp [e] at h2
theorem gB {l:FS} {c:FC} (h:kL l c=0):CRight l c:=by
 unfold kL at h
 split at h
 ·cases h
 rename_i q1
 split at h
 ·cases h
 rename_i q2
 split at h
 ·cases h
 rename_i q3
 split at h
 ·rename_i q; exact absurd h q
 rename_i q4
 have q4:=Classical.not_not.1 q4
 unfold zZ at q4
 split at q4
 ·cases q4
 rename_i q5
 have h1:=xO.1 q4
 have h2:=xO.1 h
 have h3:∀ (i:Nat) (f:Fe),c.feats[i]? = some f->wS c.feats (f,i)=0:=λi f hf=>h1 _<|List.mem_map.2 ⟨(f,i),List.mem_zipIdx_iff_getElem?.2 hf,rfl⟩
 have h4:∀ (i:Nat) (f:Fe),c.feats[i]? = some f->small f.name=true/\((c.feats.take i).any λg=>g.name == f.name)=false/\1≤f.kind/\f.kind≤3/\(f.kind=1->f.args=[]/\f.ty.kind≠0):=λi f hf=>by
  have:=h3 i f hf
  unfold wS at this
  simp only [] at this
  split at this
  ·cases this
  rename_i k1
  split at this
  ·cases this
  rename_i k2
  split at this
  ·cases this
  rename_i k3
  simp only [not_or,not_and] at k3
  exact ⟨by simpa using k1,by simpa using k2,by omega,by omega,λhk=>⟨Classical.not_not.1 (k3.2.2 hk).1,(k3.2.2 hk).2⟩⟩
 have h5:∀ p∈c.pars,F6 p=0:=λp hp=>h2 _<|List.mem_map.2 ⟨p,hp,rfl⟩
 have h6:∀ p∈c.pars,(p.ren.any λx => !small x.to)=false/\(p.ren.map λx=>x.fro).Nodup:=λp hp=>by
  have:=h5 p hp
  unfold F6 at this
  split at this
  ·cases this
  rename_i k1
  split at this
  ·rename_i k2; exact ⟨by simpa using k1,k2⟩
  ·cases this
 refine ⟨by omega,Classical.not_not.1 q2,λp hp=>?_,by omega,Iq λi f hf=>(h4 i f hf).2.1,λf hf=>?_,λf hf=>?_,λp hp x hx=>?_,λp hp=>(h6 p hp).2⟩
 ·have:=List.any_eq_false.1 (Bool.not_eq_true _ ▸ q3) p hp
  simpa using this
 ·obtain ⟨i,hi,rfl⟩:=List.getElem_of_mem hf
  exact (h4 i _<|List.getElem?_eq_getElem hi).1
 ·obtain ⟨i,hi,rfl⟩:=List.getElem_of_mem hf
  exact (h4 i _<|List.getElem?_eq_getElem hi).2.2
 ·have:=List.any_eq_false.1 (h6 p hp).1 x hx
  simpa using this

/-! ### What the calls return -/
def kG (l:FS):Cf×Bool×Int :=
 if (bT l).1≠0 then (cf0,false,(bT l).1) else if (build l).2.2=3 then (cf0,false,3) else ((build l).2.1,(build l).2.2 == 10,0)
def wholeE (l:FS) (ns:List Nm):Int:=if (bT l).1≠0 then (bT l).1 else if ns.all (λn=>(bQ l n).isSome) then (build l).2.2 else 5
def dR (l:FS):List Fl×Int:=if wholeE l []≠0 then ([],wholeE l []) else ((build l).1.map λp=>p.2,0)
def tq (l:FS) (x:Cf):List Nm->List (Nm×Fl)->Int
 | [],_=>11
 | n::t,fs=>if n=x.cls then (if (rC l fs n true).conflicts.contains x then 0 else 11)
  else if (rC l fs n false).conflicts≠[] then 11 else if over (lV l fs n) then 11 else tq l x t (fs++[(n,flatOf l (ae l n) (lV l fs n))])
def lX (l:FS) (x:Cf):Int:=if (bT l).1≠0 then (bT l).1 else if (bQ l x.cls).isNone then 11 else tq l x (above (bC l) x.cls) []
section
variable {l:FS}
theorem il (hr:Right (bC l)) {n:Nm}:n∈order (bC l)↔(bQ l n).isSome=true:=by
 rw [(jJ hr.acyc hr.uniq).2,<- ed,fJ]
theorem CE (h:(bT l).1≠0):kG l=(cf0,false,(bT l).1)/\dR l=([],(bT l).1)/\∀ x,lX l x=(bT l).1:=by
 have hw:wholeE l []=(bT l).1:=by unfold wholeE; rw [if_pos h]
 exact ⟨by unfold kG; rw [if_pos h],by unfold dR; rw [hw,if_pos h],λx=>by unfold lX; rw [if_pos h]⟩
theorem z8 (h:(bT l).1=0):kG l=(if (build l).2.2=3 then (cf0,false,3) else ((build l).2.1,(build l).2.2 == 10,0))/\(dR l).2=(build l).2.2:=by
 have h':¬ (bT l).1≠0:=λh2=>h2 h
 have hw:wholeE l []=(build l).2.2:=by unfold wholeE; rw [if_neg h']; rfl
 refine ⟨by unfold kG; rw [if_neg h'],?_⟩
 unfold dR; rw [hw]
 split
 ·rfl
 ·rename_i h; exact (Classical.not_not.1 h).symm
end
end Go.Fl
