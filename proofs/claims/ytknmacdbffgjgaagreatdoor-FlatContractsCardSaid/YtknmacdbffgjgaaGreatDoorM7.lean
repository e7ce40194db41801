/-
  What a member of an ancestor becomes in a class: its seeds,arguments,groups; seeds that are selected; versions. The laws of seeds and of contracts. No program in sight.
-/
import Derived.Test.YtknmacdbffgjgaaGreatDoorM5
import Derived.Test.YtknmacdbffgjgaaGreatDoorM4
import Derived.JoinedCond
import Derived.SizedLaws
import Derived.Test.YtknmacdbffgjgaaGreatDoorM1
set_option linter.unusedVariables false
set_option linter.unusedSimpArgs false
set_option maxRecDepth 100000
set_option maxHeartbeats 16000000
namespace Go.Ck
open Go Go.RowKit Go.ChangeShapes Go.WideShapes
theorem cells_one {v:Value} (h:v.oneCell'=true):v.cells.toList=[v]:=by
 cases v <;> first | rfl | (simp [Value.oneCell'] at h)
theorem row_of {α : Type} {r:Res} {t:Ty} {v:Value} (f:t.D -> α) (X:List Value -> α -> Prop) (hX:∀ us x,Rep r t us x->X us (f x)) {y:(Ty.slice t).D} (h:Rep r (.slice t) [v] y):Row r t.sz X v ((show List t.D from y).map f):=by
 unfold Rep at h
 obtain ⟨a,cap,h1,hl,hm,hn,h2⟩:=h
 refine ⟨a,cap,by rw [List.length_map]; exact (List.cons.inj h1).1,by rw [List.length_map]; exact hl,hm,hn,λi x hi=>?_⟩
 rw [List.getElem?_map] at hi
 cases hy:(show List t.D from y)[i]? with
 | none=>rw [hy] at hi; cases hi
 | some z =>
  rw [hy] at hi
  obtain rfl:=Option.some.inj hi
  rcases h2 with h0 | ⟨b,o,h3,h4⟩
  ·rw [show (show List t.D from y)=[] from h0] at hy; simp at hy
  ·obtain ⟨us,h5,h6,h7⟩:=h4 i z hy
   exact ⟨b,o,us,h3,h5,h6,hX _ _ h7⟩
theorem one_cell {us:List Value} (h:us.length=1):∃ u,us=[u]:=by
 match us,h with
 | [u],_=>exact ⟨u,rfl⟩
end Go.Ck
namespace Go.Hr
open Go Go.RowKit Go.ChangeShapes Go.WideShapes Go.Ck
def FP:List TypeId:=[3,4,9,25,59,62,185,186,188,189,191,192,194,196,198,201,203]
def Az:Ty:=.struct [.str,.slice (.any 5 FP),.slice (.any 2 FP),.slice .str,.slice .str,.slice .str]
def yF:Ty:=.struct [.str,.bool,.slice (.any 2 FP),.slice Az,.slice .str,.slice (.any 15 FP),.slice (.any 5 FP)]
def nmOf (s:ByteArray):Nm:=s.data.toList
def parOf (x:Az.D):Nm:=nmOf (show ByteArray from x.1)
def clsOf (x:yF.D):Cls:=⟨nmOf (show ByteArray from x.1),(show List Az.D from x.2.2.2.1).map parOf,(show List Unit from x.2.2.2.2.2.1).length⟩
def sysOf (y:(Ty.slice yF).D):Sys:=(show List yF.D from y).map clsOf
theorem parC_of {r:Res} {us:List Value} {x:Az.D} (h:Rep r Az us x):parC us (parOf x):=by
 obtain ⟨x1,x2,x3,x4,x5,x6,x7⟩:=x
 simp only [Az,Rep,Reps] at h
 obtain ⟨u1,us1,e1,l1,r1,h⟩:=h
 obtain ⟨u2,us2,e2,l2,r2,h⟩:=h
 obtain ⟨u3,us3,e3,l3,r3,h⟩:=h
 obtain ⟨u4,us4,e4,l4,r4,h⟩:=h
 obtain ⟨u5,us5,e5,l5,r5,h⟩:=h
 obtain ⟨u6,us6,e6,l6,r6,h⟩:=h
 have r1:=r1.1
 obtain ⟨a2,c2,g2,_⟩:=r2
 obtain ⟨a3,c3,g3,_⟩:=r3
 obtain ⟨a4,c4,g4,_⟩:=r4
 obtain ⟨a5,c5,g5,_⟩:=r5
 obtain ⟨a6,c6,g6,_⟩:=r6
 subst h r1 g2 g3 g4 g5 g6 e6 e5 e4 e3 e2
 exact ⟨_,_,_,_,_,e1,Z⟩
theorem cls_of {r:Res} {us:List Value} {x:yF.D} (h:Rep r yF us x):clsC r us (clsOf x):=by
 obtain ⟨x1,x2,x3,x4,x5,x6,x7,x8⟩:=x
 simp only [yF,Rep,Reps] at h
 obtain ⟨u1,us1,e1,l1,r1,h⟩:=h
 obtain ⟨u2,us2,e2,l2,r2,h⟩:=h
 obtain ⟨u3,us3,e3,l3,r3,h⟩:=h
 obtain ⟨u4,us4,e4,l4,r4,h⟩:=h
 obtain ⟨u5,us5,e5,l5,r5,h⟩:=h
 obtain ⟨u6,us6,e6,l6,r6,h⟩:=h
 obtain ⟨u7,us7,e7,l7,r7,h⟩:=h
 obtain ⟨p4,rfl⟩:=one_cell l4
 have s4:Rep r (.slice Az) [p4] x4:=by simp only [Rep]; exact r4
 have r1:=r1.1
 obtain ⟨a3,c3,g3,_⟩:=r3
 obtain ⟨a4,c4,g4,_⟩:=r4
 obtain ⟨a5,c5,g5,_⟩:=r5
 obtain ⟨a6,c6,g6,_⟩:=r6
 obtain ⟨a7,c7,g7,_⟩:=r7
 have g4:=(List.cons.inj g4).1
 subst h r1 r2 g3 g4 g5 g6 g7 e7 e6 e5 e4 e3 e2
 exact ⟨_,_,_,_,_,_,_,e1,Z,row_of parOf parC (λ_ _ h=>parC_of h) s4⟩
theorem tT {r:Res} {v:Value} {y:(Ty.slice yF).D} (h:Rep r (.slice yF) [v] y):l8 r v (sysOf y):=row_of clsOf (clsC r) (λ_ _ h=>cls_of h) h
def nmsOf (y:(Ty.slice .str).D):List Nm:=(show List ByteArray from y).map nmOf
end Go.Hr
namespace Go.Ck
open Go Go.RowKit Go.ChangeShapes Go.WideShapes
section
variable {H:Type}
theorem qh {P:Program} {e:TypeId}:∀ {ds:List (DataW H)} {d:DataW H},d∈ds->∀ n∈d.weights P e,n∈DataW.weightsAll P e ds
 | d0::ds,d,hd,n,hn=>by
  simp only [DataW.weightsAll,List.mem_append]
  rcases List.mem_cons.1 hd with rfl | hd
  ·exact .inl hn
  ·exact .inr<|qh hd n hn
variable (enc:TypeId×Value->H) (P:Program) (W:World)
def Gd (n:Nat) (t:TypeId) (cs:List Value):Prop:=∃ x,DataW.trod enc P W 0 (λ_=>true) true n t cs=some x/\∀ m∈x.1.weights P t,m≤reachBytes
variable {enc P W}
theorem Gd.slice {n : Nat} {t e : TypeId} {cs : List Value} (h : Gd enc P W n t cs) (hu : P.underlying t = some (.slice e)) (hsz : 0 < P.cellsOf e) :
  cs=[.slice none 0 0]∨∃ a len cap m,n=m+1/\cs=[.slice (some a) len cap]/\len≤cap/\cap≤maxLen/\len * P.bytesOf e≤reachBytes /\
   ∀ i,i<len->∃ b o us,a=⟨b,o,none⟩/\us.length=P.cellsOf e/\Rds (old W) b (o+i * P.cellsOf e) us/\Gd enc P W m e us:=by
 obtain ⟨x,h,hz⟩:=h
 rcases DataW.trod_slice hu h with ⟨h0,_⟩ | ⟨a,len,cap,elems,rest,m,hn,h1,hx,_,hl,hc,hlen,hel,_⟩
 ·exact .inl h0
 ·refine .inr ⟨a, len, cap, m, hn, h1, hl, hc, ?_, λi hi => ?_⟩
  ·have:=hz ((elems.length+rest.length) * P.bytesOf e) (by rw [hx]; simp [DataW.weights,hu])
   rw [hlen] at this
   exact Nat.le_trans (Nat.mul_le_mul_right _<|Nat.le_add_right _ _) this
  ·have h2:=hel i hi
   rw [Zy (by omega),Option.bind_eq_some_iff] at h2
   obtain ⟨us,h3,h4⟩:=h2
   obtain ⟨h5,h6⟩:=wW h3
   have hspot:a.spot=none:=by
    have g2:=hel 0<|by omega
    rw [Zy (by omega),Option.bind_eq_some_iff] at g2
    obtain ⟨us0,g3,_⟩:=g2
    obtain ⟨g5,g6⟩:=wW g3
    have:=g6 0<|by omega
    simp only [Nat.zero_mul,Addr.add,if_true] at this
    exact (cell_spot this).1
   obtain ⟨ab,ao,asp⟩:=a
   simp only at hspot
   subst hspot
   refine ⟨ab,ao,us,Z,h5,λj hj=>?_,elems[i]'(by omega),h4,λk hk=>hz k ?_⟩
   ·have:=h6 j hj
    rw [Addr.add_lit,Addr.add_lit] at this
    exact MJ (cell_spot this).2 this
   ·rw [hx]
    simp only [DataW.weights,hu]
    exact List.mem_cons_of_mem _<|List.mem_append_left _<|qh (List.mem_map.2 ⟨_,List.getElem_mem (by omega),Z⟩) _ hk
theorem Gd.struct {n:Nat} {t:TypeId} {fs:Array Field} {cs:List Value} (h:Gd enc P W n t cs) (hu:P.underlying t=some (.struct fs)) :
  ∃ m,n=m+1/\cs.length=P.cellsOf t/\∀ (i:Nat) (f:Field),fs[i]? = some f->Gd enc P W m f.type ((cs.drop f.offset).take<|P.cellsOf f.type):=by
 obtain ⟨x,h,hz⟩:=h
 obtain ⟨xs,m,hn,hx,hcl,hxl,hfe⟩:=DataW.trod_struct hu h
 refine ⟨m,hn,hcl,λi f hf=>?_⟩
 have h1:=hfe i f hf
 have hlt:i<xs.length:=by rw [hxl]; exact (Array.getElem?_eq_some_iff.1 hf).1
 rw [Zy hlt] at h1
 refine ⟨xs[i],h1,λk hk=>hz k ?_⟩
 rw [hx]
 simp only [DataW.weights,hu]
 exact DataW.weights_mem_each (j:=i) (by rw [List.getElem?_map]; simp [hf]) (by rw [List.getElem?_map,Zy hlt]; rfl) _ hk
end
end Go.Ck
namespace Go.Ck
open Go Go.RowKit
theorem Nw {z:Array Value} {sz n:Nat} (hz:z.size=sz) (h0:0<sz):(madeCells z (n * sz)).toList=(List.replicate n z.toList).flatten:=by
 have hfl:((List.replicate n z.toList).flatten).length=n * sz:=by simp [hz]
 apply List.ext_getElem?
 intro i
 rcases Nat.lt_or_ge i (n * sz) with h | h
 ·have h1:i / sz<n:=Nat.div_lt_of_lt_mul (by rw [Nat.mul_comm]; exact h)
  have h2:=Nat.mod_lt i h0
  have h3:=o6 (rows:=List.replicate n z.toList) (sz:=sz) (m:=i / sz) (k:=i % sz) (r:=z.toList) (x:=z[i % sz]'(by omega)) (λr hr=>by rw [List.eq_of_mem_replicate hr]; simpa using hz) (by simp [h1])<|by simp [hz,h2]
  rw [Nat.div_add_mod' i sz] at h3
  rw [h3]
  simp [madeCells,h,hz,h2]
 ·rw [List.getElem?_eq_none (by simp [madeCells]; omega),List.getElem?_eq_none (by omega)]
section
variable {c:Cx} {ops:Array Oper} {K:Act->World->Prop} {rest:List Oper} {e:Env} {h:SH}
theorem Ny {d : Nat} {T E ty : TypeId} {x y : Operand} {pos : String} {after : Array Edge} {z : Value} {sz bytes n : Nat} {i : Int} (hx : e.ev? x = some (.int .i64 i)) (hy : e.ev? y = some (.int .i64 i)) (hn : i = (n : Int))
  (hT:c.P.underlying T=some (.slice E)) (hE:Inf c.P E z sz bytes) (hz:z.cells.size=sz) (h0:0<sz) (hb:bytes * n≤281474976710656) (h63:n≤maxLen) (hd:d<c.n)
  (hnx:∀ b,St c ops K rest ((d,.slice (some ⟨b,0,none⟩) n n)::e) (pt b (cl ((List.replicate n z.cells.toList).flatten) E)::h)) :
  St c ops K (⟨some d,.makeSlice T x y,ty,pos,after,none⟩::rest) e h :=
 ek (by simp) λa w hk hh hs=>by
  obtain ⟨ie,h1,h2,h3,h4⟩:=hE.parts
  have hml:maxLen=9223372036854775807:=rfl
  subst hn
  have hm:=run_make (P:=c.P) w T E ie z hT h1 h2 .i64 .i64 n n (by omega) (by omega) (by rw [h4]; have h:=Int.ofNat_le.2 hb; rw [Int.natCast_mul] at h; omega)<|by omega
  have hcl:(Obj.cells (madeCells z.cells ((n:Int).toNat * ie.size)) E)=cl ((List.replicate n z.cells.toList).flatten) E:=by
   simp only [cl,h3,Int.toNat_natCast,Obj.cells.injEq,and_true]
   apply Array.ext'
   rw [Nw hz h0]
  rw [hcl] at hm
  simp only [Int.toNat_natCast] at hm
  simp only [execOp,hk.ev hx,hk.ev hy,Sem.run_bind,hm,Result.andThen_ok,Sem.run_pure]
  exact hnx _ _ _ (hk.put _ hd) (Holds.alloc hh _)<|hs.trans (Grew.alloc _ _ Z).toSame
theorem AA {sz:Nat}:∀ {rows:List (List Value)},(∀ r∈rows,r.length=sz)->rows.flatten.length=rows.length * sz
 | [],_=>by simp
 | r::t,h=>by
  rw [List.flatten_cons,List.length_append,h r (by simp),AA (rows:=t) λq hq=>h q (by simp [hq]),List.length_cons,Nat.succ_mul]; omega
theorem mH {sz:Nat} {vs:List Value} (hv:vs.length=sz):∀ {rows:List (List Value)} {m:Nat},(∀ r∈rows,r.length=sz)->m<rows.length->splice rows.flatten (m * sz) vs=(rows.set m vs).flatten
 | [],m,_,hm=>by simp at hm
 | r::t,0,h,_=>by
  have hr:=h r<|by simp
  simp [splice,hv,<- hr]
 | r::t,m+1,h,hm=>by
  have hr:=h r<|by simp
  have ih:=mH hv (rows:=t) (m:=m) (λq hq=>h q<|by simp [hq])<|by simpa using hm
  have ht:=AA (sz:=sz) (rows:=t) λq hq=>h q<|by simp [hq]
  rw [List.set_cons_succ,List.flatten_cons,List.flatten_cons,<- ih]
  unfold splice
  rw [Nat.succ_mul,show m * sz+sz=r.length+m * sz by omega]
  rw [List.take_length_add_append,show r.length+m * sz+vs.length=r.length+(m * sz+vs.length) by omega,List.drop_length_add_append]
  simp
end
end Go.Ck
namespace Go.Ck
open Go Go.RowKit Go.ChangeShapes Go.WideShapes
def oneB (P:Program) (L:List TypeId):Bool:=L.all λt=>match P.underlying t with
 | some (.int _)=>true
 | some .bool=>true
 | some .string=>true
 | some (.slice _)=>true
 | some (.struct fs)=>(List.range (P.cellsOf t)).all λk=>fs.toList.any λf=>L.contains f.type && Nat.ble f.offset k && Nat.blt k (f.offset+P.cellsOf f.type)
 | _=>false
theorem Gd.one {H : Type} {enc : TypeId × Value -> H} {P : Program} {W : World} {L : List TypeId} (hL : oneB P L = true) : ∀ (n : Nat) (t : TypeId) (cs : List Value), t ∈ L -> Gd enc P W n t cs -> ∀ u ∈ cs, u.oneCell' = true
 | 0,t,cs,_,⟨x,h,_⟩=>by simp [DataW.trod] at h
 | n + 1, t, cs, ht, hg => by
  have hc:=List.all_eq_true.1 hL t ht
  obtain ⟨x,h,hz⟩:=id hg
  cases hu:P.underlying t with
  | none=>rw [hu] at hc; cases hc
  | some d =>
   rw [hu] at hc
   cases d with
   | int k=>obtain ⟨q,rfl,_⟩:=DataW.trod_int hu h; intro u hm; simp at hm; subst hm; rfl
   | bool=>obtain ⟨q,rfl,_⟩:=DataW.trod_bool hu h; intro u hm; simp at hm; subst hm; rfl
   | string=>obtain ⟨q,rfl,_⟩:=DataW.trod_string hu h; intro u hm; simp at hm; subst hm; rfl
   | slice e =>
    rcases DataW.trod_slice hu h with ⟨rfl,_⟩ | ⟨a,len,cap,_,_,_,_,rfl,_⟩ <;> (intro u hm; simp at hm; subst hm; rfl)
   | struct fs =>
    obtain ⟨m,hm,hcl,hf⟩:=hg.struct hu
    obtain rfl:n=m:=by omega
    intro u hu2
    obtain ⟨k,hk,rfl⟩:=List.getElem_of_mem hu2
    have h1:=List.all_eq_true.1 hc k<|List.mem_range.2<|by omega
    obtain ⟨f,hfm,h2⟩:=List.any_eq_true.1 h1
    simp only [Bool.and_eq_true] at h2
    obtain ⟨⟨h3,h4⟩,h5⟩:=h2
    have h4:=Nat.le_of_ble_eq_true h4
    have h5:k<f.offset+P.cellsOf f.type:=Nat.lt_of_succ_le<|by simpa [Nat.blt] using h5
    obtain ⟨i,hi⟩:=List.getElem?_of_mem hfm
    refine Gd.one hL n f.type _ Zc (hf i f Zi) _ ?_
    refine List.mem_iff_getElem?.2 ⟨k - f.offset,?_⟩
    rw [List.getElem?_take,if_pos (by omega),List.getElem?_drop,show f.offset+(k - f.offset)=k by omega,Zy hk]
   | _=>cases hc
/-! ## The same, out of any resource -/
section
variable (P:Program)
def Gr (S:Res):Nat->TypeId->List Value->Prop
 | 0,_,_=>False
 | n+1,t,cs=>match P.underlying t with
  | some (.int _)=>∃ v,cs=[v]/\v.oneCell'=true
  | some .bool=>∃ v,cs=[v]/\v.oneCell'=true
  | some .string=>∃ v,cs=[v]/\v.oneCell'=true
  | some (.slice e)=>∃ (l:List Unit) (v:Value),cs=[v]/\Row S (P.cellsOf e) (λus _=>Gr S n e us) v l/\l.length * P.bytesOf e≤reachBytes
  | some (.struct fs)=>cs.length=P.cellsOf t/\∀ (i:Nat) (f:Field),fs[i]? = some f->Gr S n f.type ((cs.drop f.offset).take (P.cellsOf f.type))
  | _=>False
def kinB (L:List TypeId):Bool:=L.all λt=>match P.underlying t with
 | some (.int _)=>true
 | some .bool=>true
 | some .string=>true
 | some (.slice e)=>L.contains e && Nat.blt 0 (P.cellsOf e)
 | some (.struct fs)=>fs.toList.all λf=>L.contains f.type
 | _=>false
def flatB (L:List TypeId):Bool:=L.all λt=>match P.underlying t with
 | some (.int _)=>true
 | some .bool=>true
 | some .string=>true
 | some (.struct fs)=>fs.toList.all λf=>L.contains f.type
 | _=>false
inductive Gall (S:Res) (n:Nat) (cs:List Value):List Field->Prop
 | nil:Gall S n cs []
 | cons {f:Field} {fs:List Field}:Gr P S n f.type ((cs.drop f.offset).take (P.cellsOf f.type))->Gall S n cs fs->Gall S n cs (f::fs)
end
section
variable {P:Program} {S T:Res}
theorem Gr.row {n:Nat} {t e:TypeId} {v:Value} (h:Gr P S n t [v]) (hu:P.underlying t=some (.slice e)):∃ (m:Nat) (l:List Unit),n=m+1/\Row S (P.cellsOf e) (λus _=>Gr P S m e us) v l/\l.length * P.bytesOf e≤reachBytes:=by
 cases n with
 | zero=>exact h.elim
 | succ n =>
  simp only [Gr,hu] at h
  obtain ⟨l,v',h1,h2,h3⟩:=h
  cases h1
  exact ⟨n,l,Z,h2,h3⟩
theorem Gr.slice {n : Nat} {t e : TypeId} {v : Value} (h : Gr P S n t [v]) (hu : P.underlying t = some (.slice e)) (_ : 0 < P.cellsOf e) :
  [v]=[Value.slice none 0 0]∨∃ a len cap m,n=m+1/\[v]=[Value.slice (some a) len cap]/\len≤cap/\cap≤maxLen/\len * P.bytesOf e≤reachBytes /\
   ∀ i,i<len->∃ b o us,a=⟨b,o,none⟩/\us.length=P.cellsOf e/\Rds S b (o+i * P.cellsOf e) us/\Gr P S m e us:=by
 obtain ⟨m,l,hm,⟨a,cap,rfl,h1,h2,h3,h4⟩,hb⟩:=h.row hu
 cases a with
 | none =>
  have hc:=h3 rfl
  subst hc
  rw [show l.length=0 by omega]
  exact .inl Z
 | some a =>
  refine .inr ⟨a,l.length,cap,m,hm,Z,h1,h2,hb,λi hi=>?_⟩
  obtain ⟨b,o,us,e1,e2,e3,e4⟩:=h4 i _<|Zy hi
  exact ⟨b,o,us,Option.some.inj e1,e2,e3,e4⟩
theorem Gr.struct {n:Nat} {t:TypeId} {fs:Array Field} {cs:List Value} (h:Gr P S n t cs) (hu:P.underlying t=some (.struct fs)) :
  ∃ m,n=m+1/\cs.length=P.cellsOf t/\∀ (i:Nat) (f:Field),fs[i]? = some f->Gr P S m f.type ((cs.drop f.offset).take<|P.cellsOf f.type):=by
 cases n with
 | zero=>exact h.elim
 | succ n =>
  simp only [Gr,hu] at h
  exact ⟨n,Z,h⟩
theorem Gall.at {n:Nat} {cs:List Value}:∀ {fs:List Field},Gall P S n cs fs->∀ (i:Nat) (f:Field),fs[i]? = some f->Gr P S n f.type ((cs.drop f.offset).take (P.cellsOf f.type))
 | _,.nil,i,f,h=>by simp at h
 | _,.cons h _,0,f,hf=>by simp at hf; subst hf; exact h
 | _,.cons _ ht,i+1,f,hf=>ht.at i f (by simpa using hf)
theorem Gr.mk {n k:Nat} {t:TypeId} {fs:Array Field} {cs:List Value} (hu:P.underlying t=some (.struct fs)) (hk:P.cellsOf t=k) (hl:cs.length=k) (h:Gall P S n cs fs.toList):Gr P S (n+1) t cs:=by
 subst hk
 simp only [Gr,hu]
 exact ⟨hl,λi f hf=>h.at i f<|by simpa using hf⟩
theorem Gr.mono (hr : ∀ p u, Rd S p u -> Rd T p u) : ∀ {n : Nat} {t : TypeId} {cs : List Value}, Gr P S n t cs -> Gr P T n t cs
 | 0,_,_,h=>h.elim
 | n + 1, t, cs, h => by
  unfold Gr at h ⊢
  cases hu:P.underlying t with
  | none=>rw [hu] at h; exact h.elim
  | some d =>
   rw [hu] at h
   cases d with
   | int k=>exact h
   | bool=>exact h
   | string=>exact h
   | slice e =>
    obtain ⟨l,v,h1,h2,h3⟩:=h
    exact ⟨l,v,h1,h2.mono hr λ_ _ _ h=>Gr.mono hr h,h3⟩
   | struct fs=>exact ⟨h.1,λi f hf=>Gr.mono hr (h.2 i f hf)⟩
   | _=>exact h.elim
theorem Gr.up : ∀ {n : Nat} {t : TypeId} {cs : List Value}, Gr P S n t cs -> Gr P S (n + 1) t cs
 | 0,_,_,h=>h.elim
 | n + 1, t, cs, h => by
  unfold Gr at h ⊢
  cases hu:P.underlying t with
  | none=>rw [hu] at h; exact h.elim
  | some d =>
   rw [hu] at h
   cases d with
   | int k=>exact h
   | bool=>exact h
   | string=>exact h
   | slice e =>
    obtain ⟨l,v,h1,h2,h3⟩:=h
    exact ⟨l,v,h1,h2.mono (λ_ _ h=>h) λ_ _ _ h=>Gr.up h,h3⟩
   | struct fs=>exact ⟨h.1,λi f hf=>Gr.up (h.2 i f hf)⟩
   | _=>exact h.elim
theorem Gr.flat {L : List TypeId} (hL : flatB P L = true) : ∀ {n : Nat} {t : TypeId} {cs : List Value}, L.contains t = true -> Gr P S n t cs -> Gr P T n t cs
 | 0,_,_,_,h=>h.elim
 | n+1,t,cs,ht,h=>by
  have hc:=List.all_eq_true.1 hL t<|by simpa using ht
  unfold Gr at h ⊢
  cases hu:P.underlying t with
  | none=>rw [hu] at h; exact h.elim
  | some d =>
   rw [hu] at h hc
   cases d with
   | int k=>exact h
   | bool=>exact h
   | string=>exact h
   | slice e=>cases hc
   | struct fs=>exact ⟨h.1,λi f hf=>Gr.flat hL (List.all_eq_true.1 hc f (List.mem_of_getElem? (i:=i) (by simpa using hf))) (h.2 i f hf)⟩
   | _=>exact h.elim
theorem Gr.one {L : List TypeId} (hL : oneB P L = true) : ∀ (n : Nat) (t : TypeId) (cs : List Value), t ∈ L -> Gr P S n t cs -> ∀ u ∈ cs, u.oneCell' = true
 | 0,t,cs,_,h=>h.elim
 | n + 1, t, cs, ht, hg => by
  have hc:=List.all_eq_true.1 hL t ht
  have h:=hg
  unfold Gr at h
  cases hu:P.underlying t with
  | none=>rw [hu] at hc; cases hc
  | some d =>
   rw [hu] at hc h
   cases d with
   | int k=>obtain ⟨q,rfl,hq⟩:=h; intro u hm; simp at hm; subst hm; exact hq
   | bool=>obtain ⟨q,rfl,hq⟩:=h; intro u hm; simp at hm; subst hm; exact hq
   | string=>obtain ⟨q,rfl,hq⟩:=h; intro u hm; simp at hm; subst hm; exact hq
   | slice e =>
    obtain ⟨l,v,rfl,⟨a,cap,rfl,_⟩,_⟩:=h
    intro u hm; simp at hm; subst hm; rfl
   | struct fs =>
    obtain ⟨hcl,hf⟩:=h
    intro u hu2
    obtain ⟨k,hk,rfl⟩:=List.getElem_of_mem hu2
    have h1:=List.all_eq_true.1 hc k<|List.mem_range.2<|by omega
    obtain ⟨f,hfm,h2⟩:=List.any_eq_true.1 h1
    simp only [Bool.and_eq_true] at h2
    obtain ⟨⟨h3,h4⟩,h5⟩:=h2
    have h4:=Nat.le_of_ble_eq_true h4
    have h5:k<f.offset+P.cellsOf f.type:=Nat.lt_of_succ_le<|by simpa [Nat.blt] using h5
    obtain ⟨i,hi⟩:=List.getElem?_of_mem hfm
    refine Gr.one hL n f.type _ Zc (hf i f Zi) _ ?_
    refine List.mem_iff_getElem?.2 ⟨k - f.offset,?_⟩
    rw [List.getElem?_take,if_pos (by omega),List.getElem?_drop,show f.offset+(k - f.offset)=k by omega,Zy hk]
   | _=>cases hc
theorem Gr.keep {L:List TypeId} (hL:flatB P L=true) {n o k:Nat} {t:TypeId} {us us':List Value} (h:Gr P S n t ((us.drop o).take (P.cellsOf t))) (ht:L.contains t=true) (hk:P.cellsOf t=k) (he:(us.drop o).take k=(us'.drop o).take k):Gr P T n t ((us'.drop o).take (P.cellsOf t)):=by
 rw [hk] at h ⊢
 rw [<- he]
 exact Gr.flat hL ht h
theorem Gr.cut {n o k:Nat} {t:TypeId} {us vs:List Value} (h:Gr P S n t vs) (hk:P.cellsOf t=k) (he:(us.drop o).take k=vs):Gr P S n t ((us.drop o).take (P.cellsOf t)):=by
 rw [hk,he]; exact h
end
end Go.Ck
namespace Go.Fl
open Go Go.Hr
inductive Ex
 | mk (kind:Int) (name:Nm) (n:Int) (kids:List Ex)
namespace Ex
def kind:Ex->Int | .mk k _ _ _=>k
def name:Ex->Nm | .mk _ n _ _=>n
def num:Ex->Int | .mk _ _ n _=>n
def kids:Ex->List Ex | .mk _ _ _ l=>l
end Ex
mutual
def Ex.same:Ex->Ex->Bool
 | .mk k n i l,.mk k' n' i' l'=>k == k' && n == n' && i == i' && exs l l'
def exs:List Ex->List Ex->Bool
 | [],[]=>true
 | a::t,b::u=>a.same b && exs t u
 | [],_::_=>false
 | _::_,[]=>false
end
mutual
theorem Nz:∀ (a b:Ex),a.same b=true↔a=b
 | .mk k n i l,.mk k' n' i' l'=>by
  simp only [Ex.same,Bool.and_eq_true,beq_iff_eq,Ki l l',Ex.mk.injEq]
  constructor
  ·rintro ⟨⟨⟨h1,h2⟩,h3⟩,h4⟩; exact ⟨h1,h2,h3,h4⟩
  ·rintro ⟨h1,h2,h3,h4⟩; exact ⟨⟨⟨h1,h2⟩,h3⟩,h4⟩
theorem Ki:∀ (a b:List Ex),exs a b=true↔a=b
 | [],[]=>by simp [exs]
 | a::t,b::u=>by simp only [exs,Bool.and_eq_true,Nz a b,Ki t u,List.cons.injEq]
 | [],_::_=>by simp [exs]
 | _::_,[]=>by simp [exs]
end
instance:DecidableEq Ex:=λa b=>decidable_of_iff _ (Nz a b)
mutual
def Ex.depth:Ex->Nat
 | .mk _ _ _ l=>exds l+1
def exds:List Ex->Nat
 | []=>0
 | a::t=>max a.depth (exds t)
end
theorem vG:∀ {l:List Ex} {t:Ex},t∈l->t.depth≤exds l
 | a::l,t,h=>by
  unfold exds
  rcases List.mem_cons.1 h with rfl | h
  ·omega
  ·have:=vG h; omega
theorem o7 {t a:Ex} (h:a∈t.kids):a.depth<t.depth:=by
 cases t
 have:=vG h
 simp only [Ex.kids] at this
 show a.depth<exds _+1; omega
structure Cla where
 tag:Nm
 ex:Ex
 deriving DecidableEq
structure Grp where
 cls:Nm
 cs:List Cla
 deriving DecidableEq
structure Vr where
 name:Nm
 ty:Kt
 deriving DecidableEq
structure Sd where
 cls:Nm
 name:Nm
 deriving DecidableEq
structure Og where
 par:Nm
 name:Nm
 deriving DecidableEq
structure Mb where
 name:Nm
 kind:Int
 seeds:List Sd
 impl:Sd
 args:List Vr
 ty:Kt
 clients:List Nm
 pre:List Grp
 post:List Grp
 deriving DecidableEq
structure Fl where
 name:Nm
 dfd:Bool
 mems:List Mb
 inv:List Grp
 deriving DecidableEq
structure Fe where
 kind:Int
 name:Nm
 clients:List Nm
 args:List Vr
 ty:Kt
 req:List Cla
 ens:List Cla
structure Pn where
 fro:Nm
 to:Nm
structure Pt where
 name:Nm
 args:List Kt
 ren:List Pn
 und:List Nm
 red:List Nm
 sel:List Nm
structure FC where
 name:Nm
 dfd:Bool
 forms:List Fm
 pars:List Pt
 feats:List Fe
 inv:List Cla
abbrev FS:=List FC
def FC.cls (c:FC):Cls:={ name:=c.name,parents:=c.pars.map (·.name),feats:=c.feats.length }
def bn (l:FS):Hr.Sys:=l.map FC.cls
def bJ (l:FS) (n:Nm):Option FC:=l.find? λc=>c.name == n
def BF:FC:=⟨[],false,[],[],[],[]⟩
def mb0:Mb:=⟨[],0,[],⟨[],[]⟩,[],.mk 0 [] [] false false,[],[],[]⟩
def fl0:Fl:=⟨[],false,[],[]⟩
def ae (l:FS) (n:Nm):FC:=(bJ l n).getD BF
def feat (c:FC) (n:Nm):Option Fe:=c.feats.find? λf=>f.name == n
def dA (l:List Mb) (n:Nm):Option Mb:=l.find? λm=>m.name == n
mutual
def cZ (F:List Fm) (A:List Kt):Kt->Kt
 | .mk k n az v s=>match (if k=4 then nX F A n else none) with
  | some t=>t.flag v s
  | none=>.mk k n (Kj F A az) v s
def Kj (F:List Fm) (A:List Kt):List Kt->List Kt
 | []=>[]
 | a::t=>cZ F A a::Kj F A t
end
theorem CB {F:List Fm} {A:List Kt}:∀ (l:List Kt),Kj F A l=l.map (cZ F A)
 | []=>rfl
 | a::t=>by rw [Kj,CB t]; rfl
structure Cm where
 og:Og
 par:Nat
 mem:Mb
 was:Int
 deriving DecidableEq
def Cm.dfd (x:Cm):Bool:=x.mem.kind == 3
def bN (p:Pt) (n:Nm):Nm:=match p.ren.find? λx=>x.fro == n with
 | some x=>x.to
 | none=>n
def qY (F:List Fm) (i:Nat) (p:Pt) (m:Mb):Cm :=
 { og:=⟨p.name,m.name⟩,par:=i,was:=m.kind,mem:={ m with name:=bN p m.name,kind:=if p.und.contains (bN p m.name) then 3 else m.kind,args:=m.args.map λa=>{ a with ty:=cZ F p.args a.ty },ty:=cZ F p.args m.ty } }
def comes (fl:Nm->Fl) (l:FS) (c:FC):List Cm:=c.pars.zipIdx.flatMap λq=>(fl q.1.name).mems.map<|qY (ae l q.1.name).forms q.2 q.1
def under (cs:List Cm) (n:Nm):List Cm:=cs.filter λx=>x.mem.name == n
def slt (a b:Sd):Bool:=lt a.cls b.cls || (a.cls == b.cls && lt a.name b.name)
def yZ:List Sd->Sd->List Sd
 | [],x=>[x]
 | y::t,x=>if slt x y then x::y::t else if x=y then y::t else y::yZ t x
def qZ (xs:List Sd):List Sd:=xs.foldl yZ []
def vH (o:List Grp) (g:Grp):List Grp:=if o.contains g then o else o++[g]
def q8 (o l:List Grp):List Grp:=l.foldl vH o
def groups (ls:List (List Grp)):List Grp:=ls.foldl q8 []
def joined (l:List Cm):Mb :=
 let m:=match l.find? (λ(x:Cm) => !x.dfd) with
  | some x=>x.mem
  | none=>(l.head?.map λ(x:Cm)=>x.mem).getD mb0
 { m with seeds:=qZ (l.flatMap λ(x:Cm)=>x.mem.seeds),pre:=l.foldl (λ(o:List Grp) (x:Cm)=>groups [o,x.mem.pre]) [],post:=l.foldl (λ(o:List Grp) (x:Cm)=>groups [o,x.mem.post]) [] }
def jK (c:FC) (f:Fe) (l:List Cm):Mb :=
 let pre:List Grp:=[⟨c.name,f.req⟩]
 let post:List Grp:=if f.ens=[] then [] else [⟨c.name,f.ens⟩]
 let m:Mb:={ name:=f.name,kind:=f.kind,seeds:=[⟨c.name,f.name⟩],impl:=⟨c.name,f.name⟩,args:=f.args,ty:=f.ty,clients:=f.clients,pre:=pre,post:=post }
 if l=[] then m else { m with seeds:=(joined l).seeds,pre:=groups [(joined l).pre,if f.req=[] then [] else pre],post:=groups [(joined l).post,post] }
def y7:List Mb->Mb->List Mb
 | [],x=>[x]
 | y::t,x=>if lt x.name y.name then x::y::t else y::y7 t x
def q9 (xs:List Mb):List Mb:=xs.foldl y7 []
def keys (cs:List Cm):List Nm:=dd [] (cs.map λx=>x.mem.name)
def members (cs:List Cm) (c:FC):List Mb :=
 q9 (((keys cs).filter λn=>(feat c n).isNone).map (λn=>joined<|under cs n)++c.feats.map λf=>jK c f<|under cs f.name)
mutual
def tpw:Kt->Int
 | .mk _ _ az _ _=>tpws 1 az
def tpws:Int->List Kt->Int
 | n,[]=>n
 | n,a::t=>tpws (IntKind.i64.wrap (n+tpw a)) t
end
def over (l:List Mb):Bool:=decide (60<l.length) || l.any λm=>decide (400<tpw m.ty) || m.args.any λv=>decide (400<tpw v.ty)
def flatOf (l:FS) (c:FC) (ms:List Mb):Fl :=
 { name:=c.name,dfd:=c.dfd,mems:=ms,inv:=(above (bn l) c.name).filterMap λa=>if (ae l a).inv=[] then none else some ⟨a,(ae l a).inv⟩ }
def aZ (l:List Mb) (s:Sd):List Nm:=(l.filter λm=>m.seeds.contains s).map (·.name)
def jW:List Nm->Nm
 | []=>[]
 | [a]=>a
 | a::b::t=>a++32::jW (b::t)
def having (cs:List Cm) (s:Sd):List Cm:=cs.filter λx=>x.mem.seeds.contains s
def dG (c:FC) (i:Nat):Pt:=(c.pars[i]?).getD ⟨[],[],[],[],[],[]⟩
def picked (c:FC) (xs:List Cm):List Nm:=dd [] ((xs.filter λx=>(dG c x.par).sel.contains x.mem.name).map λx=>x.mem.name)
def ddn (o xs:List Nat):List Nat:=xs.foldl (λo i=>if o.contains i then o else o++[i]) o
def bZ (xs:List Cm):List Nat:=ddn [] (xs.map λx=>x.par)
theorem Kk : ∀ {xs o : List Nat} {i : Nat}, i ∈ ddn o xs ↔ i ∈ o ∨ i ∈ xs
 | [],o,i=>by simp [ddn]
 | x::t,o,i=>by
  show i∈ddn (if o.contains x then o else o++[x]) t↔_
  rw [Kk]
  split
  ·rename_i h
   have h:x∈o:=by simpa using h
   simp only [List.mem_cons]
   exact ⟨λh2=>h2.elim .inl λh2=>.inr (.inr h2),λh2=>h2.elim .inl λh2=>h2.elim (λe=>.inl (e ▸ h)) .inr⟩
  ·simp [or_assoc]
theorem o8 {xs:List Cm} {i:Nat}:i∈bZ xs↔∃ x∈xs,x.par=i:=by
 unfold bZ
 rw [Kk,List.mem_map]
 simp
def eP (fl : Nm -> Fl) (l : FS) : Nat -> FC -> List Mb -> Sd -> Nm × Bool
 | n, c, ms, s => match aZ ms s with
  | [a]=>(a,true)
  | _ =>
   let xs:=having (comes fl l c) s
   if picked c xs≠[]∨(bZ xs).length≠1 then (jW (picked c xs),(picked c xs).length == 1)
   else match bZ xs, n with
    | i::_,n+1 =>
     let p:=dG c i
     if 1<(aZ (fl p.name).mems s).length then
      let r:=eP fl l n (ae l p.name) (fl p.name).mems s
      (bN p r.1,r.2)
     else ([],false)
    | _,_=>([],false)
structure Cf where
 kind:Int
 cls:Nm
 name:Nm
 other:Nm
 a:Og
 b:Og
 deriving DecidableEq
def og0:Og:=⟨[],[]⟩
def cf0:Cf:=⟨0,[],[],[],og0,og0⟩
structure Sk where
 fl:Nm->Fl
 l:FS
 c:FC
 ms:List Mb
 all:Bool
namespace Sk
section
variable (s:Sk)
def cs:List Cm:=comes s.fl s.l s.c
def cf (k:Int) (n:Nm) (a b:Og):Cf:=⟨k,s.c.name,n,[],a,b⟩
def fro (i:Nat) (n:Nm):List Cm:=(under s.cs n).filter λx=>x.par == i
def pairs {α : Type} (l:List α) (is : α -> α -> Bool) (f : α -> α -> Cf):List Cf :=
 l.zipIdx.flatMap λa=>l.zipIdx.flatMap λb=>if a.2=b.2∨(s.all=false/\b.2<a.2)∨is a.1 b.1=false then [] else [f a.1 b.1]
def cut (r:List Cf):List Cf:=if s.all then r else r.take 1
def cpairs (l:List Cm) (k:Int) (is:Cm->Cm->Bool):List Cf:=s.cut (s.pairs l is λa b=>s.cf k a.mem.name a.og b.og)
def pz:List (Pt×Nat):=s.c.pars.zipIdx
def lost:List Cf :=
 (s.pz.flatMap λp=>(p.1.ren.flatMap λr=>if (dA (s.fl p.1.name).mems r.fro).isNone then [s.cf 1 r.fro ⟨p.1.name,r.fro⟩ og0] else []) ++
  (p.1.und++p.1.red++p.1.sel).flatMap λn=>if s.fro p.2 n=[] then [s.cf 1 n ⟨p.1.name,n⟩ og0] else []) ++
 (s.c.pars.flatMap λp=>p.und.flatMap λn=>if p.red.contains n then [s.cf 2 n ⟨p.name,n⟩ og0] else []) ++
 (s.pz.flatMap λp=>(s.fl p.1.name).mems.flatMap λm=>if 1<(s.fro p.2<|bN p.1 m.name).length then s.cpairs (s.fro p.2<|bN p.1 m.name) 3 (λ_ _=>true) else []) ++
 (s.pz.flatMap λp=>p.1.und.flatMap λn=>(s.fro p.2 n).flatMap λx=>if x.was≠2 then [s.cf 4 n x.og og0] else []) ++
 (s.c.pars.flatMap λp=>p.red.flatMap λn=>if (feat s.c n).isNone then [s.cf 5 n ⟨p.name,n⟩ og0] else [])
def skeys:List Nm:=srt (keys s.cs)
def redK (f:Fe) (x:Cm):Nat->Bool
 | 0=>x.mem.kind == 1
 | 1 => !x.dfd && !(dG s.c x.par).red.contains f.name
 | _=>f.kind == 3 && !x.dfd
def redeclared:List Cf:=[0,1,2].flatMap λk=>s.skeys.flatMap λn=>match feat s.c n with
 | none=>[]
 | some f=>(under s.cs n).flatMap λx=>if s.redK f x k then [s.cf (6+k) n x.og og0] else []
def sameTy (a b:Mb):Bool:=decide (a.args=b.args) && decide (a.ty=b.ty)
def same (a b:Mb):Bool:=(decide (a.impl=b.impl) && decide (a.seeds=b.seeds)) && sameTy a b
def typed : List Cf :=
 (s.skeys.flatMap λn=>(under s.cs n).flatMap λx=>match feat s.c n with
  | none=>let y:=((under s.cs n).head?).getD x
   if sameTy y.mem x.mem then [] else [s.cf 9 n y.og x.og]
  | some f=>if decide (f.args=x.mem.args) && ((f.ty.kind == 0) == (x.mem.ty.kind == 0)) then [] else [s.cf 9 n ⟨[],n⟩ x.og]) ++
 (s.skeys.flatMap λn=>if (feat s.c n).isSome then [] else s.cpairs (under s.cs n) 10 λa b=>(!a.dfd && !b.dfd) && !same a.mem b.mem)
def seeds:List Sd:=qZ (s.ms.flatMap λm=>m.seeds)
def sel (d:Sd):Nm×Bool:=eP s.fl s.l s.l.length s.c s.ms d
def chosen:List Cf :=
 (s.seeds.flatMap λd=>if (s.sel d).2 then [] else s.cut (s.pairs (aZ s.ms d) (λ_ _=>true) λa b=>⟨11,s.c.name,a,b,⟨d.cls,d.name⟩,og0⟩)) ++
 (s.pz.flatMap λp=>p.1.sel.flatMap λn=>if s.fro p.2 n≠[]/\(((dA s.ms n).getD mb0).seeds.any λd=>decide (1<(aZ s.ms d).length))=false then [s.cf 12 n ⟨p.1.name,n⟩ og0] else []) ++
 (s.ms.flatMap λm=>if s.c.dfd=false/\m.kind=3 then [s.cf 13 m.name og0 og0] else [])
def apart:List Cf:=s.seeds.flatMap λd=>s.pairs (s.ms.filter λm=>m.seeds.contains d) (λa b => !sameTy a b) λa b=>⟨14,s.c.name,a.name,b.name,⟨d.cls,d.name⟩,og0⟩
def conflicts:List Cf:=s.lost++(s.redeclared++(s.typed++(s.chosen++s.apart)))
end
end Sk
structure Bd where
 order:List Nm
 fl:Nm->Fl
 clash:Cf
 err:Int
def look (fs:List (Nm×Fl)) (n:Nm):Fl:=((fs.find? λp=>p.1 == n).map (·.2)).getD fl0
def lJ (l:FS) (fs:List (Nm×Fl)) (n:Nm):List Mb:=members (comes (look fs) l<|ae l n) (ae l n)
def rf (l:FS) (fs:List (Nm×Fl)) (n:Nm) (all:Bool):Sk:=⟨look fs,l,ae l n,lJ l fs n,all⟩
def lK (l:FS):List Nm->List (Nm×Fl)->List (Nm×Fl)×Cf×Int
 | [],fs=>(fs,cf0,0)
 | n::t,fs=>match (rf l fs n false).conflicts with
  | x::_=>(fs,x,10)
  | []=>if over (lJ l fs n) then (fs,cf0,3) else lK l t (fs++[(n,flatOf l (ae l n) (lJ l fs n))])
def build (l:FS):List (Nm×Fl)×Cf×Int:=lK l (order<|bn l) []
def flF (l:FS):Nat->Nm->Fl
 | 0,_=>fl0
 | n+1,c=>flatOf l (ae l c) (members (comes (flF l n) l (ae l c)) (ae l c))
def FL (l:FS) (c:Nm):Fl:=flF l (l.length+1) c
def msF (l:FS) (c:Nm):List Mb:=members (comes (FL l) l<|ae l c) (ae l c)
def skF (l:FS) (c:Nm) (all:Bool):Sk:=⟨FL l,l,ae l c,msF l c,all⟩
def vJ (l:FS) (c:Nm) (all:Bool):List Cf:=(skF l c all).conflicts
section
variable {l:FS}
theorem jX:(bn l).length=l.length:=by simp [bn]
theorem CE (c:Nm):Hr.find (bn l) c=(bJ l c).map FC.cls:=by
 unfold Hr.find bn bJ
 rw [List.find?_map]; rfl
theorem dD (c:Nm):isC (bn l) c=(bJ l c).isSome:=by unfold isC; rw [CE]; cases bJ l c <;> rfl
theorem o9 {c:Nm} {x:FC} (h:bJ l c=some x):x.name=c:=by simpa using List.find?_some h
theorem iq {c:Nm} {x:FC} (h:bJ l c=some x):ae l c=x:=by unfold ae; rw [h]; rfl
theorem vL {c:Nm} (h:bJ l c=none):ae l c=BF:=by unfold ae; rw [h]; rfl
theorem KY (c:Nm):pars (bn l) c=(ae l c).pars.map λp=>p.name:=by
 unfold pars; rw [CE]
 cases h:bJ l c with
 | none=>rw [vL h]; rfl
 | some x=>rw [iq h]; rfl
theorem vO (hr:Right (bn l)) (c:Nm):par (bn l) c=(ae l c).pars.map λp=>p.name:=by rw [<- hr.pars_eq,KY]
theorem eT (hr:Right (bn l)) {c:Nm} {p:Pt} (hp:p∈(ae l c).pars):p.name∈par (bn l) c:=by rw [vO hr]; exact List.mem_map.2 ⟨p,hp,rfl⟩
theorem zx {α : Type} {xs:List α} {q : α × Nat} (h:q∈xs.zipIdx):q.1∈xs:=by
 obtain ⟨x,i⟩:=q
 exact List.mem_of_getElem?<|List.mem_zipIdx_iff_getElem?.1 h
theorem dH {α β : Type} {f g : α -> List β}:∀ {xs:List α},(∀ x∈xs,f x=g x)->xs.flatMap f=xs.flatMap g
 | [],_=>rfl
 | a::t,h=>by rw [List.flatMap_cons,List.flatMap_cons,h a (by simp),dH λx hx=>h x (by simp [hx])]
theorem oz {α β : Type} {f g : α -> Option β}:∀ {xs:List α},(∀ x∈xs,f x=g x)->xs.filterMap f=xs.filterMap g
 | [],_=>rfl
 | a::t,h=>by rw [List.filterMap_cons,List.filterMap_cons,h a (by simp),oz λx hx=>h x (by simp [hx])]
theorem rq (ha:gF (bn l)) {c p:Nm} (h:p∈par (bn l) c):has (bn l) c p=true/\p≠c:=⟨rM h,λe=>by have:=iC ha h; rw [e] at this; omega⟩
theorem FQ (ha:gF (bn l)) {c p a:Nm} (h:p∈par (bn l) c) (h2:has (bn l) p a=true):has (bn l) c a=true/\a≠c:=⟨kW (rM h) h2,λe=>by
 have:=iC ha h
 rcases has_rk ha h2 with h3 | h3
 ·rw [e] at h3; rw [h3] at this; omega
 ·rw [e] at h3; omega⟩
theorem jc {fl:Nm->Fl} {c:FC} {x:Cm} (h:x∈comes fl l c):∃ p,c.pars[x.par]? = some p/\∃ m∈(fl p.name).mems,x=qY (ae l p.name).forms x.par p m:=by
 unfold comes at h
 obtain ⟨⟨p,i⟩,hq,hx⟩:=List.mem_flatMap.1 h
 obtain ⟨m,hm,rfl⟩:=List.mem_map.1 hx
 exact ⟨p,List.mem_zipIdx_iff_getElem?.1 hq,m,hm,rfl⟩
theorem ru {fl:Nm->Fl} {c:FC} {s:Sd} {i:Nat} (h:i∈bZ (having (comes fl l c) s)):dG c i∈c.pars:=by
 obtain ⟨x,hx,rfl⟩:=o8.1 h
 obtain ⟨p,hp,_⟩:=jc (List.mem_filter.1 hx).1
 unfold dG; rw [hp]
 exact List.mem_of_getElem? hp
theorem jd {fl fl':Nm->Fl} {c:FC} (h:∀ p∈c.pars,fl p.name=fl' p.name):comes fl l c=comes fl' l c:=by
 unfold comes
 refine dH λq hq=>?_
 rw [h q.1 (zx hq)]
theorem FR (hr : Right (bn l)) : ∀ (f g : Nat) (c : Nm), rk (bn l) c < f -> rk (bn l) c < g -> flF l f c = flF l g c
 | 0,_,_,h,_=>by omega
 | _+1,0,_,_,h=>by omega
 | f+1,g+1,c,h1,h2=>by
  have:comes (flF l f) l (ae l c)=comes (flF l g) l (ae l c):=jd λp hp=>by
   have:=iC hr.acyc<|eT hr hp
   exact FR hr f g p.name (by omega)<|by omega
  unfold flF
  rw [this]
theorem CF (hr:Right (bn l)) (c:Nm):FL l c=flatOf l (ae l c) (msF l c):=by
 have:comes (flF l l.length) l (ae l c)=comes (FL l) l (ae l c):=jd λp hp=>by
  have h1:=iC hr.acyc<|eT hr hp
  have h2:=qz (bn l) c
  rw [jX] at h2
  exact FR hr _ _ _ (by omega)<|by omega
 show flatOf l (ae l c) (members (comes (flF l l.length) l<|ae l c)<|ae l c)=_
 rw [this]; rfl
theorem iy (hr:Right (bn l)) (c:Nm):(FL l c).mems=msF l c:=by rw [CF hr]; rfl
theorem FL_name (hr:Right (bn l)) (c:Nm):(FL l c).name=(ae l c).name:=by rw [CF hr]; rfl

/-! ### What a class's conflicts depend on -/
theorem tX (hr : Right (bn l)) {fl fl' : Nm -> Fl} : ∀ (n : Nat) (c : Nm) (ms : List Mb) (s : Sd), (∀ a, has (bn l) c a = true -> a ≠ c -> fl a = fl' a) -> eP fl l n (ae l c) ms s = eP fl' l n (ae l c) ms s
 | 0, c, ms, s, h => by
  have hc:comes fl l (ae l c)=comes fl' l (ae l c):=jd λp hp=>h _ (rq hr.acyc<|eT hr hp).1 (rq hr.acyc<|eT hr hp).2
  unfold eP
  rw [hc]
  split
  ·rfl
  ·simp only []
   split
   ·rfl
   ·split
    ·rename_i h2; cases h2
    ·rfl
 | n + 1, c, ms, s, h => by
  have hp1:∀ p∈(ae l c).pars,fl p.name=fl' p.name:=λp hp=>h _ (rq hr.acyc<|eT hr hp).1 (rq hr.acyc<|eT hr hp).2
  have hc:comes fl l (ae l c)=comes fl' l (ae l c):=jd hp1
  unfold eP
  rw [hc]
  split
  ·rfl
  ·simp only []
   split
   ·rfl
   ·split
    ·rename_i i t n' h1 h2
     cases h2
     have hi:i∈bZ (having (comes fl' l<|ae l c) s):=by rw [h1]; simp
     have hpm:dG (ae l c) i∈(ae l c).pars:=ru hi
     have hpp:=eT hr hpm
     rw [hp1 _ hpm,tX hr n (dG (ae l c) i).name _ s λa ha hne=>h a (FQ hr.acyc hpp ha).1 (FQ hr.acyc hpp ha).2]
    ·rfl
end
section
variable {l:FS}
theorem CG {fl fl' : Nm -> Fl} {l' : FS} {c : FC} {ms : List Mb} {all : Bool} (hc : comes fl l c = comes fl' l' c) (hp1 : ∀ p ∈ c.pars, fl p.name = fl' p.name) (h6 : ∀ d, (Sk.mk fl l c ms all).sel d = (Sk.mk fl' l' c ms all).sel d) :
  (Sk.mk fl l c ms all).conflicts=(Sk.mk fl' l' c ms all).conflicts:=by
 have h1:(Sk.mk fl l c ms all).cs=(Sk.mk fl' l' c ms all).cs:=hc
 have h2:∀ i n,(Sk.mk fl l c ms all).fro i n=(Sk.mk fl' l' c ms all).fro i n:=λi n=>by unfold Sk.fro; rw [h1]
 have h3 : (Sk.mk fl l c ms all).lost = (Sk.mk fl' l' c ms all).lost := by
  have k1:∀ p∈c.pars.zipIdx,fl p.1.name=fl' p.1.name:=λp hp=>hp1 _<|zx hp
  unfold Sk.lost
  congr 1
  ·congr 1
   ·congr 1
    ·congr 1
     refine dH λp hp=>?_
     have:=k1 p hp
     simp only [h2,this]
     rfl
    ·refine dH λp hp=>?_
     have:=k1 p hp
     simp only [h2,this]
     rfl
   ·refine dH λp hp=>?_
    simp only [h2]
    rfl
 have h4:(Sk.mk fl l c ms all).redeclared=(Sk.mk fl' l' c ms all).redeclared:=by
  unfold Sk.redeclared Sk.skeys
  simp only [h1]
  rfl
 have h5:(Sk.mk fl l c ms all).typed=(Sk.mk fl' l' c ms all).typed:=by
  unfold Sk.typed Sk.skeys
  simp only [h1]
  rfl
 have h7:(Sk.mk fl l c ms all).chosen=(Sk.mk fl' l' c ms all).chosen:=by
  unfold Sk.chosen
  simp only [h6,h2]
  rfl
 unfold Sk.conflicts
 rw [h3,h4,h5,h7]; rfl
theorem Il (hr:Right (bn l)) {fl fl':Nm->Fl} {c:Nm} {ms:List Mb} {all:Bool} (h:∀ a,has (bn l) c a=true->a≠c->fl a=fl' a):(Sk.mk fl l (ae l c) ms all).conflicts=(Sk.mk fl' l (ae l c) ms all).conflicts :=
 have hp1:∀ p∈(ae l c).pars,fl p.name=fl' p.name:=λp hp=>h _ (rq hr.acyc<|eT hr hp).1 (rq hr.acyc<|eT hr hp).2
 CG (jd hp1) hp1 λd=>tX hr _ c ms d h
def forms (l:FS) (o:List Nm):List (Nm×Fl):=o.map λn=>(n,FL l n)
theorem pg {o:List Nm} {n:Nm} (h:n∈o):look (forms l o) n=FL l n:=by
 unfold look forms
 rw [List.find?_map]
 cases hf:o.find? ((λp:Nm×Fl=>p.1 == n) ∘ λn=>(n,FL l n)) with
 | none =>
  have:=List.find?_eq_none.1 hf n h
  simp at this
 | some x =>
  have hx:=List.find?_some hf
  simp only [Function.comp_apply,beq_iff_eq] at hx
  subst hx; rfl
theorem KZ {o:List Nm} {n:Nm} (h:n ∉ o):look (forms l o) n=fl0:=by
 unfold look forms
 rw [List.find?_map]
 cases hf:o.find? ((λp:Nm×Fl=>p.1 == n) ∘ λn=>(n,FL l n)) with
 | none=>rfl
 | some x =>
  have hx:=List.find?_some hf
  simp only [Function.comp_apply,beq_iff_eq] at hx
  exact absurd (hx ▸ List.mem_of_find?_eq_some hf) h
def Upto (l:FS) (o:List Nm) (n:Nm):Prop:=∀ a,has (bn l) n a=true->a≠n->a∈o
theorem tp_upto (ha:gF (bn l)) {d t:List Nm} {n:Nm} (h:Tp (bn l) (d++n::t)):Upto l d n:=λa h1 h2=>by
 have hn:n∈d++n::t:=by simp
 have hm:=h.has hn h1
 rcases List.mem_append.1 hm with hm | hm
 ·exact hm
 rcases List.mem_cons.1 hm with hm | hm
 ·exact absurd hm h2
 ·obtain ⟨j,hj,rfl⟩:=List.getElem_of_mem hm
  have h3:=h.ahead d.length (d.length+1+j) (by omega) (by simp; omega)
  rw [List.getElem_append_right (by omega),List.getElem_append_right (by omega)] at h3
  simp only [Nat.sub_self,List.getElem_cons_zero,show d.length+1+j - d.length=j+1 by omega,List.getElem_cons_succ] at h3
  rw [h1] at h3; cases h3
theorem FT (hr:Right (bn l)) {o:List Nm} {n:Nm} (h:Upto l o n):lJ l (forms l o) n=msF l n:=by
 unfold lJ msF
 rw [jd (fl':=FL l) λp hp=>pg (h _ (rq hr.acyc<|eT hr hp).1 (rq hr.acyc<|eT hr hp).2)]
theorem Im (hr:Right (bn l)) {o:List Nm} {n:Nm} {all:Bool} (h:Upto l o n):(rf l (forms l o) n all).conflicts=vJ l n all:=by
 unfold rf vJ skF
 rw [FT hr h]
 exact Il hr λa h1 h2=>pg<|h a h1 h2
def scan (l:FS):List Nm->List Nm×Cf×Int
 | []=>([],cf0,0)
 | n::t=>match vJ l n false with
  | x::_=>([],x,10)
  | []=>if over (msF l n) then ([],cf0,3) else (n::(scan l t).1,(scan l t).2)
theorem CJ (hr : Right (bn l)) : ∀ (t d : List Nm), Tp (bn l) (d ++ t) -> lK l t (forms l d) = (forms l (d ++ (scan l t).1), (scan l t).2)
 | [],d,_=>by simp [lK,scan]
 | n :: t, d, h => by
  have hu:=tp_upto hr.acyc h
  have h':Tp (bn l) (d++[n]++t):=by rw [List.append_assoc]; exact h
  unfold lK scan
  rw [Im hr hu,FT hr hu]
  cases hc:vJ l n false with
  | cons x _=>simp only [List.append_nil]
  | nil =>
   simp only []
   split
   ·simp only [List.append_nil]
   ·rw [<- CF hr,show forms l d++[(n,FL l n)]=forms l (d++[n]) by simp [forms],CJ hr t (d++[n]) h',List.append_assoc]
    rfl
theorem FU (hr:Right (bn l)):build l=(forms l (scan l (order (bn l))).1,(scan l (order (bn l))).2):=by
 have:=CJ hr (order<|bn l) [] (jE hr.acyc hr.uniq).1
 rw [List.nil_append] at this
 exact this
def okF (l:FS) (n:Nm):Prop:=vJ l n false=[]/\over (msF l n)=false
theorem scan_ok {o:List Nm} (h:(scan l o).2.2=0):(scan l o).1=o/\(scan l o).2.1=cf0/\∀ n∈o,okF l n:=by
 induction o with
 | nil=>exact ⟨rfl,rfl,by simp⟩
 | cons n t ih =>
  unfold scan at h ⊢
  cases hc:vJ l n false with
  | cons x _=>rw [hc] at h; cases h
  | nil =>
   rw [hc] at h
   simp only [] at h ⊢
   split at h
   ·cases h
   ·rename_i ho
    obtain ⟨h1,h2,h3⟩:=ih h
    rw [if_neg ho]
    refine ⟨by rw [h1],h2,λm hm=>?_⟩
    rcases List.mem_cons.1 hm with rfl | hm
    ·exact ⟨hc,by simpa using ho⟩
    ·exact h3 m hm
theorem FV {o:List Nm} (h:∀ n∈o,okF l n):scan l o=(o,cf0,0):=by
 induction o with
 | nil=>rfl
 | cons n t ih =>
  obtain ⟨h1,h2⟩:=h n<|by simp
  unfold scan
  rw [h1,h2,ih λm hm=>h m (by simp [hm])]
  rfl
end
section
variable {fl:Nm->Fl} {l:FS} {c:FC} {ms:List Mb}
def Part (a b:List Cf):Prop:=(∀ x∈a,x∈b)/\(a=[]->b=[])
theorem Part.refl (a:List Cf):Part a a:=⟨λ_ h=>h,λh=>h⟩
theorem Part.app {a b a' b':List Cf} (h:Part a b) (h':Part a' b'):Part (a++a') (b++b'):=by
 refine ⟨λx hx=>?_,λhx=>?_⟩
 ·rcases List.mem_append.1 hx with hx | hx
  ·exact List.mem_append_left _<|h.1 x hx
  ·exact List.mem_append_right _<|h'.1 x hx
 ·obtain ⟨h1,h2⟩:=List.append_eq_nil_iff.1 hx
  rw [h.2 h1,h'.2 h2]; rfl
theorem Part.flat {α : Type} {f g : α -> List Cf} {xs:List α} (h:∀ x∈xs,Part (f x) (g x)):Part (xs.flatMap f) (xs.flatMap g):=by
 induction xs with
 | nil=>exact Part.refl _
 | cons a t ih =>
  rw [List.flatMap_cons,List.flatMap_cons]
  exact (h a<|by simp).app (ih λx hx=>h x<|by simp [hx])
theorem FW {s:Sk} {α : Type} {xs:List α} {is : α -> α -> Bool} {f : α -> α -> Cf} {x:Cf}:x∈s.pairs xs is f↔∃ (i k:Nat) (a b : α),xs[i]? = some a/\xs[k]? = some b/\i≠k/\(s.all=false->i<k)/\is a b=true/\x=f a b:=by
 unfold Sk.pairs
 constructor
 ·intro h
  obtain ⟨⟨a,i⟩,h1,h2⟩:=List.mem_flatMap.1 h
  obtain ⟨⟨b,k⟩,h3,h4⟩:=List.mem_flatMap.1 h2
  simp only [] at h4
  split at h4
  ·simp at h4
  ·rename_i hq
   simp only [not_or,not_and,Bool.not_eq_false] at hq
   obtain ⟨q1,q2,q3⟩:=hq
   simp only [List.mem_singleton] at h4
   exact ⟨i,k,a,b,List.mem_zipIdx_iff_getElem?.1 h1,List.mem_zipIdx_iff_getElem?.1 h3,q1,λh=>by have:=q2 h; omega,q3,h4⟩
 ·rintro ⟨i,k,a,b,h1,h2,h3,h4,h5,rfl⟩
  refine List.mem_flatMap.2 ⟨(a,i),List.mem_zipIdx_iff_getElem?.2 h1,List.mem_flatMap.2 ⟨(b,k),List.mem_zipIdx_iff_getElem?.2 h2,?_⟩⟩
  have hq:¬ (i=k∨(s.all=false/\k<i)∨is a b=false):=by
   simp only [not_or,not_and,Bool.not_eq_false]
   exact ⟨h3,λh=>by have:=h4 h; omega,h5⟩
  simp only []
  rw [if_neg hq]; simp
theorem FX {a b:Mb} (h:Sk.sameTy a b=true):Sk.sameTy b a=true:=by
 unfold Sk.sameTy at *
 simp only [Bool.and_eq_true,decide_eq_true_eq] at *
 exact ⟨h.1.symm,h.2.symm⟩
end
def lower (b:UInt8):Bool:=decide (97≤b.toNat) && decide (b.toNat≤122)
def okS (b:UInt8):Bool:=(lower b || digit b) || b.toNat == 95
def pE : Nm := "true false void current result and as attached check class create deferred detachable do else end ensure feature from if implies inherit invariant local loop not old or put raise redefine rename require rescue retry select separate then undefine until variant when".toUTF8.data.toList
def ry:Nm->Nm->List Nm
 | [],w=>if w=[] then [] else [w]
 | b::t,w=>if b=32 then (if w=[] then ry t [] else w::ry t []) else ry t (w++[b])
def kws:List Nm:=ry pE []
def small (s:Nm):Bool:=match s with
 | []=>false
 | b::_=>decide (s.length≤20) && lower b && s.all okS && !kws.contains s
def mZ (xs:List Int):Int:=(xs.find? (· != 0)).getD 0
def xw (fs:List Fe) (q:Fe×Nat):Int :=
 if small q.1.name=false then 4 else if (fs.take q.2).any λg=>g.name == q.1.name then 6
 else if q.1.kind<1∨3<q.1.kind∨(q.1.kind=1/\(q.1.args≠[]∨q.1.ty.kind=0)) then 2 else 0
def AB (c:FC):Int:=if 60<c.feats.length then 3 else mZ (c.feats.zipIdx.map<|xw c.feats)
def FY (p:Pt):Int:=if p.ren.any λx => !small x.to then 4 else if (p.ren.map λx=>x.fro).Nodup then 0 else 6
def kH (l:FS) (c:FC):Int :=
 if 3<c.forms.length then 3 else if ¬ (c.forms.map λf=>f.name).Nodup then 6
 else if c.pars.any λp=>decide (p.args.length≠(ae l p.name).forms.length) then 2
 else if AB c≠0 then AB c else mZ (c.pars.map FY)
def bX (l:FS):Int×Nm :=
 if (check<|bn l).1≠0 then check (bn l) else match (l.map λc=>(kH l c,c.name)).find? λe=>e.1 != 0 with
  | some e=>e
  | none=>(0,[])
structure FRight (l:FS):Prop where
 sys:Right (bn l)
 form:∀ c∈l,kH l c=0
theorem je {l:FS}:(bX l).1=0↔FRight l:=by
 unfold bX
 split
 ·rename_i h
  exact ⟨λh2=>absurd h2 h,λh2=>absurd (oF.2 h2.sys) h⟩
 ·rename_i h
  have h:=Classical.not_not.1 h
  split
  ·rename_i e he
   have h1:=List.find?_some he
   obtain ⟨c,hc,rfl⟩:=List.mem_map.1<|List.mem_of_find?_eq_some he
   simp only [bne_iff_ne,ne_eq] at h1
   exact ⟨λh2=>absurd h2 h1,λh2=>absurd (h2.form c hc) h1⟩
  ·rename_i hn
   refine ⟨λ_=>⟨oF.1 h,λc hc=>?_⟩,λ_=>rfl⟩
   have:=List.find?_eq_none.1 hn (kH l c,c.name)<|List.mem_map.2 ⟨c,hc,rfl⟩
   simpa using this
theorem yG {xs:List Int}:mZ xs=0↔∀ x∈xs,x=0:=by
 unfold mZ
 cases h:xs.find? (· != 0) with
 | none=>exact ⟨λ_ x hx=>by simpa using List.find?_eq_none.1 h x hx,λ_=>rfl⟩
 | some e =>
  have h1:=List.find?_some h
  simp only [bne_iff_ne,ne_eq] at h1
  exact ⟨λh2=>absurd h2 h1,λh2=>absurd (h2 e<|List.mem_of_find?_eq_some h) h1⟩
structure CRight (l:FS) (c:FC):Prop where
 few:c.forms.length≤3
 once:(c.forms.map λf=>f.name).Nodup
 args:∀ p∈c.pars,p.args.length=(ae l p.name).forms.length
 feats:c.feats.length≤60
 names:(c.feats.map λf=>f.name).Nodup
 fsmall:∀ f∈c.feats,small f.name=true
 fkind:∀ f∈c.feats,1≤f.kind/\f.kind≤3/\(f.kind=1->f.args=[]/\f.ty.kind≠0)
 tosmall:∀ p∈c.pars,∀ x∈p.ren,small x.to=true
 ren:∀ p∈c.pars,(p.ren.map λx=>x.fro).Nodup
theorem Io {fs:List Fe} (h:∀ (i:Nat) (f:Fe),fs[i]? = some f->((fs.take i).any λg=>g.name == f.name)=false):(fs.map λf=>f.name).Nodup:=by
 rw [List.nodup_iff_pairwise_ne,List.pairwise_iff_getElem]
 intro i j hi hj hij
 simp only [List.length_map] at hi hj
 rw [List.getElem_map,List.getElem_map]
 intro e
 have h1:=h j fs[j]<|List.getElem?_eq_getElem hj
 have:fs[i]∈fs.take j:=by rw [List.mem_take_iff_getElem]; exact ⟨i,by omega,rfl⟩
 have h2:=List.any_eq_false.1 h1 _ this
 simp [e] at h2
theorem gm {l:FS} {c:FC} (h:kH l c=0):CRight l c:=by
 unfold kH at h
 split at h
 ·cases h
 rename_i q1
 split at h
 ·cases h
 rename_i q2
 split at h
 ·cases h
 rename_i q3
 split at h
 ·rename_i q; exact absurd h q
 rename_i q4
 have q4:=Classical.not_not.1 q4
 unfold AB at q4
 split at q4
 ·cases q4
 rename_i q5
 have h1:=yG.1 q4
 have h2:=yG.1 h
 have h3:∀ (i:Nat) (f:Fe),c.feats[i]? = some f->xw c.feats (f,i)=0:=λi f hf=>h1 _<|List.mem_map.2 ⟨(f,i),List.mem_zipIdx_iff_getElem?.2 hf,rfl⟩
 have h4:∀ (i:Nat) (f:Fe),c.feats[i]? = some f->small f.name=true/\((c.feats.take i).any λg=>g.name == f.name)=false/\1≤f.kind/\f.kind≤3/\(f.kind=1->f.args=[]/\f.ty.kind≠0):=λi f hf=>by
  have:=h3 i f hf
  unfold xw at this
  simp only [] at this
  split at this
  ·cases this
  rename_i k1
  split at this
  ·cases this
  rename_i k2
  split at this
  ·cases this
  rename_i k3
  simp only [not_or,not_and] at k3
  exact ⟨by simpa using k1,by simpa using k2,by omega,by omega,λhk=>⟨Classical.not_not.1 (k3.2.2 hk).1,(k3.2.2 hk).2⟩⟩
 have h5:∀ p∈c.pars,FY p=0:=λp hp=>h2 _<|List.mem_map.2 ⟨p,hp,rfl⟩
 have h6:∀ p∈c.pars,(p.ren.any λx => !small x.to)=false/\(p.ren.map λx=>x.fro).Nodup:=λp hp=>by
  have:=h5 p hp
  unfold FY at this
  split at this
  ·cases this
  rename_i k1
  split at this
  ·rename_i k2; exact ⟨by simpa using k1,k2⟩
  ·cases this
 refine ⟨by omega,Classical.not_not.1 q2,λp hp=>?_,by omega,Io λi f hf=>(h4 i f hf).2.1,λf hf=>?_,λf hf=>?_,λp hp x hx=>?_,λp hp=>(h6 p hp).2⟩
 ·have:=List.any_eq_false.1 (Bool.not_eq_true _ ▸ q3) p hp
  simpa using this
 ·obtain ⟨i,hi,rfl⟩:=List.getElem_of_mem hf
  exact (h4 i _<|List.getElem?_eq_getElem hi).1
 ·obtain ⟨i,hi,rfl⟩:=List.getElem_of_mem hf
  exact (h4 i _<|List.getElem?_eq_getElem hi).2.2
 ·have:=List.any_eq_false.1 (h6 p hp).1 x hx
  simpa using this

/-! ### What the calls return -/
def kw (l:FS):Cf×Bool×Int :=
 if (bX l).1≠0 then (cf0,false,(bX l).1) else if (build l).2.2=3 then (cf0,false,3) else ((build l).2.1,(build l).2.2 == 10,0)
def wholeE (l:FS) (ns:List Nm):Int:=if (bX l).1≠0 then (bX l).1 else if ns.all (λn=>(bJ l n).isSome) then (build l).2.2 else 5
def gI (l:FS):List Fl×Int:=if wholeE l []≠0 then ([],wholeE l []) else ((build l).1.map λp=>p.2,0)
def sS (l:FS) (x:Cf):List Nm->List (Nm×Fl)->Int
 | [],_=>11
 | n::t,fs=>if n=x.cls then (if (rf l fs n true).conflicts.contains x then 0 else 11)
  else if (rf l fs n false).conflicts≠[] then 11 else if over (lJ l fs n) then 11 else sS l x t (fs++[(n,flatOf l (ae l n) (lJ l fs n))])
def lL (l:FS) (x:Cf):Int:=if (bX l).1≠0 then (bX l).1 else if (bJ l x.cls).isNone then 11 else sS l x (above (bn l) x.cls) []
section
variable {l:FS}
theorem gW (hr:Right (bn l)) {n:Nm}:n∈order (bn l)↔(bJ l n).isSome=true:=by
 rw [(jE hr.acyc hr.uniq).2,<- dD,fD]
theorem CK (h:(bX l).1≠0):kw l=(cf0,false,(bX l).1)/\gI l=([],(bX l).1)/\∀ x,lL l x=(bX l).1:=by
 have hw:wholeE l []=(bX l).1:=by unfold wholeE; rw [if_pos h]
 exact ⟨by unfold kw; rw [if_pos h],by unfold gI; rw [hw,if_pos h],λx=>by unfold lL; rw [if_pos h]⟩
theorem AC (h:(bX l).1=0):kw l=(if (build l).2.2=3 then (cf0,false,3) else ((build l).2.1,(build l).2.2 == 10,0))/\(gI l).2=(build l).2.2:=by
 have h':¬ (bX l).1≠0:=λh2=>h2 h
 have hw:wholeE l []=(build l).2.2:=by unfold wholeE; rw [if_neg h']; rfl
 refine ⟨by unfold kw; rw [if_neg h'],?_⟩
 unfold gI; rw [hw]
 split
 ·rfl
 ·rename_i h; exact (Classical.not_not.1 h).symm
end
theorem ng {α : Type} {r : α -> α -> Prop} (irr : ∀ a, ¬ r a a) (asy : ∀ a b, r a b -> ¬ r b a) : ∀ {xs ys : List α}, xs.Pairwise r -> ys.Pairwise r -> (∀ a, a ∈ xs ↔ a ∈ ys) -> xs = ys
 | [],[],_,_,_=>rfl
 | [],y::t,_,_,h=>absurd ((h y).2 (by simp)) (by simp)
 | x::s,[],_,_,h=>absurd ((h x).1 (by simp)) (by simp)
 | x::s,y::t,h1,h2,h=>by
  obtain ⟨a1,a2⟩:=List.pairwise_cons.1 h1
  obtain ⟨b1,b2⟩:=List.pairwise_cons.1 h2
  have hxy:x=y:=by
   rcases List.mem_cons.1 ((h x).1 (by simp)) with e | e
   ·exact e
   rcases List.mem_cons.1 ((h y).2 (by simp)) with e2 | e2
   ·exact e2.symm
   ·exact absurd (b1 x e)<|asy _ _<|a1 y e2
  subst hxy
  refine congrArg _ (ng irr asy a2 b2 λa=>⟨λha=>?_,λha=>?_⟩)
  ·rcases List.mem_cons.1 ((h a).1 (by simp [ha])) with e | e
   ·subst e; exact absurd (a1 _ ha) (irr _)
   ·exact e
  ·rcases List.mem_cons.1 ((h a).2 (by simp [ha])) with e | e
   ·subst e; exact absurd (b1 _ ha) (irr _)
   ·exact e
def si (xs:List Mb):Prop:=xs.Pairwise λa b=>lt a.name b.name=true
theorem vR:∀ {o:List Mb} {x y:Mb},y∈y7 o x↔y∈o∨y=x
 | [],x,y=>by simp [y7]
 | z::t,x,y=>by
  unfold y7
  split
  ·rw [List.mem_cons,or_comm]
  ·rw [List.mem_cons,vR,List.mem_cons,or_assoc]
theorem FZ : ∀ {o : List Mb} {x : Mb}, si o -> (∀ y ∈ o, y.name ≠ x.name) -> si (y7 o x)
 | [],x,_,_=>by simp [y7,si]
 | z :: t, x, h, hn => by
  obtain ⟨h1,h2⟩:=List.pairwise_cons.1 h
  unfold y7
  split
  ·rename_i hz
   refine List.pairwise_cons.2 ⟨λy hy=>?_,h⟩
   rcases List.mem_cons.1 hy with rfl | hy
   ·exact hz
   ·exact lt_trans hz<|h1 y hy
  ·rename_i hz
   have hx:lt z.name x.name=true:=by
    rcases dU x.name z.name with h | h | h
    ·exact absurd h hz
    ·exact absurd h.symm<|hn z<|by simp
    ·exact h
   refine List.pairwise_cons.2 ⟨λy hy=>?_,FZ h2 λy hy=>hn y<|by simp [hy]⟩
   rcases vR.1 hy with hy | rfl
   ·exact h1 y hy
   ·exact hx
theorem iQ {xs:List Mb} (hn:(xs.map λm=>m.name).Nodup):si (q9 xs)/\∀ y,y∈q9 xs↔y∈xs:=by
 have key : ∀ (xs o : List Mb), si o -> (xs.map λm => m.name).Nodup -> (∀ x ∈ xs, ∀ y ∈ o, y.name ≠ x.name) -> si (xs.foldl y7 o) /\ ∀ y, y ∈ xs.foldl y7 o ↔ y ∈ o ∨ y ∈ xs := by
  intro xs
  induction xs with
  | nil=>intro o h _ _; exact ⟨h,λy=>by simp⟩
  | cons x t ih =>
   intro o h hn hd
   rw [List.map_cons,List.nodup_cons] at hn
   obtain ⟨h1,h2⟩:=ih (y7 o x) (FZ h λy hy=>hd x (by simp) y hy) hn.2 λz hz y hy=>by
    rcases vR.1 hy with hy | rfl
    ·exact hd z (by simp [hz]) y hy
    ·exact λe=>hn.1 (by rw [e]; exact List.mem_map.2 ⟨z,hz,rfl⟩)
   refine ⟨h1,λy=>?_⟩
   rw [List.foldl_cons,h2,vR,List.mem_cons,or_assoc]
 obtain ⟨h1,h2⟩:=key xs [] List.Pairwise.nil hn<|by simp
 exact ⟨h1,λy=>by rw [show q9 xs=xs.foldl y7 [] from rfl,h2]; simp⟩
theorem yH {xs ys:List Mb} (h1:si xs) (h2:si ys) (h:∀ m,m∈xs↔m∈ys):xs=ys :=
 ng (r:=λ(a b:Mb)=>lt a.name b.name=true) (λa h=>by rw [lt_irrefl] at h; cases h) (λa b h g=>by rw [iF h] at g; cases g) h1 h2 h
theorem si.nodup {xs:List Mb} (h:si xs):(xs.map λm=>m.name).Nodup:=by
 rw [List.nodup_iff_pairwise_ne,List.pairwise_map]
 exact h.imp λ{a b} hab e=>by rw [e,lt_irrefl] at hab; cases hab
theorem Ip {xs:List Mb} {n:Nm} {m:Mb} (h:dA xs n=some m):m∈xs/\m.name=n:=⟨List.mem_of_find?_eq_some h,by simpa using List.find?_some h⟩
theorem rV {xs:List Mb} (hn:(xs.map λm=>m.name).Nodup) {m:Mb} (h:m∈xs):dA xs m.name=some m:=by
 induction xs with
 | nil=>cases h
 | cons x t ih =>
  rw [List.map_cons,List.nodup_cons] at hn
  unfold dA
  rcases List.mem_cons.1 h with rfl | h
  ·rw [List.find?_cons_of_pos (by simp)]
  ·have hne:x.name≠m.name:=λe=>hn.1 (by rw [e]; exact List.mem_map.2 ⟨m,h,rfl⟩)
   rw [List.find?_cons_of_neg (by simpa using hne)]
   exact ih hn.2 h
/-! ### Seeds -/
theorem pF (a:Sd):slt a a=false:=by simp [slt,lt_irrefl]
theorem rW {a b c:Sd} (h1:slt a b=true) (h2:slt b c=true):slt a c=true:=by
 unfold slt at *
 simp only [Bool.or_eq_true,Bool.and_eq_true,beq_iff_eq] at *
 rcases h1 with h1 | ⟨h1,h3⟩ <;> rcases h2 with h2 | ⟨h2,h4⟩
 ·exact .inl<|lt_trans h1 h2
 ·exact .inl (h2 ▸ h1)
 ·exact .inl (h1 ▸ h2)
 ·exact .inr ⟨h1.trans h2,lt_trans h3 h4⟩
theorem rX (a b:Sd):slt a b=true∨a=b∨slt b a=true:=by
 obtain ⟨a1,a2⟩:=a
 obtain ⟨b1,b2⟩:=b
 unfold slt
 simp only [Bool.or_eq_true,Bool.and_eq_true,beq_iff_eq,Sd.mk.injEq]
 rcases dU a1 b1 with h | h | h
 ·exact .inl<|.inl h
 ·rcases dU a2 b2 with g | g | g
  ·exact .inl<|.inr ⟨h,g⟩
  ·exact .inr<|.inl ⟨h,g⟩
  ·exact .inr<|.inr<|.inr ⟨h.symm,g⟩
 ·exact .inr<|.inr<|.inl h
theorem K3 {a b:Sd} (h:slt a b=true):¬ slt b a=true:=λh2=>by
 have:=rW h h2
 rw [pF] at this; cases this
def y8 (xs:List Sd):Prop:=xs.Pairwise λa b=>slt a b=true
theorem AJ : ∀ {o : List Sd} {x y : Sd}, y ∈ yZ o x ↔ y ∈ o ∨ y = x
 | [],x,y=>by simp [yZ]
 | z :: t, x, y => by
  unfold yZ
  split
  ·rw [List.mem_cons,or_comm]
  ·split
   ·rename_i h; subst h
    exact ⟨.inl,λh=>h.elim id λh=>h ▸ List.mem_cons_self⟩
   ·rw [List.mem_cons,AJ,List.mem_cons,or_assoc]
theorem F3 : ∀ {o : List Sd} {x : Sd}, y8 o -> y8 (yZ o x)
 | [],x,_=>by simp [yZ,y8]
 | z :: t, x, h => by
  obtain ⟨h1,h2⟩:=List.pairwise_cons.1 h
  unfold yZ
  split
  ·rename_i hz
   refine List.pairwise_cons.2 ⟨λy hy=>?_,h⟩
   rcases List.mem_cons.1 hy with rfl | hy
   ·exact hz
   ·exact rW hz<|h1 y hy
  ·rename_i hz
   split
   ·exact h
   ·rename_i hne
    have hx:slt z x=true:=by
     rcases rX x z with h | h | h
     ·exact absurd h hz
     ·exact absurd h hne
     ·exact h
    refine List.pairwise_cons.2 ⟨λy hy=>?_,F3 h2⟩
    rcases AJ.1 hy with hy | rfl
    ·exact h1 y hy
    ·exact hx
theorem jf (xs:List Sd):y8 (qZ xs)/\∀ y,y∈qZ xs↔y∈xs:=by
 have key:∀ (xs o:List Sd),y8 o->y8 (xs.foldl yZ o)/\∀ y,y∈xs.foldl yZ o↔y∈o∨y∈xs:=by
  intro xs
  induction xs with
  | nil=>intro o h; exact ⟨h,λy=>by simp⟩
  | cons x t ih =>
   intro o h
   obtain ⟨h1,h2⟩:=ih (yZ o x)<|F3 h
   refine ⟨h1,λy=>?_⟩
   rw [List.foldl_cons,h2,AJ,List.mem_cons,or_assoc]
 obtain ⟨h1,h2⟩:=key xs [] List.Pairwise.nil
 exact ⟨h1,λy=>by rw [show qZ xs=xs.foldl yZ [] from rfl,h2]; simp⟩
theorem F4 {xs ys:List Sd} (h1:y8 xs) (h2:y8 ys) (h:∀ m,m∈xs↔m∈ys):xs=ys :=
 ng (r:=λ(a b:Sd)=>slt a b=true) (λa h=>by rw [pF] at h; cases h) (λ_ _ h=>K3 h) h1 h2 h

/-! ### Members of a class -/
section
variable {l:FS}
theorem jY {cs:List Cm} {n:Nm}:n∈keys cs↔∃ x∈cs,x.mem.name=n:=by
 unfold keys
 rw [zH,List.mem_map]; simp
theorem gX (cs:List Cm):(keys cs).Nodup:=by
 have : ∀ (xs o : List Nm), o.Nodup -> (dd o xs).Nodup := by
  intro xs
  induction xs with
  | nil=>exact λ_ h=>h
  | cons x t ih =>
   intro o h
   refine ih (Hr.step o x) ?_
   by_cases hx:x∈o
   ·rw [lq hx]; exact h
   ·rw [nD hx]
    refine List.nodup_append.2 ⟨h,by simp,λa ha b hb=>?_⟩
    simp only [List.mem_singleton] at hb
    subst hb
    exact λe=>hx (e ▸ ha)
 exact this _ [] List.nodup_nil
theorem fM {cs:List Cm} {n:Nm} {x:Cm}:x∈under cs n↔x∈cs/\x.mem.name=n:=by simp [under]
theorem mI (l:List Cm) (h:l≠[]):∃ x∈l,(joined l).name=x.mem.name/\(joined l).kind=x.mem.kind/\(joined l).impl=x.mem.impl/\(joined l).args=x.mem.args/\(joined l).ty=x.mem.ty/\(joined l).clients=x.mem.clients:=by
 unfold joined
 cases hf:l.find? (λ(x:Cm) => !x.dfd) with
 | some x=>exact ⟨x,List.mem_of_find?_eq_some hf,rfl,rfl,rfl,rfl,rfl,rfl⟩
 | none =>
  cases l with
  | nil=>exact absurd rfl h
  | cons x t=>exact ⟨x,by simp,rfl,rfl,rfl,rfl,rfl,rfl⟩
theorem yI {cs:List Cm} {n:Nm} (h:n∈keys cs):(joined (under cs n)).name=n:=by
 obtain ⟨x,hx,hn⟩:=jY.1 h
 obtain ⟨y,hy,h1,_⟩:=mI (under cs n)<|List.ne_nil_of_mem<|fM.2 ⟨hx,hn⟩
 rw [h1]; exact (fM.1 hy).2
theorem CL (c:FC) (f:Fe) (l:List Cm):(jK c f l).name=f.name:=by unfold jK; simp only []; split <;> rfl
theorem K4 {c:FC} {n:Nm} {f:Fe} (h:feat c n=some f):f∈c.feats/\f.name=n:=⟨List.mem_of_find?_eq_some h,by simpa using List.find?_some h⟩
theorem F5 {c:FC} (hn:(c.feats.map λf=>f.name).Nodup) {f:Fe} (h:f∈c.feats):feat c f.name=some f:=by
 unfold feat
 generalize c.feats=xs at hn h
 induction xs with
 | nil=>cases h
 | cons x t ih =>
  rw [List.map_cons,List.nodup_cons] at hn
  rcases List.mem_cons.1 h with rfl | h
  ·rw [List.find?_cons_of_pos (by simp)]
  ·have hne:x.name≠f.name:=λe=>hn.1 (by rw [e]; exact List.mem_map.2 ⟨f,h,rfl⟩)
   rw [List.find?_cons_of_neg (by simpa using hne)]
   exact ih hn.2 h
def tY (cs:List Cm) (c:FC):List Mb:=((keys cs).filter λn=>(feat c n).isNone).map (λn=>joined<|under cs n)++c.feats.map λf=>jK c f<|under cs f.name
theorem K5 (cs:List Cm) (c:FC):(tY cs c).map (λm=>m.name)=((keys cs).filter λn=>(feat c n).isNone)++c.feats.map λf=>f.name:=by
 unfold tY
 rw [List.map_append,List.map_map,List.map_map]
 congr 1
 ·refine (List.map_congr_left λn hn=>?_).trans<|List.map_id _
  exact yI (List.mem_filter.1 hn).1
 ·exact List.map_congr_left λf _=>CL c f _
theorem CO (cs:List Cm) {c:FC} (hn:(c.feats.map λf=>f.name).Nodup):((tY cs c).map λm=>m.name).Nodup:=by
 rw [K5]
 refine List.nodup_append.2 ⟨(gX cs).filter _,hn,λa ha b hb e=>?_⟩
 subst e
 obtain ⟨f,hf,rfl⟩:=List.mem_map.1 hb
 have:=(List.mem_filter.1 ha).2
 rw [F5 hn hf] at this; cases this
theorem pG (cs:List Cm) {c:FC} (hn:(c.feats.map λf=>f.name).Nodup):si (members cs c)/\∀ m,m∈members cs c↔m∈tY cs c:=iQ (CO cs hn)
theorem yJ {cs:List Cm} {c:FC} (hn:(c.feats.map λf=>f.name).Nodup) {m:Mb}:m∈members cs c↔(∃ n,(∃ x∈cs,x.mem.name=n)/\feat c n=none/\m=joined (under cs n))∨∃ f∈c.feats,m=jK c f (under cs f.name):=by
 rw [(pG cs hn).2]
 unfold tY
 rw [List.mem_append,List.mem_map,List.mem_map]
 constructor
 ·rintro (⟨n,h,rfl⟩ | ⟨f,h,rfl⟩)
  ·obtain ⟨h1,h2⟩:=List.mem_filter.1 h
   exact .inl ⟨n,jY.1 h1,by simpa using h2,rfl⟩
  ·exact .inr ⟨f,h,rfl⟩
 ·rintro (⟨n,h1,h2,rfl⟩ | ⟨f,h,rfl⟩)
  ·exact .inl ⟨n,List.mem_filter.2 ⟨jY.2 h1,by rw [h2]; rfl⟩,rfl⟩
  ·exact .inr ⟨f,h,rfl⟩
end
def eD (l:FS) (n:Nm):Fl×Int:=if wholeE l [n]≠0 then (fl0,wholeE l [n]) else (look (build l).1 n,0)
def bL (l:FS) (ns:List Nm) (c n:Nm):Mb×Int:=if wholeE l (ns++[c])≠0 then (mb0,wholeE l (ns++[c])) else match dA (look (build l).1 c).mems n with
 | some m=>(m,0)
 | none=>(mb0,4)
def checkFl (l:FS) (f:List Fl):Int:=if (bX l).1≠0 then (bX l).1 else if (gI l).2≠0∨(gI l).1≠f then 11 else 0
section
variable {l:FS}
structure Good (l:FS):Prop where
 right:FRight l
 ok:∀ n,(bJ l n).isSome=true->okF l n
theorem Good.sys (h:Good l):Right (bn l):=h.right.sys
theorem AL:(gI l).2=0↔Good l:=by
 by_cases hf:(bX l).1=0
 ·have hR:=je.1 hf
  have hr:=hR.sys
  rw [(AC hf).2,FU hr]
  constructor
  ·intro h
   exact ⟨hR,λn hn=>(scan_ok h).2.2 n ((gW hr).2 hn)⟩
  ·intro h
   rw [FV λn hn=>h.ok n ((gW hr).1 hn)]
 ·rw [(CK hf).2.1]
  exact ⟨λh=>absurd h hf,λh=>absurd (je.2 h.right) hf⟩
theorem Good.check (h:Good l):(bX l).1=0:=je.2 h.right
theorem Good.scan (h:Good l):Fl.scan l (order (bn l))=(order (bn l),cf0,0):=FV λn hn=>h.ok n ((gW h.sys).1 hn)
theorem Good.build (h:Good l):Fl.build l=(forms l (order (bn l)),cf0,0):=by rw [FU h.sys,h.scan]
theorem Good.look (h:Good l) {n:Nm} (hn:(bJ l n).isSome=true):Fl.look (Fl.build l).1 n=FL l n:=by
 rw [h.build]; exact pg ((gW h.sys).2 hn)
theorem Good.whole (h:Good l) {ns:List Nm}:wholeE l ns=0↔∀ n∈ns,(bJ l n).isSome=true:=by
 unfold wholeE
 rw [if_neg (λh2=>h2 h.check),h.build]
 split
 ·rename_i h2; simpa using h2
 ·rename_i h2
  refine ⟨λh=>(by cases h),λh3=>absurd (by simpa using h3) h2⟩
theorem Good.wholeE (h:Good l) {ns:List Nm} (hn:¬ ∀ n∈ns,(bJ l n).isSome=true):Fl.wholeE l ns=5:=by
 unfold Fl.wholeE
 rw [if_neg (λh2=>h2 h.check),if_neg (by simpa using hn)]
theorem Good.flats (h:Good l):gI l=((order (bn l)).map (FL l),0):=by
 unfold gI
 rw [if_neg (λh2=>h2<|h.whole.2<|by simp),h.build]
 simp [forms]
theorem Good.flatOf (h:Good l) {n:Nm} (hn:(bJ l n).isSome=true):eD l n=(FL l n,0):=by
 unfold eD
 rw [if_neg (λh2=>h2<|h.whole.2<|by simpa using hn),h.look hn]
theorem Good.class (h:Good l) {n:Nm} (hn:(bJ l n).isSome=true):CRight l (ae l n)/\(ae l n).name=n/\ae l n∈l:=by
 obtain ⟨c,hc⟩:=Option.isSome_iff_exists.1 hn
 rw [iq hc]
 have hm:=List.mem_of_find?_eq_some hc
 exact ⟨gm (h.right.form c hm),o9 hc,hm⟩
theorem Good.mems (h:Good l) {n:Nm} (hn:(bJ l n).isSome=true):(FL l n).name=n/\(FL l n).mems=msF l n/\si (msF l n)/\∀ m,m∈msF l n↔(∃ k,(∃ x∈comes (FL l) l (ae l n),x.mem.name=k)/\feat (ae l n) k=none/\m=joined (under (comes (FL l) l (ae l n)) k))∨∃ f∈(ae l n).feats,m=jK (ae l n) f (under (comes (FL l) l (ae l n)) f.name):=by
 obtain ⟨h1,h2,_⟩:=h.class hn
 refine ⟨by rw [FL_name h.sys,h2],iy h.sys n,(pG _ h1.names).1,λm=>yJ h1.names⟩
theorem Good.member (h:Good l) {ns:List Nm} {c n:Nm} (hns:∀ k∈ns,(bJ l k).isSome=true) (hc:(bJ l c).isSome=true):bL l ns c n=match dA (msF l c) n with
  | some m=>(m,0)
  | none=>(mb0,4):=by
 have hw:Fl.wholeE l (ns++[c])=0:=h.whole.2 λk hk=>by
  rcases List.mem_append.1 hk with hk | hk
  ·exact hns k hk
  ·rw [List.mem_singleton.1 hk]; exact hc
 unfold bL
 rw [hw,if_neg (by decide),h.look hc,iy h.sys]
end
section
variable {l:FS}
theorem NA {o:List Grp} {g x:Grp}:x∈vH o g↔x∈o∨x=g:=by
 unfold vH
 split
 ·rename_i h
  have h:g∈o:=by simpa using h
  exact ⟨.inl,λh2=>h2.elim id λe=>e ▸ h⟩
 ·simp
theorem NB {o l:List Grp} {x:Grp}:x∈q8 o l↔x∈o∨x∈l:=by
 unfold q8
 induction l generalizing o with
 | nil=>simp
 | cons g t ih=>rw [List.foldl_cons,ih,NA,List.mem_cons,or_assoc]
theorem lM {ls:List (List Grp)} {x:Grp}:x∈groups ls↔∃ a∈ls,x∈a:=by
 have key:∀ (ls:List (List Grp)) (o:List Grp),x∈ls.foldl q8 o↔x∈o∨∃ a∈ls,x∈a:=by
  intro ls
  induction ls with
  | nil=>intro o; simp
  | cons a t ih=>intro o; rw [List.foldl_cons,ih,NB,or_assoc]; simp
 have:=key ls []
 simpa [groups] using this
theorem qi {cs:List Cm} {f:Cm->List Grp} {x:Grp}:x∈cs.foldl (λ(o:List Grp) (y:Cm)=>groups [o,f y]) []↔∃ y∈cs,x∈f y:=by
 have key:∀ (cs:List Cm) (o:List Grp),x∈cs.foldl (λ(o:List Grp) (y:Cm)=>groups [o,f y]) o↔x∈o∨∃ y∈cs,x∈f y:=by
  intro cs
  induction cs with
  | nil=>intro o; simp
  | cons a t ih=>intro o; rw [List.foldl_cons,ih,lM]; simp [or_assoc]
 have:=key cs []
 simpa using this
theorem kN {cs:List Cm} {s:Sd}:s∈(joined cs).seeds↔∃ x∈cs,s∈x.mem.seeds:=by
 show s∈qZ _↔_
 rw [(jf _).2,List.mem_flatMap]
theorem tZ {cs:List Cm} {g:Grp}:g∈(joined cs).pre↔∃ x∈cs,g∈x.mem.pre:=qi (f:=λx=>x.mem.pre)
theorem rz {cs:List Cm} {g:Grp}:g∈(joined cs).post↔∃ x∈cs,g∈x.mem.post:=qi (f:=λx=>x.mem.post)
theorem CP {c:FC} {f:Fe} {cs:List Cm} (h:cs≠[]):(jK c f cs).seeds=(joined cs).seeds/\(jK c f cs).args=f.args/\(∀ g∈(joined cs).pre,g∈(jK c f cs).pre)/\(∀ g∈(joined cs).post,g∈(jK c f cs).post):=by
 unfold jK
 simp only []
 rw [if_neg h]
 exact ⟨rfl,rfl,λg hg=>lM.2 ⟨_,by simp,hg⟩,λg hg=>lM.2 ⟨_,by simp,hg⟩⟩
theorem K6 {c:FC} {f:Fe}:(jK c f []).seeds=[⟨c.name,f.name⟩]:=rfl
theorem AO {a b:Mb}:Sk.sameTy a b=true↔a.args=b.args/\a.ty=b.ty:=by simp [Sk.sameTy]
theorem flatMap_nil {α β : Type} {f : α -> List β} {xs:List α} (h:xs.flatMap f=[]):∀ x∈xs,f x=[]:=λx hx=>by
 cases hf:f x with
 | nil=>rfl
 | cons y t =>
  have:y∈xs.flatMap f:=List.mem_flatMap.2 ⟨x,hx,by rw [hf]; simp⟩
  rw [h] at this; cases this
structure Calm (l:FS) (n:Nm):Prop where
 lost:(skF l n false).lost=[]
 redecl:(skF l n false).redeclared=[]
 typed:(skF l n false).typed=[]
 chosen:(skF l n false).chosen=[]
 apart:(skF l n false).apart=[]
theorem okF.calm {n:Nm} (h:okF l n):Calm l n:=by
 have h1:(skF l n false).conflicts=[]:=h.1
 unfold Sk.conflicts at h1
 simp only [List.append_eq_nil_iff] at h1
 exact ⟨h1.1,h1.2.1,h1.2.2.1,h1.2.2.2.1,h1.2.2.2.2⟩
theorem CQ {fl:Nm->Fl} {c:FC} {i:Nat} {p:Pt} {m:Mb} (hp:c.pars[i]? = some p) (hm:m∈(fl p.name).mems):qY (ae l p.name).forms i p m∈comes fl l c :=
 List.mem_flatMap.2 ⟨(p,i),List.mem_zipIdx_iff_getElem?.2 hp,List.mem_map.2 ⟨m,hm,rfl⟩⟩
theorem K7 {s:Sk} {n:Nm}:n∈s.skeys↔∃ x∈s.cs,x.mem.name=n:=by
 unfold Sk.skeys
 rw [(iG _).2,jY]
theorem Good.come (h : Good l) {n : Nm} (hn : (bJ l n).isSome = true) {x : Cm} (hx : x ∈ comes (FL l) l (ae l n)) :
  ∃ m∈msF l n,m.name=x.mem.name/\(∀ s∈x.mem.seeds,s∈m.seeds)/\m.args=x.mem.args/\(∀ g∈x.mem.pre,g∈m.pre)/\(∀ g∈x.mem.post,g∈m.post):=by
 have hc:=(h.ok n hn).calm
 obtain ⟨g1,g2,g3,g4⟩:=h.mems hn
 obtain ⟨k1,k2,k3⟩:=h.class hn
 have hu:x∈under (comes (FL l) l<|ae l n) x.mem.name:=fM.2 ⟨hx,rfl⟩
 have ht:=(List.append_eq_nil_iff.1 hc.typed).1
 have hk:x.mem.name∈(skF l n false).skeys:=K7.2 ⟨x,hx,rfl⟩
 have ht1:=flatMap_nil<|flatMap_nil ht _ hk
 cases hf:feat (ae l n) x.mem.name with
 | none =>
  refine ⟨joined (under (comes (FL l) l<|ae l n) x.mem.name),(g4 _).2 (.inl ⟨_,⟨x,hx,rfl⟩,hf,rfl⟩),yI (jY.2 ⟨x,hx,rfl⟩),λs hs=>kN.2 ⟨x,hu,hs⟩,?_,λg hg=>tZ.2 ⟨x,hu,hg⟩,λg hg=>rz.2 ⟨x,hu,hg⟩⟩
  obtain ⟨y,hy,_,_,_,hya,_⟩:=mI _<|List.ne_nil_of_mem hu
  rw [hya]
  have hs:∀ z∈under (comes (FL l) l<|ae l n) x.mem.name,∀ w,(under (comes (FL l) l<|ae l n) x.mem.name).head? = some w->w.mem.args=z.mem.args:=λz hz w hw=>by
   have h1:=ht1 z hz
   have hf':feat (skF l n false).c x.mem.name=none:=hf
   rw [hf'] at h1
   simp only [] at h1
   have hw':(under (skF l n false).cs x.mem.name).head? = some w:=hw
   rw [hw'] at h1
   by_cases hq:Sk.sameTy ((some w).getD z).mem z.mem=true
   ·exact (AO.1 hq).1
   ·rw [if_neg hq] at h1; cases h1
  cases hw:(under (comes (FL l) l<|ae l n) x.mem.name).head? with
  | none =>
   rw [List.head?_eq_none_iff] at hw
   rw [hw] at hu; cases hu
  | some w=>rw [<- hs y hy w hw,<- hs x hu w hw]
 | some f =>
  obtain ⟨hfm,hfn⟩:=K4 hf
  have hne:under (comes (FL l) l<|ae l n) f.name≠[]:=by rw [hfn]; exact List.ne_nil_of_mem hu
  obtain ⟨o1,o2,o3,o4⟩:=CP (c:=ae l n) (f:=f) hne
  refine ⟨jK (ae l n) f (under (comes (FL l) l<|ae l n) f.name),(g4 _).2 (.inr ⟨f,hfm,rfl⟩),by rw [CL,hfn],λs hs=>?_,?_,λg hg=>o3 g (tZ.2 ⟨x,by rw [hfn]; exact hu,hg⟩),λg hg=>o4 g<|rz.2 ⟨x,by rw [hfn]; exact hu,hg⟩⟩
  ·rw [o1]; exact kN.2 ⟨x,by rw [hfn]; exact hu,hs⟩
  ·rw [o2]
   have h1:=ht1 x hu
   have hf':feat (skF l n false).c x.mem.name=some f:=hf
   rw [hf'] at h1
   simp only [] at h1
   split at h1
   ·rename_i hq
    simp only [Bool.and_eq_true,decide_eq_true_eq] at hq
    exact hq.1
   ·cases h1
theorem Good.down (h:Good l) {a:Nm} {m:Mb} (hm:m∈msF l a):∀ c,(bJ l c).isSome=true->has (bn l) c a=true ->
  ∃ m'∈msF l c,(∀ s∈m.seeds,s∈m'.seeds)/\m'.args.length=m.args.length/\(∀ g∈m.pre,g∈m'.pre)/\(∀ g∈m.post,g∈m'.post):=by
 refine mQ h.sys.acyc λc ih hc ha=>?_
 rcases rO ha with rfl | ⟨p,hp,hpa⟩
 ·exact ⟨m,hm,λ_ h=>h,rfl,λ_ h=>h,λ_ h=>h⟩
 ·have hpc:(bJ l p).isSome=true:=by rw [<- dD]; exact kK hp
  obtain ⟨m1,hm1,i1,i2,i3,i4⟩:=ih p hp hpc hpa
  rw [vO h.sys] at hp
  obtain ⟨q,hq,rfl⟩:=List.mem_map.1 hp
  obtain ⟨i,hi,rfl⟩:=List.getElem_of_mem hq
  have hx:=CQ (fl:=FL l) (l:=l) (List.getElem?_eq_getElem hi) (m:=m1) (by rw [iy h.sys]; exact hm1)
  obtain ⟨m2,hm2,j1,j2,j3,j4,j5⟩:=h.come hc hx
  exact ⟨m2,hm2,λs hs=>j2 s (i1 s hs),by rw [j3]; show (m1.args.map _).length=_; rw [List.length_map,i2],λg hg=>j4 g (i3 g hg),λg hg=>j5 g<|i4 g hg⟩
theorem Good.seeds_ne (h:Good l):∀ c,(bJ l c).isSome=true->∀ m∈msF l c,m.seeds≠[]:=by
 refine mQ h.sys.acyc λc ih hc m hm=>?_
 have hj:∀ xs:List Cm,xs≠[]->(∀ x∈xs,x∈comes (FL l) l (ae l c))->(joined xs).seeds≠[]:=λxs hne hxs=>by
  obtain ⟨x,hx⟩:=List.exists_mem_of_ne_nil _ hne
  obtain ⟨p,hp,m1,hm1,he⟩:=jc<|hxs x hx
  have hpm:=eT h.sys<|List.mem_of_getElem? hp
  rw [iy h.sys] at hm1
  obtain ⟨s,hs⟩:=List.exists_mem_of_ne_nil _<|ih _ hpm (by rw [<- dD]; exact kK hpm) m1 hm1
  exact List.ne_nil_of_mem<|kN.2 ⟨x,hx,by rw [he]; exact hs⟩
 rcases ((h.mems hc).2.2.2 m).1 hm with ⟨n,⟨x,hx,hn⟩,_,rfl⟩ | ⟨f,hf,rfl⟩
 ·exact hj _ (List.ne_nil_of_mem<|fM.2 ⟨hx,hn⟩) λy hy=>(fM.1 hy).1
 ·by_cases hu:under (comes (FL l) l<|ae l c) f.name=[]
  ·rw [hu,K6]; simp
  ·rw [(CP hu).1]
   exact hj _ hu λy hy=>(fM.1 hy).1

/-! ### Names that are selected -/
theorem iR {ms:List Mb} {s:Sd} {n:Nm}:n∈aZ ms s↔∃ m∈ms,s∈m.seeds/\m.name=n:=by
 unfold aZ
 rw [List.mem_map]
 constructor
 ·rintro ⟨m,h,rfl⟩
  obtain ⟨h1,h2⟩:=List.mem_filter.1 h
  exact ⟨m,h1,by simpa using h2,rfl⟩
 ·rintro ⟨m,h1,h2,rfl⟩
  exact ⟨m,List.mem_filter.2 ⟨h1,by simpa using h2⟩,rfl⟩
theorem Good.pick_mem (h:Good l) {s:Sd} {c:Nm} (hc:(bJ l c).isSome=true) (hl:((picked (ae l c) (having (comes (FL l) l (ae l c)) s)).length == 1)=true) :
  jW (picked (ae l c)<|having (comes (FL l) l<|ae l c) s)∈aZ (msF l c) s:=by
 have hl:(picked (ae l c)<|having (comes (FL l) l<|ae l c) s).length=1:=by simpa using hl
 match hp:picked (ae l c) (having (comes (FL l) l<|ae l c) s),hl with
 | [a],_ =>
  show a∈_
  have ha:a∈picked (ae l c) (having (comes (FL l) l<|ae l c) s):=by rw [hp]; simp
  unfold picked at ha
  rw [zH] at ha
  rcases ha with ha | ha
  ·cases ha
  obtain ⟨x,hx,rfl⟩:=List.mem_map.1 ha
  obtain ⟨hx1,_⟩:=List.mem_filter.1 hx
  obtain ⟨hx2,hx3⟩:=List.mem_filter.1 hx1
  obtain ⟨m,hm,j1,j2,_⟩:=h.come hc hx2
  exact iR.2 ⟨m,hm,j2 s (by simpa using hx3),j1⟩
theorem Good.sel_mem (h:Good l) {s:Sd}:∀ (n:Nat) (c:Nm),(bJ l c).isSome=true->(eP (FL l) l n (ae l c) (msF l c) s).2=true->(eP (FL l) l n (ae l c) (msF l c) s).1∈aZ (msF l c) s:=by
 intro n
 induction n with
 | zero =>
  intro c hc
  unfold eP
  split
  ·rename_i a ha
   intro _; rw [ha]; simp
  ·simp only []
   split
   ·rename_i hq
    intro h1
    exact h.pick_mem hc h1
   ·split
    ·rename_i h2; cases h2
    ·intro h1; cases h1
 | succ n ih =>
  intro c hc
  unfold eP
  split
  ·rename_i a ha
   intro _; rw [ha]; simp
  ·simp only []
   split
   ·rename_i hq
    intro h1
    exact h.pick_mem hc h1
   ·split
    ·rename_i i t n' h1 h2
     cases h2
     have hi:i∈bZ (having (comes (FL l) l<|ae l c) s):=by rw [h1]; simp
     have hpm:dG (ae l c) i∈(ae l c).pars:=ru hi
     have hpp:=eT h.sys hpm
     have hpc:(bJ l (dG (ae l c) i).name).isSome=true:=by rw [<- dD]; exact kK hpp
     split
     ·intro h3
      rw [iy h.sys] at h3 ⊢
      obtain ⟨m,hm,hs,hmn⟩:=iR.1<|ih _ hpc h3
      have hpi:(ae l c).pars[i]? = some (dG (ae l c) i):=by
       obtain ⟨x,hx,rfl⟩:=o8.1 hi
       obtain ⟨p,hp,_⟩:=jc (List.mem_filter.1 hx).1
       unfold dG; rw [hp]; rfl
      obtain ⟨m2,hm2,j1,j2,_⟩:=h.come hc<|CQ (fl:=FL l) (l:=l) hpi (m:=m) (by rw [iy h.sys]; exact hm)
      refine iR.2 ⟨m2,hm2,j2 s hs,?_⟩
      rw [j1,<- hmn]; rfl
     ·intro h3; cases h3
    ·intro h1; cases h1
end
end Go.Fl
