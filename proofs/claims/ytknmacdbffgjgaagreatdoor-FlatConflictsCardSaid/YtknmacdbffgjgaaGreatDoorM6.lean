/-
  Package heir: the search for ancestors. Conditions: what is read,a system without rings.
-/
import Derived.Test.YtknmacdbffgjgaaGreatDoorM2
import Derived.Test.YtknmacdbffgjgaaGreatDoorM5
import Derived.ArgAppend
import Derived.Test.YtknmacdbffgjgaaGreatDoorM1
set_option linter.unusedVariables false
set_option linter.unusedSimpArgs false
set_option maxRecDepth 100000
set_option maxHeartbeats 16000000
namespace Go.Hr
open Go
inductive Kt
 | mk (kind:Int) (name:Nm) (args:List Kt) (void sep:Bool)
namespace Kt
def kind:Kt→Int | .mk k _ _ _ _=>k
def name:Kt→Nm | .mk _ n _ _ _=>n
def args:Kt→List Kt | .mk _ _ az _ _=>az
def void:Kt→Bool | .mk _ _ _ v _=>v
def sep:Kt→Bool | .mk _ _ _ _ s=>s
theorem ext {t u:Kt} (h1:t.kind=u.kind) (h2:t.name=u.name) (h3:t.args=u.args) (h4:t.void=u.void) (h5:t.sep=u.sep):t=u:=by
 cases t; cases u; simp only [kind,name,args,void,sep] at *; subst h1 h2 h3 h4 h5; rfl
end Kt
mutual
def Kt.same:Kt→Kt→Bool
 | .mk k n az v s,.mk k' n' az' v' s'=>k == k' && n == n' && v == v' && s == s' && Ab az az'
def Ab:List Kt→List Kt→Bool
 | [],[]=>true
 | a::t,b::u=>a.same b && Ab t u
 | [],_::_=>false
 | _::_,[]=>false
end
mutual
theorem same_iff:∀ (a b:Kt),a.same b=true↔a=b
 | .mk k n az v s,.mk k' n' az' v' s'=>by
  simp only [Kt.same,Bool.and_eq_true,beq_iff_eq,BZ az az',Kt.mk.injEq]
  constructor
  ·rintro ⟨⟨⟨⟨h1,h2⟩,h3⟩,h4⟩,h5⟩; exact ⟨h1,h2,h5,h3,h4⟩
  ·rintro ⟨h1,h2,h5,h3,h4⟩; exact ⟨⟨⟨⟨h1,h2⟩,h3⟩,h4⟩,h5⟩
theorem BZ:∀ (a b:List Kt),Ab a b=true↔a=b
 | [],[]=>by simp [Ab]
 | a::t,b::u=>by simp only [Ab,Bool.and_eq_true,same_iff a b,BZ t u,List.cons.injEq]
 | [],_::_=>by simp [Ab]
 | _::_,[]=>by simp [Ab]
end
instance:DecidableEq Kt:=fun a b=>decidable_of_iff _ (same_iff a b)
mutual
def Kt.depth:Kt→Nat
 | .mk _ _ az _ _=>Ac az+1
def Ac:List Kt→Nat
 | []=>0
 | a::t=>max a.depth (Ac t)
end
theorem oM:∀ {l:List Kt} {t:Kt},t∈l→t.depth≤Ac l
 | a::l,t,h=>by
  unfold Ac
  rcases List.mem_cons.1 h with rfl | h
  ·omega
  ·have:=oM h; omega
theorem jF {t a:Kt} (h:a∈t.args):a.depth<t.depth:=by
 cases t
 have:=oM h
 simp only [Kt.args] at this
 show a.depth<Ac _+1; omega
mutual
def Kt.parts:Kt→Nat
 | .mk _ _ az _ _=>1+MX az
def MX:List Kt→Nat
 | []=>0
 | a::t=>a.parts+MX t
end
structure Fm where
 name:Nm
 bound:Nm
def DR (F:List Fm) (n:Nm):Option Nat:=F.findIdx? fun f=>f.name == n
def Kt.flag (t:Kt) (v s:Bool):Kt:=.mk t.kind t.name t.args (t.void || v) (t.sep || s)
def Kt.with (t:Kt) (v s:Bool):Kt:=.mk t.kind t.name t.args v s
def nL (F:List Fm) (A:List Kt) (n:Nm):Option Kt:=(DR F n).bind fun i=>A[i]?
mutual
def Kt.subst (F:List Fm) (A:List Kt):Kt→Kt
 | .mk k n az v s=>if k=4 then (match nL F A n with | some t=>t.flag v s | none=>.mk k n az v s) else if k=3 then .mk k n (DT F A az) v s else .mk k n az v s
def DT (F:List Fm) (A:List Kt):List Kt→List Kt
 | []=>[]
 | a::t=>a.subst F A::DT F A t
end
section
variable {F G:List Fm} {A B:List Kt}
theorem Ad:∀ (l:List Kt),DT F A l=l.map (Kt.subst F A)
 | []=>rfl
 | a::t=>by rw [DT,Ad t]; rfl
theorem DU {n:Nm} {az:List Kt} {v s:Bool}:Kt.subst F A (.mk 4 n az v s)=(match nL F A n with | some t=>t.flag v s | none=>.mk 4 n az v s):=by
 rw [Kt.subst,if_pos rfl]
theorem EX {n:Nm} {az:List Kt} {v s:Bool}:Kt.subst F A (.mk 3 n az v s) = .mk 3 n (az.map (Kt.subst F A)) v s:=by
 rw [Kt.subst,if_neg (by decide),if_pos rfl,Ad]
inductive Cl (F:List Fm) (m:Nat):Kt→Prop
 | fml {n:Nm} {v s:Bool} {i:Nat}:DR F n=some i→i<m→Cl F m (.mk 4 n [] v s)
 | cls {n:Nm} {az:List Kt} {v s:Bool}:(∀ a∈az,Cl F m a)→Cl F m (.mk 3 n az v s)
theorem Hf {n:Nm} {i:Nat} (h:DR F n=some i) (hi:i<A.length):nL F A n=some A[i]:=by
 unfold nL; rw [h,Option.bind_some,List.getElem?_eq_getElem hi]
theorem Cl.subst {t:Kt} {m:Nat} (h:Cl G B.length t) (hB:∀ b∈B,Cl F m b):Cl F m (t.subst G B):=by
 induction h with
 | @fml n v s i hi hl =>
  rw [DU,Hf hi hl]
  have:=hB B[i] (List.getElem_mem hl)
  generalize B[i]=b at this
  cases this with
  | fml h1 h2=>exact .fml h1 h2
  | cls h1=>exact .cls h1
 | @cls n az v s _ ih =>
  rw [EX]
  refine .cls fun a ha=>?_
  obtain ⟨a',h1,rfl⟩:=List.mem_map.1 ha
  exact ih a' h1
def ownT (F:List Fm):List Kt:=F.map fun f=>.mk 4 f.name [] false false
end
end Go.Hr
namespace Go.Ck
open Go Go.RowKit

/-! ## Rows that are read -/
def Row {α : Type} (S:Res) (sz:Nat) (X:List Value → α → Prop) (v:Value) (l:List α):Prop :=
 ∃ a cap,v = .slice a l.length cap∧l.length≤cap∧cap≤maxLen∧(a=none→cap=0)∧∀ i x,l[i]? = some x→∃ b o us,a=some ⟨b,o,none⟩∧us.length=sz∧Rds S b (o+i * sz) us∧X us x
section
variable {α : Type} {S S':Res} {sz:Nat} {X X':List Value → α → Prop} {v:Value} {l:List α}
theorem Row.mono (h:Row S sz X v l) (hr:∀ p u,Rd S p u→Rd S' p u) (hx:∀ us x,x∈l→X us x→X' us x):Row S' sz X' v l:=by
 obtain ⟨a,cap,h1,h2,h3,h4,h5⟩:=h
 refine ⟨a,cap,h1,h2,h3,h4,fun i x hi=>?_⟩
 obtain ⟨b,o,us,g1,g2,g3,g4⟩:=h5 i x hi
 exact ⟨b,o,us,g1,g2,fun j hj=>hr _ _ (g3 j hj),hx _ _ (List.mem_of_getElem? hi) g4⟩
theorem Row.nil:Row S sz X (.slice none 0 0) []:=⟨none,0,rfl,Nat.le_refl _,Nat.zero_le _,fun _=>rfl,fun i x h=>by simp at h⟩
theorem Row.at (h:Row S sz X v l) {i:Nat} {x : α} (hi:l[i]? = some x):∃ b o cap us,v = .slice (some ⟨b,o,none⟩) l.length cap∧us.length=sz∧Rds S b (o+i * sz) us∧X us x:=by
 obtain ⟨a,cap,h1,h2,h3,h4,h5⟩:=h
 obtain ⟨b,o,us,g1,g2,g3,g4⟩:=h5 i x hi
 exact ⟨b,o,cap,us,by rw [h1,g1],g2,g3,g4⟩
theorem Row.one (h:Row S sz X v l):v.oneCell'=true:=by obtain ⟨a,cap,rfl,_⟩:=h; rfl
end
theorem Row.at1 {α : Type} {S:Res} {X:List Value → α → Prop} {v:Value} {l:List α} (h:Row S 1 X v l) {i:Nat} {x : α} (hi:l[i]? = some x):∃ b o cap u,v = .slice (some ⟨b,o,none⟩) l.length cap∧Rd S ⟨b,o+i * 1,none⟩ u∧X [u] x:=by
 obtain ⟨b,o,cap,us,h1,h2,h3,h4⟩:=h.at hi
 match us,h2 with
 | [u],_=>exact ⟨b,o,cap,u,h1,by simpa using h3 0 (by simp),h4⟩
theorem wZ {r:Res} {b o k:Nat} {us:List Value} {v:Value} (h:Rds r b o us) (hv:us[k]? = some v):Rd r ⟨b,o+k,none⟩ v:=by
 obtain ⟨hk,hv⟩:=List.getElem?_eq_some_iff.1 hv
 subst hv; exact h k hk
theorem bF {r:Res} {b o k:Nat} {us vs:List Value} (h:Rds r b o us) (hv:(us.drop k).take vs.length=vs):Rds r b (o+k) vs:=fun i hi=>by
 have h1:us[k+i]? = some vs[i]:=by
  have:vs[i]? = some vs[i]:=List.getElem?_eq_getElem hi
  rw [← this,← hv,List.getElem?_take,if_pos (by have:=congrArg List.length hv; simp at this; omega),List.getElem?_drop]
 rw [Nat.add_assoc]; exact wZ h h1
theorem bH {k:SH} {r:Res} {k':SH} (s:Sel k r k') (p:Addr) (v:Value) (h:Rd r p v):Rd (Res.star k) p v:=ry s h

/-! ## Contracts over many resources as one -/
theorem cZ {w:World} {L hr:SH}:Holds w (Res.star L::hr)↔Holds w (L++hr):=dA
theorem eP {P:Program} {k:FuncId} {args:Array Value} {L:SH} {v:Value} (h:Reads P k args [Res.star L] v):Reads P k args L v:=fun hr w hh =>
 (h hr w (cZ.2 hh)).mono fun _ _ ⟨u,h',he,⟨hu,hh'⟩,hH,hS⟩=>⟨u,L,he,⟨hu,rfl⟩,by subst hh'; exact cZ.1 hH,hS⟩
theorem kQ {P:Program} {k:FuncId} {args:Array Value} {L:SH} {v:Value} (h:Reads P k args L v):Reads P k args [Res.star L] v:=fun hr w hh =>
 (h hr w (cZ.1 hh)).mono fun _ _ ⟨u,h',he,⟨hu,hh'⟩,hH,hS⟩=>⟨u,_,he,⟨hu,rfl⟩,by subst hh'; exact cZ.2 hH,hS⟩
def CtN (P:Program) (k:FuncId) (args:Array Value) (hf:SH) (Q:Value→Res→Prop):Prop:=Ct P k args hf fun u h'=>∃ T,h'=T::hf∧Q u T
theorem jS {P:Program} {k:FuncId} {args:Array Value} {L:SH} {Q:Value→Res→Prop} (h:CtN P k args [Res.star L] Q):CtN P k args L Q:=fun hr w hh =>
 (h hr w (cZ.2 hh)).mono fun _ _ ⟨u,h',he,⟨T,hT,hQ⟩,hH,hS⟩=>⟨u,T::L,he,⟨T,rfl,hQ⟩,by
  subst hT
  have h1:Holds _ (T::Res.star L::hr):=hH
  have h2:Holds _ (Res.star L::T::hr):=h1.perm (.swap _ _ _)
  exact (cZ.1 h2).perm List.perm_middle,hS⟩
theorem CtN.mono {P:Program} {k:FuncId} {args:Array Value} {hf:SH} {Q Q':Value→Res→Prop} (h:CtN P k args hf Q) (hq:∀ u T,Q u T→Q' u T):CtN P k args hf Q':=Ct.mono h fun _ _ ⟨T,h1,h2⟩=>⟨T,h1,hq _ _ h2⟩

/-! ## Rows that are owned -/
def VR (v:Value) (E:TypeId) (sz:Nat) (rows:List (List Value)):Res where
 dom b:=∃ o m cp,v = .slice (some ⟨b,o,none⟩) m cp
 ok f:=(∀ r∈rows,r.length=sz)∧((v = .slice none 0 0∧rows=[])∨∃ b o cp pre j,v = .slice (some ⟨b,o,none⟩) rows.length cp∧f b=some (cl (pre++(rows.flatten++j)) E)∧pre.length=o∧rows.length≤cp∧cp≤maxLen∧cp * sz≤(rows.flatten++j).length)
 loc f g he:=fun ⟨h1,h2⟩=>⟨h1,h2.imp id fun ⟨b,o,cp,pre,j,hv,hb,hr⟩=>⟨b,o,cp,pre,j,hv,by rw [← he b ⟨o,_,cp,hv⟩]; exact hb,hr⟩⟩
 pres f:=fun ⟨_,h2⟩ b ⟨o,m,cp,hv⟩=>by
  rcases h2 with ⟨h3,_⟩ | ⟨b',o',cp',pre,j,h3,hb,_⟩
  ·rw [h3] at hv; cases hv
  ·rw [h3] at hv; cases hv; rw [hb]; rfl
section
variable {v:Value} {E:TypeId} {sz:Nat} {rows:List (List Value)} {f:Nat→Option Obj}
theorem VR.form (h:(VR v E sz rows).ok f):(v = .slice none 0 0∧rows=[])∨∃ b o cp,v = .slice (some ⟨b,o,none⟩) rows.length cp∧rows.length≤cp∧cp≤maxLen:=by
 rcases h.2 with h | ⟨b,o,cp,_,_,h1,_,_,h2,h3,_⟩
 ·exact .inl h
 ·exact .inr ⟨b,o,cp,h1,h2,h3⟩
theorem VR.one (h:(VR v E sz rows).ok f):v.oneCell'=true:=by rcases VR.form h with ⟨rfl,_⟩ | ⟨_,_,_,rfl,_⟩ <;> rfl
theorem VR.nil:(VR (.slice none 0 0) E sz []).ok f:=⟨by simp,.inl ⟨rfl,rfl⟩⟩
theorem oN {rows:List (List Value)} {sz m k:Nat} {r:List Value} {x:Value} (h:∀ r∈rows,r.length=sz) (hm:rows[m]? = some r) (hk:r[k]? = some x):rows.flatten[m * sz+k]? = some x:=by
 induction rows generalizing m with
 | nil=>simp at hm
 | cons q t ih =>
  have hq:=h q (by simp)
  cases m with
  | zero =>
   simp only [List.getElem?_cons_zero,Option.some.injEq] at hm
   subst hm
   rw [List.flatten_cons,Nat.zero_mul,Nat.zero_add,List.getElem?_append_left (List.getElem?_eq_some_iff.1 hk).1]; exact hk
  | succ m =>
   rw [List.getElem?_cons_succ] at hm
   rw [List.flatten_cons,List.getElem?_append_right (by rw [hq,Nat.succ_mul]; omega),hq,← ih (fun r hr=>h r (by simp [hr])) hm]
   congr 1
   rw [Nat.succ_mul]; omega
theorem iX {rows:List (List Value)} {sz:Nat} (h:∀ r∈rows,r.length=sz):rows.flatten.length=rows.length * sz:=by
 induction rows with
 | nil=>simp
 | cons q t ih=>rw [List.flatten_cons,List.length_append,h q (by simp),ih (fun r hr=>h r (by simp [hr])),List.length_cons,Nat.succ_mul]; omega
theorem EY {rows:List (List Value)} {sz j:Nat} {x:Value} (h:∀ r∈rows,r.length=sz) (hj:rows.flatten[j]? = some x):∃ m k r,j=m * sz+k∧rows[m]? = some r∧r[k]? = some x:=by
 induction rows generalizing j with
 | nil=>simp at hj
 | cons q t ih =>
  have hq:=h q (by simp)
  rw [List.flatten_cons] at hj
  by_cases hjq:j<q.length
  ·rw [List.getElem?_append_left hjq] at hj
   exact ⟨0,j,q,by simp,Z,hj⟩
  ·rw [List.getElem?_append_right (by omega)] at hj
   obtain ⟨m,k,r,h1,h2,h3⟩:=ih (fun r hr=>h r (by simp [hr])) hj
   exact ⟨m+1,k,r,by rw [Nat.succ_mul]; omega,h2,h3⟩
theorem Row.cells {α : Type} {S : Res} {X : List Value → α → Prop} {a : Option Addr} {n cp : Nat} : ∀ {l : List α}, Row S sz X (.slice a n cp) l → ∃ rows : List (List Value), rows.length = l.length ∧ (∀ r ∈ rows, r.length = sz) ∧ (∀ (i : Nat) us x, rows[i]? = some us → l[i]? = some x → X us x) ∧
  ∀ j u,rows.flatten[j]? = some u→∃ b o,a=some ⟨b,o,none⟩∧Rd S ⟨b,o+j,none⟩ u:=fun {l} h=>by
 obtain ⟨a',cap,h1,_,_,_,h5⟩:=h
 cases h1
 have key : ∀ (k : Nat), k ≤ l.length → ∃ rows : List (List Value), rows.length = k ∧ ∀ (i : Nat) us, rows[i]? = some us → ∃ x b o, l[i]? = some x ∧ a = some ⟨b, o, none⟩ ∧ us.length = sz ∧ Rds S b (o + i * sz) us ∧ X us x := by
  intro k
  induction k with
  | zero=>exact fun _=>⟨[],rfl,fun i us h=>by simp at h⟩
  | succ k ih =>
   intro hk
   obtain ⟨rows,g1,g2⟩:=ih (by omega)
   obtain ⟨b,o,us,e1,e2,e3,e4⟩:=h5 k l[k] (List.getElem?_eq_getElem (by omega))
   refine ⟨rows++[us],by simp [g1],fun i us' hi=>?_⟩
   by_cases hik:i<rows.length
   ·rw [List.getElem?_append_left hik] at hi; exact g2 i us' hi
   ·rw [List.getElem?_append_right (by omega)] at hi
    have hi0:i - rows.length=0:=by
     have:=(List.getElem?_eq_some_iff.1 hi).1
     simp at this; omega
    rw [hi0] at hi
    simp only [List.getElem?_cons_zero,Option.some.injEq] at hi
    subst hi
    have:i=k:=by omega
    subst this
    exact ⟨l[i],b,o,List.getElem?_eq_getElem (by omega),e1,e2,e3,e4⟩
 obtain ⟨rows,g1,g2⟩:=key l.length (Nat.le_refl _)
 have hsz:∀ r∈rows,r.length=sz:=fun r hr=>by
  obtain ⟨i,hi,rfl⟩:=List.mem_iff_getElem.1 hr
  obtain ⟨_,_,_,_,_,e2,_⟩:=g2 i _ (List.getElem?_eq_getElem hi)
  exact e2
 refine ⟨rows,g1,hsz,fun i us x hi hx=>?_,fun j u hj=>?_⟩
 ·obtain ⟨x',b,o,e0,_,_,_,e4⟩:=g2 i us hi
  rw [hx] at e0; cases e0; exact e4
 ·obtain ⟨m,k,r,rfl,e1,e2⟩:=EY hsz hj
  obtain ⟨x,b,o,_,e3,e4,e5,_⟩:=g2 m r e1
  exact ⟨b,o,e3,by have:=wZ e5 e2; rwa [Nat.add_assoc] at this⟩
theorem eQ {b o n cp m:Nat} {r:List Value} (hm:rows[m]? = some r):Rds (VR (.slice (some ⟨b,o,none⟩) n cp) E sz rows) b (o+m * sz) r:=fun i hi w hw=>by
 obtain ⟨h1,h2⟩:=hw
 rcases h2 with ⟨h3,_⟩ | ⟨b',o',cp',pre,j,h3,hb,hp,_⟩
 ·cases h3
 ·cases h3
  have hb':w.heap[b]? = _:=hb
  have h4:=oN h1 hm (List.getElem?_eq_getElem hi)
  have hlt:=(List.getElem?_eq_some_iff.1 h4).1
  simp only [World.cell?,hb',cl,List.getElem?_toArray,Option.isSome_none,Bool.false_eq_true,if_false]
  rw [List.getElem?_append_right (by omega),hp,show o+m * sz+i - o=m * sz+i by omega,List.getElem?_append_left hlt,h4]
theorem MZ {α : Type} {X:List Value → α → Prop} {l:List α} {S:Res} (hok:∃ f,(VR v E sz rows).ok f) (hl:rows.length=l.length) (hr:∀ p u,Rd (VR v E sz rows) p u→Rd S p u) (hx:∀ (i:Nat) us x,rows[i]? = some us→l[i]? = some x→X us x):Row S sz X v l:=by
 obtain ⟨f,hf⟩:=hok
 rcases VR.form hf with ⟨rfl,h1⟩ | ⟨b,o,cp,rfl,h1,h2⟩
 ·have hl0:l=[]:=List.eq_nil_of_length_eq_zero (by rw [← hl,h1]; rfl)
  subst hl0; exact Row.nil
 ·refine ⟨some ⟨b,o,none⟩,cp,by rw [hl],by omega,h2,(fun h=>by cases h),fun i x hi=>?_⟩
  have hlt:i<rows.length:=by rw [hl]; exact (List.getElem?_eq_some_iff.1 hi).1
  have hri:rows[i]? = some rows[i]:=List.getElem?_eq_getElem hlt
  exact ⟨b,o,rows[i],Z,hf.1 _ (List.getElem_mem hlt),fun j hj=>hr _ _ (eQ hri j hj),hx i _ _ hri hi⟩
end

/-! ### What is done to them -/
section
variable {w:World} {v:Value} {E:TypeId} {sz:Nat} {rows:List (List Value)} {h:SH}
theorem Holds.vr_nil (hh:Holds w h) (E:TypeId) (sz:Nat):Holds w (VR (.slice none 0 0) E sz []::h):=⟨VR.nil,(fun _ ⟨_,_,_,hv⟩=>by cases hv),hh⟩
theorem Holds.vr_take {b o n cp m:Nat} (hh:Holds w (VR (.slice (some ⟨b,o,none⟩) n cp) E sz rows::h)) (hm:m≤rows.length) :
  Holds w (VR (.slice (some ⟨b,o,none⟩) m cp) E sz (rows.take m)::h):=by
 obtain ⟨⟨h1,h2⟩,hd,ht⟩:=hh
 rcases h2 with ⟨h3,_⟩ | ⟨b',o',cp',pre,j,h3,hb,hp,hc1,hc2,hc3⟩
 ·cases h3
 ·cases h3
  have hsp:rows.flatten=(rows.take m).flatten++(rows.drop m).flatten:=by rw [← List.flatten_append,List.take_append_drop]
  refine ⟨⟨fun q hq=>h1 q (List.mem_of_mem_take hq),.inr ⟨b,o,cp,pre,(rows.drop m).flatten++j,by rw [List.length_take,Nat.min_eq_left hm],by rw [hb,hsp,List.append_assoc],hp,by rw [List.length_take]; omega,hc2,?_⟩⟩,fun c ⟨o',m',cp',hv⟩=>?_,ht⟩
  ·rw [← List.append_assoc,← hsp]; exact hc3
  ·cases hv; exact hd _ ⟨_,_,_,rfl⟩
theorem Holds.vr_of {b n:Nat} {cells:List Value} (hh:Holds w (pt b (cl cells E)::h)) (hc:cells=rows.flatten) (h1:∀ r∈rows,r.length=sz) (hn:rows.length=n) (hm:n≤maxLen):Holds w (VR (.slice (some ⟨b,0,none⟩) n n) E sz rows::h):=by
 subst hn hc
 refine ⟨⟨h1,.inr ⟨b,0,_,[],[],Z,?_,Z,Nat.le_refl _,hm,by rw [List.append_nil,iX h1]; exact Nat.le_refl _⟩⟩,fun c ⟨o',m',cp',hv⟩=>?_,hh.2.2⟩
 ·have:=hh.1
  simpa [pt] using this
 ·cases hv; exact hh.2.1 _ rfl

theorem Bp {P : Program} {t : TypeId} (ty : TypeId) {z : Value} {bytes : Nat} (ht : P.underlying t = some (.slice E)) (hE : Inf P E z sz bytes) (hzs : z.cells.size = sz) (hsz : 0 < sz)
  (hh:Holds w (VR v E sz rows::h)) {src:Addr} {m cp:Nat} {news:List (List Value)} (hn1:∀ r∈news,r.length=sz) (hl:news.length=m)
  (hnews:∀ j u,news.flatten[j]? = some u→w.cell? (src.add j)=some u) (h1:∀ u∈news.flatten,u.oneCell'=true) (hb:(rows.length+m) * bytes≤140737488355328) (h63:rows.length+m≤9223372036854775807) :
  ∃ v' w',(Builtin.append_ #[t,t] ty #[v,.slice (some src) m cp]).run P w = .ok v' w'∧Holds w' (VR v' E sz (rows++news)::h)∧Same w w'∧(v' = .slice none 0 0↔v = .slice none 0 0∧m=0):=by
 obtain ⟨i,hi,hz,hisz,hiby⟩:=hE.parts
 subst hisz hiby
 have hok:(VR v E i.size rows).ok (hp w):=hh.1
 have hmax:maxLen=9223372036854775807:=rfl
 have hall:∀ r∈rows++news,r.length=i.size:=fun r hr=>(List.mem_append.1 hr).elim (hok.1 r) (hn1 r)
 have hnl:news.flatten.length=m * i.size:=by rw [iX hn1,hl]
 have hrl:rows.flatten.length=rows.length * i.size:=iX hok.1
 have newrow : ∀ (old : Nat), old < rows.length + m → ∀ w1 : World, w1 = w.drew.alloc (.cells (rows.flatten.toArray ++ news.flatten.toArray ++ Builtin.zeroCells z.cells (grownCap w (rows.length + m) old E - (rows.length + m))) E) →
   Holds w1 (VR (.slice (some ⟨w.heap.size,0,none⟩) (rows.length+m) (grownCap w (rows.length+m) old E)) E i.size (rows++news)::h)∧Same w w1:=by
  intro old ho w1 hw1
  have hge:=grownCap_ge w (rows.length+m) old E
  have hcm:grownCap w (rows.length+m) old E≤maxLen:=grownCap_le_maxLen w (rows.length+m) old E (by rw [hmax]; exact h63)
  have hH:Holds w.drew h:=Holds.grew hh.2.2 (Grew.drawn w _)
  have hA:=Holds.alloc hH (.cells (rows.flatten.toArray++news.flatten.toArray++Builtin.zeroCells z.cells (grownCap w (rows.length+m) old E - (rows.length+m))) E)
  have hobj:(Obj.cells (rows.flatten.toArray++news.flatten.toArray++Builtin.zeroCells z.cells (grownCap w (rows.length+m) old E - (rows.length+m))) E)=cl ([]++((rows++news).flatten++(Builtin.zeroCells z.cells (grownCap w (rows.length+m) old E - (rows.length+m))).toList)) E:=by
   simp only [cl,Obj.cells.injEq,and_true]
   apply Array.ext'
   simp
  rw [hobj] at hA
  refine ⟨?_,?_⟩
  ·rw [hw1,hobj]
   refine ⟨⟨hall,.inr ⟨w.heap.size,0,_,[],_,by rw [List.length_append,hl],hA.1,Z,by rw [List.length_append,hl]; exact hge,hcm,?_⟩⟩,fun b ⟨o',m',cp',hv⟩=>?_,hA.2.2⟩
   ·have hzl:(Builtin.zeroCells z.cells (grownCap w (rows.length+m) old E - (rows.length+m))).toList.length=(grownCap w (rows.length+m) old E - (rows.length+m)) * i.size:=by rw [Array.length_toList,size_zeroCells,hzs]
    rw [List.length_append,iX hall,List.length_append,hl,hzl,← Nat.add_mul]
    apply Nat.mul_le_mul_right; omega
   ·cases hv; exact hA.2.1 _ rfl
  ·rw [hw1]; exact (Grew.drawn w _).toSame.trans (Grew.alloc _ _ rfl).toSame
 rcases hok.2 with ⟨rfl,rfl⟩ | ⟨g,o,cap,pre,j,rfl,hg,hpo,hnc,hcm,hcs⟩
 ·by_cases hm:m=0
  ·subst hm
   have hn:news=[]:=List.eq_nil_of_length_eq_zero hl
   subst hn
   refine ⟨.slice none 0 0,w,?_,hh,Same.refl w,by simp⟩
   simp [Builtin.append_,run_underlying ht,sizeOf,typeInfo,hi,Builtin.lenOf,Builtin.firstCells,loadCells,loadCellsFrom]
  ·have hr:=run_append_nil (P:=P) w t ty E i z ht hi hz src m cp news.flatten hnl hnews (by omega) (by simp only [List.length_nil] at h63; omega) (by simp only [List.length_nil,Nat.zero_add] at hb; omega)
   have:=newrow 0 (by omega) _ rfl
   simp only [List.length_nil,Nat.zero_add,List.nil_append,List.flatten_nil,Array.empty_append] at this hr ⊢
   exact ⟨_,_,hr,this.1,this.2,by simp [hm]⟩
 ·have hg' : w.heap[g]? = some (.cells (pre ++ (rows.flatten ++ j)).toArray E (0, 0)) := hg
  by_cases hroom:rows.length+m≤cap
  ·have hfit:o+rows.length * i.size+0+news.flatten.length≤(pre++(rows.flatten++j)).toArray.size:=by
    rw [hnl,List.size_toArray,List.length_append,hpo]
    have:(rows.length+m) * i.size≤cap * i.size:=Nat.mul_le_mul_right _ hroom
    rw [Nat.add_mul] at this
    omega
   have hst:=run_storeCells_at P g (o+rows.length * i.size) E news.flatten 0 _ w hg' hfit h1
   simp only [Nat.add_zero] at hst
   have hfc:=run_firstCells_some (P:=P) w i.size m src m cp news.flatten hnl hnews
   have hr:(Builtin.append_ #[t,t] ty #[.slice (some ⟨g,o,none⟩) rows.length cap,.slice (some src) m cp]).run P w = .ok (.slice (some ⟨g,o,none⟩) (rows.length+m) cap) (w.setRow g ((pre++(rows.flatten++j)).toArray.toList.take (o+rows.length * i.size)++news.flatten++(pre++(rows.flatten++j)).toArray.toList.drop (o+rows.length * i.size+news.flatten.length)).toArray):=by
    simp [Builtin.append_,run_underlying ht,sizeOf,typeInfo,hi,Builtin.lenOf,hroom,hfc,Addr.add_lit,hst]
   have hset:=setRow_heap w g (pre++(rows.flatten++j)).toArray ((pre++(rows.flatten++j)).toArray.toList.take (o+rows.length * i.size)++news.flatten++(pre++(rows.flatten++j)).toArray.toList.drop (o+rows.length * i.size+news.flatten.length)).toArray E (0,0) hg'
   refine ⟨_,_,hr,?_,⟨rfl,rfl,rfl,Nat.le_refl _,by simp,om (b:=g) (fun o ho=>by rw [hg'] at ho; cases ho; rfl) (fun o ho=>by rw [hset] at ho; cases ho; rfl) fun c hc=>setRow_other w g c _ hc⟩,by simp⟩
   have htk:(pre++(rows.flatten++j)).take (o+rows.length * i.size)=pre++rows.flatten:=by
    rw [← List.append_assoc,List.take_left' (by rw [List.length_append,hpo,hrl])]
   have hdr:(pre++(rows.flatten++j)).drop (o+rows.length * i.size+news.flatten.length)=j.drop news.flatten.length:=by
    rw [← List.drop_drop,← List.append_assoc,List.drop_left' (by rw [List.length_append,hpo,hrl])]
   simp only [htk,hdr] at hset ⊢
   refine ⟨⟨hall,.inr ⟨g,o,cap,pre,j.drop news.flatten.length,by rw [List.length_append,hl],?_,hpo,by rw [List.length_append,hl]; exact hroom,hcm,?_⟩⟩,fun b ⟨o',m',cp',hv⟩=>?_,?_⟩
   ·show w.setRow g _ |>.heap[g]? = _
    rw [hset]; simp [cl]
   ·rw [List.length_append,List.length_drop,iX hall,List.length_append,hl,hnl]
    rw [List.length_append,hrl] at hcs
    have h5:(rows.length+m) * i.size≤cap * i.size:=Nat.mul_le_mul_right _ hroom
    rw [Nat.add_mul] at h5 ⊢
    omega
   ·cases hv; exact hh.2.1 _ ⟨_,_,_,rfl⟩
   ·exact bf.loc hh.2.2 fun b hb=>(setRow_other w g b _ (fun e=>hh.2.1 b ⟨o,rows.length,cap,by rw [e]⟩ hb)).symm
  ·have holds:∀ k u,rows.flatten[k]? = some u→w.cell? ((⟨g,o,none⟩:Addr).add k)=some u:=fun k u hu=>by
    rw [Addr.add_lit]
    have hlt:=(List.getElem?_eq_some_iff.1 hu).1
    simp only [World.cell?,hg',List.getElem?_toArray,Option.isSome_none,Bool.false_eq_true,if_false]
    rw [List.getElem?_append_right (by omega),hpo,show o+k - o=k by omega,List.getElem?_append_left hlt,hu]
   have hr:=run_append_grow (P:=P) w t ty E i z ht hi hz ⟨g,o,none⟩ rows.length cap rows.flatten hrl holds src m cp news.flatten hnl hnews (by omega) (by omega) (growslice_fits (by omega) hb)
   have:=newrow cap (by omega) _ rfl
   exact ⟨_,_,hr,this.1,this.2,by simp⟩
end

section
variable {P:Program} {e:Env} {h h':SH} {ty:TypeId}
theorem M0 {b o n cp m k sz:Nat} {E:TypeId} {rows:List (List Value)} {r:List Value} {v:Value} (hm:rows[m]? = some r) (hk:r[k]? = some v):Rd (VR (.slice (some ⟨b,o,none⟩) n cp) E sz rows) ⟨b,o+m * sz+k,none⟩ v:=wZ (eQ hm) hk
theorem mi {T E : TypeId} {x y : Operand} {b o n cp lo sz : Nat} {i : Int} {k : IntKind} (hx : e.ev? x = some (.slice (some ⟨b, o, none⟩) n cp)) (hy : e.ev? y = some (.int k i)) (hT : SlE P T E sz)
  (hi':i=(lo:Int)) (h1:lo≤n) (hc:n≤cp):Vop P e h (.slice T x (some y) none none) ty (.slice (some ⟨b,if cp=lo then o else o+lo * sz,none⟩) (n - lo) (cp - lo)):=
 ⟨by simp,by simp,fun ρ w d pos after g hρ _=>by
  subst hi'
  have hT':P.underlying T=some (.slice (P.elem T)):=by simp [Program.elem,hT.1]
  have he:P.elem T=E:=by simp [Program.elem,hT.1]
  have hr:=run_slice_l (P:=P) w T (some ⟨b,o,none⟩) n cp hT' k lo (by omega) (by omega)
  have hs:sliced (some ⟨b,o,none⟩) lo n cp sz = .slice (some ⟨b,if cp=lo then o else o+lo * sz,none⟩) (n - lo) (cp - lo):=by
   unfold sliced; by_cases hcl:cp=lo <;> simp [hcl,Addr.add_lit]
  simp only [he,hT.2 w,Result.andThen_ok,Int.toNat_natCast,hs] at hr
  simp only [execOp,hρ x _ hx,Option.map_some,Option.map_none,hρ y _ hy,Sem.run_bind,run_sliceAt_slice w T _ _ _ _ hT',hr,Result.andThen_ok,Sem.run_pure]⟩
theorem jT {T E : TypeId} {x y : Operand} {b o n cp hi sz : Nat} {i : Int} {k : IntKind} (hx : e.ev? x = some (.slice (some ⟨b, o, none⟩) n cp)) (hy : e.ev? y = some (.int k i)) (hT : SlE P T E sz)
  (hi':i=(hi:Int)) (h1:hi≤cp):Vop P e h (.slice T x none (some y) none) ty (.slice (some ⟨b,o,none⟩) hi cp):=
 ⟨by simp,by simp,fun ρ w d pos after g hρ _=>by
  subst hi'
  have hT':P.underlying T=some (.slice (P.elem T)):=by simp [Program.elem,hT.1]
  have he:P.elem T=E:=by simp [Program.elem,hT.1]
  have hr:=run_slice_h (P:=P) w T (some ⟨b,o,none⟩) n cp hT' k hi (by omega) (by omega)
  have hs:sliced (some ⟨b,o,none⟩) 0 hi cp sz = .slice (some ⟨b,o,none⟩) hi cp:=by
   unfold sliced; by_cases hcl:cp=0 <;> simp [hcl,Addr.add_lit]
  simp only [he,hT.2 w,Result.andThen_ok,Int.toNat_natCast,Int.toNat_zero,hs] at hr
  simp only [execOp,hρ x _ hx,Option.map_some,Option.map_none,hρ y _ hy,Sem.run_bind,run_sliceAt_slice w T _ _ _ _ hT',hr,Result.andThen_ok,Sem.run_pure]⟩
end

/-! ## What is known without a step -/
section
variable {c:Cx} {ops:Array Oper} {K:Act→World→Prop} {rest:List Oper} {e:Env} {h h':SH} {Q:Exit→Act→World→Prop} {x:Code} {ex:Exit} {r:Res}
theorem fI (s:Sel h r h') (hc:(∃ f,r.ok f)→Cd c x Q e h):Cd c x Q e h:=fun a w hk hh hw=>hc ⟨_,(hh.sel s).1⟩ a w hk hh hw
theorem nM (s:Sel h r h') (hc:(∃ f,r.ok f)→St c ops K rest e h):St c ops K rest e h:=fun a w hk hh hw=>hc ⟨_,(hh.sel s).1⟩ a w hk hh hw
theorem dS (s:Sel h r h') (hc:(∃ f,r.ok f)→Xt c ex Q e h):Xt c ex Q e h:=fun a w hk hh hw=>hc ⟨_,(hh.sel s).1⟩ a w hk hh hw
def Vw (h h':SH):Prop:=∀ w:World,Holds w h→Holds w h'
theorem dK (hv:Vw h h') (hc:Cd c x Q e h'):Cd c x Q e h:=fun a w hk hh hw=>hc a w hk (hv w hh) hw
theorem qG (hv:Vw h h') (hc:St c ops K rest e h'):St c ops K rest e h:=fun a w hk hh hw=>hc a w hk (hv w hh) hw
theorem jv (hv:Vw h h') (hc:Xt c ex Q e h'):Xt c ex Q e h:=fun a w hk hh hw=>hc a w hk (hv w hh) hw
theorem Vw.sel {k:SH} (s:Sel h r h') (hv:Vw (r::h') k):Vw h k:=fun w hh=>hv w (hh.sel s)
theorem Vw.pk {k hr m:SH} (p:Pk h k hr) (hv:Vw (k++hr) m):Vw h m:=fun w hh=>hv w (hh.pk p)
theorem Vw.trans {a b d:SH} (p:Vw a b) (q:Vw b d):Vw a d:=fun w h=>q w (p w h)
theorem Vw.refl:Vw h h:=fun _ hh=>hh
theorem Vw.frame {a b:SH} (hv:Vw a b) (hl:∀ w:World,Holds w a→∀ x,SH.dom b x→SH.dom a x) {k:SH}:Vw (a++k) (b++k):=fun w hh=>by
 obtain ⟨h1,h2,h3⟩:=bf.append.1 hh
 exact bf.append.2 ⟨hv w h1,h2,fun x hx=>h3 x (hl w h1 x hx)⟩
theorem eD {L k:SH}:Vw (L++k) (Res.star L::k):=fun _ hh=>cZ.2 hh
end

/-! ## Rows -/
section
variable {v:Value} {E:TypeId} {sz:Nat} {rows rows':List (List Value)} {h h':SH}
theorem zi {b o n cp m:Nat} (hm:m≤rows.length):Vw (VR (.slice (some ⟨b,o,none⟩) n cp) E sz rows::h) (VR (.slice (some ⟨b,o,none⟩) m cp) E sz (rows.take m)::h):=fun _ hh=>hh.vr_take hm
theorem vw_of {b n:Nat} {cells:List Value} (rows:List (List Value)) (hc:cells=rows.flatten) (h1:∀ r∈rows,r.length=sz) (hn:rows.length=n) (hm:n≤maxLen):Vw (pt b (cl cells E)::h) (VR (.slice (some ⟨b,0,none⟩) n n) E sz rows::h):=fun _ hh=>hh.vr_of hc h1 hn hm
theorem cz (E:TypeId) (sz:Nat):Vw h (VR (.slice none 0 0) E sz []::h):=fun _ hh=>hh.vr_nil E sz
end
section
variable {c:Cx} {ops:Array Oper} {K:Act→World→Prop} {rest:List Oper} {e:Env} {h h':SH} {Q:Exit→Act→World→Prop} {x:Code} {ex:Exit}
variable {v:Value} {E:TypeId} {sz:Nat} {rows rows':List (List Value)}
theorem cd_row (s:Sel h (VR v E sz rows) h') (h0:v = .slice none 0 0→rows=[]→Cd c x Q e h) (h1:∀ b o cp,v = .slice (some ⟨b,o,none⟩) rows.length cp→rows.length≤cp→cp≤maxLen→Cd c x Q e h):Cd c x Q e h :=
 fI s fun ⟨_,hf⟩=>(VR.form hf).elim (fun ⟨a,b⟩=>h0 a b) fun ⟨b,o,cp,h2,h3,h4⟩=>h1 b o cp h2 h3 h4
theorem st_row (s:Sel h (VR v E sz rows) h') (h0:v = .slice none 0 0→rows=[]→St c ops K rest e h) (h1:∀ b o cp,v = .slice (some ⟨b,o,none⟩) rows.length cp→rows.length≤cp→cp≤maxLen→St c ops K rest e h):St c ops K rest e h :=
 nM s fun ⟨_,hf⟩=>(VR.form hf).elim (fun ⟨a,b⟩=>h0 a b) fun ⟨b,o,cp,h2,h3,h4⟩=>h1 b o cp h2 h3 h4
theorem fV (s:Sel h (VR v E sz rows) h') (hc:∀ a cp,v = .slice a rows.length cp→rows.length≤cp→cp≤maxLen→Cd c x Q e h):Cd c x Q e h :=
 cd_row s (fun h1 h2=>hc none 0 (by rw [h1,h2]; rfl) (by rw [h2]; exact Nat.le_refl _) (Nat.zero_le _)) fun b o cp h1 h2 h3=>hc _ cp h1 h2 h3
theorem jk (s:Sel h (VR v E sz rows) h') (hc:∀ a cp,v = .slice a rows.length cp→rows.length≤cp→cp≤maxLen→St c ops K rest e h):St c ops K rest e h :=
 st_row s (fun h1 h2=>hc none 0 (by rw [h1,h2]; rfl) (by rw [h2]; exact Nat.le_refl _) (Nat.zero_le _)) fun b o cp h1 h2 h3=>hc _ cp h1 h2 h3
theorem JR {d:Nat} {t ty:TypeId} {x y:Operand} {pos:String} {after:Array Edge} {z:Value} {bytes m cp:Nat} {src:Addr} (news:List (List Value))
  (hx:e.ev? x=some v) (hy:e.ev? y=some (.slice (some src) m cp)) (ht:c.P.underlying t=some (.slice E)) (hE:Inf c.P E z sz bytes) (hzs:z.cells.size=sz) (hsz:0<sz)
  (hs:Sel h (VR v E sz rows) h') (hn1:∀ r∈news,r.length=sz) (hl:news.length=m) (hnews:∀ j u,news.flatten[j]? = some u→At h (src.add j) u) (h1:∀ u∈news.flatten,u.oneCell'=true)
  (hb:(rows.length+m) * bytes≤140737488355328) (h63:rows.length+m≤9223372036854775807) (hd:d<c.n)
  (hnx:∀ v',v'.oneCell'=true→(v' = .slice none 0 0↔v = .slice none 0 0∧m=0)→St c ops K rest ((d,v')::e) (VR v' E sz (rows++news)::h')) :
  St c ops K (⟨some d,.call { callee:=.builtin .append,args := #[x,y],argTypes := #[t,t] },ty,pos,after,none⟩::rest) e h :=
 dY (by simp) fun a w hk hh hw=>by
  obtain ⟨v',w',hr,hH,hS,hv⟩:=Bp (P:=c.P) ty ht hE hzs hsz (hh.sel hs) (src:=src) (cp:=cp) hn1 hl (fun j u hu=>(hnews j u hu).cell hh) h1 hb h63
  simp only [execOp,resolve,invoke,builtin,hk.ev hx,hk.ev hy,Sem.run_bind,Sem.run_pure,Result.andThen_ok,List.map_toArray,List.map_cons,List.map_nil,hr]
  exact hnx v' (VR.one hH.1) hv _ w' (hk.put _ hd) hH (hw.trans hS)
theorem dU {d:Nat} {t ty:TypeId} {x y:Operand} {pos:String} {after:Array Edge} {z:Value} {bytes sb so m cp:Nat} (news:List (List Value))
  (hx:e.ev? x=some v) (hy:e.ev? y=some (.slice (some ⟨sb,so,none⟩) m cp)) (ht:c.P.underlying t=some (.slice E)) (hE:Inf c.P E z sz bytes) (hzs:z.cells.size=sz) (hsz:0<sz)
  (hs:Sel h (VR v E sz rows) h') (hn1:∀ r∈news,r.length=sz) (hl:news.length=m) (hnews:∀ j u,news.flatten[j]? = some u→At h ⟨sb,so+j,none⟩ u) (h1:∀ u∈news.flatten,u.oneCell'=true)
  (hb:(rows.length+m) * bytes≤140737488355328) (h63:rows.length+m≤9223372036854775807) (hd:d<c.n)
  (hnx:∀ v',v'.oneCell'=true→(v' = .slice none 0 0↔v = .slice none 0 0∧m=0)→St c ops K rest ((d,v')::e) (VR v' E sz (rows++news)::h')) :
  St c ops K (⟨some d,.call { callee:=.builtin .append,args := #[x,y],argTypes := #[t,t] },ty,pos,after,none⟩::rest) e h :=
 JR news hx hy ht hE hzs hsz hs hn1 hl (fun j u hu=>by rw [Addr.add_lit]; exact hnews j u hu) h1 hb h63 hd hnx
theorem Ae {d : Nat} {T ty : TypeId} {pos : String} {after : Array Edge} {z : Value} {bytes : Nat} (hT : c.P.underlying T = some (.slice E)) (hE : Inf c.P E z sz bytes)
  (hnx:∀ b,St c ops K rest ((d,.slice (some ⟨b,0,none⟩) 0 0)::e) (VR (.slice (some ⟨b,0,none⟩) 0 0) E sz []::h)) (hd:d<c.n:=by exact ltn rfl) :
  St c ops K (⟨some d,.buildSlice T 0 #[],ty,pos,after,none⟩::rest) e h :=
 zP (sz:=sz) hT hE hd fun b=>fun a w hk hh hw=>hnx b a w hk (by
  obtain ⟨h1,h2,h3⟩:=hh
  rcases h1.2 with ⟨h4,_⟩ | ⟨b',cp,j,h4,h5,_⟩
  ·cases h4
  ·cases h4
   exact ⟨⟨by simp,.inr ⟨b,0,0,[],j,rfl,by simpa using h5,rfl,Nat.le_refl _,Nat.zero_le _,by simp⟩⟩,fun x ⟨o,m,cp,hv⟩=>(by cases hv; exact h2 _ ⟨_,_,rfl⟩),h3⟩) hw
end

/-! ## One of many -/
def upd {α : Type} (f:Nat → α) (i:Nat) (x : α):Nat → α := fun k=>if k=i then x else f k
theorem upd_same {α : Type} (f:Nat → α) (i:Nat) (x : α):upd f i x i=x:=if_pos rfl
def foc {α : Type} (n i:Nat) (c : α) (g:Nat → α):List α := (List.range n).map (upd g i c)
theorem foc_get {α : Type} {n i:Nat} {c : α} {g:Nat → α} (hi:i<n):(foc n i c g)[i]? = some c:=by simp [foc,List.getElem?_map,List.getElem?_range,hi,upd_same]
def others (n i:Nat):List Nat:=(List.range n).filter fun k=>decide (k≠i)
def RSx (n i:Nat) (R:Nat→Res):Res:=Res.star ((others n i).map R)
def RS (n:Nat) (R:Nat→Res):Res:=Res.star ((List.range n).map R)
section
variable {P:Program} {e:Env} {h:SH} {ty:TypeId}
theorem vY {T:TypeId} {x:Operand} {p:Addr} {v:Value} (hx:e.ev? x=some (.pointer (some p))) (hT:Ld1 P T)
  (ha:At h p v:=by repeat (first | exact bP (bU (by rfl)) | exact bP (wZ (by assumption) (by rfl)) | exact bP (M0 (foc_get (by assumption)) (by rfl)) | exact bP (M0 (by rfl) (by rfl)) | exact bP (by assumption) | apply Mt)):Vop P e h (.load T x) ty v:=v_load hx hT ha
theorem ag {T:TypeId} {x:Operand} {b o n:Nat} {vs:List Value} {r:Res} {h':SH} (hx:e.ev? x=some (.pointer (some ⟨b,o,none⟩))) (hT:LdN P T n) (hl:vs.length=n) (hr:Rds r b o vs) (s:Sel h r h':=by repeat (first | exact Sel.here | apply Sel.there)) :
  Vop P e h (.load T x) ty (.agg vs.toArray):=v_loadR hx hT hl s hr
end
section
variable {c:Cx} {ops:Array Oper} {K:Act→World→Prop} {rest:List Oper} {e:Env} {h k k' hr:SH} {Q:Exit→Act→World→Prop} {x:Code} {ex:Exit}
theorem cd_pv (hv:∀ t,Vw (k++t) (k'++t)) (hc:Cd c x Q e (k'++hr)) (p:Pk h k hr:=by repeat (first | exact Pk.nil | (apply Pk.cons; (repeat (first | exact Sel.here | apply Sel.there))))):Cd c x Q e h:=dK (Vw.pk p (hv hr)) hc
theorem Af (hv:∀ t,Vw (k++t) (k'++t)) (hc:St c ops K rest e (k'++hr)) (p:Pk h k hr:=by repeat (first | exact Pk.nil | (apply Pk.cons; (repeat (first | exact Sel.here | apply Sel.there))))):St c ops K rest e h:=qG (Vw.pk p (hv hr)) hc
theorem kz (hv:∀ t,Vw (k++t) (k'++t)) (hc:Xt c ex Q e (k'++hr)) (p:Pk h k hr:=by repeat (first | exact Pk.nil | (apply Pk.cons; (repeat (first | exact Sel.here | apply Sel.there))))):Xt c ex Q e h:=jv (Vw.pk p (hv hr)) hc
theorem Ag {b n:Nat} {E:TypeId} {sz:Nat} {cells:List Value} (rows:List (List Value)) (hc:cells=rows.flatten) (h1:∀ r∈rows,r.length=sz) (hn:rows.length=n) (hm:n≤maxLen):∀ t,Vw ([pt b (cl cells E)]++t) ([VR (.slice (some ⟨b,0,none⟩) n n) E sz rows]++t):=fun t=>vw_of rows hc h1 hn hm
theorem fq {L:SH}:∀ t,Vw (L++t) ([Res.star L]++t):=fun t=>eD
end
end Go.Ck
namespace Go.Hr
open Go Go.RowKit Go.Ck
def strC (us:List Value) (n:Nm):Prop:=us=[sv n]
def parC (us:List Value) (p:Nm):Prop:=∃ a b c d e,us=[sv p,a,b,c,d,e]∧[sv p,a,b,c,d,e].all Value.oneCell'=true
def clsC (S:Res) (us:List Value) (x:Cls):Prop:=∃ d f pv c fa fc i,us=[sv x.name,d,f,pv,c,.slice fa x.feats fc,i]∧[sv x.name,d,f,pv,c,.slice fa x.feats fc,i].all Value.oneCell'=true∧Row S 6 parC pv x.parents
def lU (S:Res) (v:Value) (l:Sys):Prop:=Row S 7 (clsC S) v l
def w9 (S:Res) (v:Value) (xs:List Nm):Prop:=Row S 1 strC v xs
section
variable {S S':Res} (hr:∀ p u,Rd S p u→Rd S' p u)
include hr
theorem clsC.mono {us:List Value} {x:Cls} (h:clsC S us x):clsC S' us x:=let ⟨d,f,pv,c,fa,fc,i,h1,h0,h2⟩:=h; ⟨d,f,pv,c,fa,fc,i,h1,h0,h2.mono hr fun _ _ _ h=>h⟩
theorem lU.mono {v:Value} {l:Sys} (h:lU S v l):lU S' v l:=Row.mono h hr fun _ _ _ h=>clsC.mono hr h
theorem w9.mono {v:Value} {xs:List Nm} (h:w9 S v xs):w9 S' v xs:=Row.mono h hr fun _ _ _ h=>h
end
section
variable {S:Res} {v:Value} {l:Sys}
theorem sI (h:lU S v l) {i:Nat} {x:Cls} (hi:l[i]? = some x):∃ b o cap d f pa pc c fa fc j,v = .slice (some ⟨b,o,none⟩) l.length cap∧Rds S b (o+i * 7) [sv x.name,d,f,.slice pa x.parents.length pc,c,.slice fa x.feats fc,j]∧Row S 6 parC (.slice pa x.parents.length pc) x.parents∧[sv x.name,d,f,.slice pa x.parents.length pc,c,.slice fa x.feats fc,j].all Value.oneCell'=true:=by
 obtain ⟨b,o,cap,us,h1,_,h3,d,f,pv,c,fa,fc,j,rfl,h0,h4⟩:=Row.at h hi
 obtain ⟨pa,pc,rfl,_⟩:=id h4
 exact ⟨b,o,cap,d,f,pa,pc,c,fa,fc,j,h1,h3,h4,h0⟩
theorem Hg {pv:Value} {ps:List Nm} (h:Row S 6 parC pv ps) {i:Nat} {p:Nm} (hi:ps[i]? = some p):∃ b o cap a c d e f,pv = .slice (some ⟨b,o,none⟩) ps.length cap∧Rds S b (o+i * 6) [sv p,a,c,d,e,f]∧[sv p,a,c,d,e,f].all Value.oneCell'=true:=by
 obtain ⟨b,o,cap,us,h1,_,h3,a,c,d,e,f,rfl,h0⟩:=Row.at h hi
 exact ⟨b,o,cap,a,c,d,e,f,h1,h3,h0⟩
theorem sJ {xs:List Nm} (h:w9 S v xs) {i:Nat} {x:Nm} (hi:xs[i]? = some x):∃ b o cap,v = .slice (some ⟨b,o,none⟩) xs.length cap∧Rd S ⟨b,o+i * 1,none⟩ (sv x):=by
 obtain ⟨b,o,cap,u,h1,h2,h3⟩:=Row.at1 h hi
 simp only [strC,List.cons.injEq,and_true] at h3
 subst h3
 exact ⟨b,o,cap,h1,h2⟩
end
/-! ## Names that are owned -/
def nC (n:Nm):List Value:=[sv n]
def NR (v:Value) (xs:List Nm):Res:=VR v 9 1 (xs.map nC)
theorem iH {v:Value} {xs:List Nm} (hok:∃ f,(NR v xs).ok f):w9 (NR v xs) v xs :=
 MZ hok (by simp) (fun _ _ h=>h) fun i us x h1 h2=>by
  rw [List.getElem?_map,h2] at h1
  simp only [Option.map_some,Option.some.injEq] at h1
  rw [← h1]; rfl
def ixN (l:Sys) (c:Nm):Int:=match idx l c with | some i=>i | none => -1
theorem nN {l:Sys} {c:Nm}:(∀ i,idx l c=some i→∃ x,l[i]? = some x∧find l c=some x)∧(idx l c=none→find l c=none):=by
 constructor
 ·intro i h
  obtain ⟨hi,h1,h2⟩:=List.findIdx?_eq_some_iff_getElem.1 h
  exact ⟨l[i],List.getElem?_eq_getElem hi,by
   unfold find
   rw [List.find?_eq_some_iff_getElem]
   exact ⟨h1,i,hi,Z,fun j hj=>by simpa using h2 j hj⟩⟩
 ·intro h
  unfold idx at h
  rw [List.findIdx?_eq_none_iff] at h
  unfold find
  rw [List.find?_eq_none]
  intro x hx
  simpa using h x hx
end Go.Hr
namespace Go.Hr
open Go Go.Ck Go.Proofs Go.Proofs.YtknmacdbffgjgaaGreatDoor Fx
attribute [local irreducible] Go.Ck.Sub St Cd Xt Nx DrL LsW
section
variable {S:Res} {v:Value} {l:Sys}
def fewL (l:Sys):Bool:=l.all (fun x=>decide (x.parents.length≤8)) && (decide (l.length≤10) || (decide (24<l.length) && decide (l.length≤40)))
end
end Go.Hr
namespace Go.Hr
open Go Go.Ck Go.Proofs Go.Proofs.Tryz Go.Proofs.YtknmacdbffgjgaaGreatDoor Fx
attribute [local irreducible] Go.Ck.Sub St Cd Xt Nx DrL LsW
def rC (m:List (Bs×Value)) (q:Cls×Nat):List (Bs×Value):=if (bJ m q.1.name).isSome then m else dZ m q.1.name (.int .i64 q.2)
def bE (l:Sys):List (Bs×Value):=l.zipIdx.foldl rC []
theorem Ah {l:Sys} {i:Nat} (h:i<l.length):bE (l.take (i+1))=rC (bE (l.take i)) (l[i],i):=by
 unfold bE
 rw [List.take_succ_eq_append_getElem h,List.zipIdx_append,List.foldl_append]
 simp [List.length_take,Nat.min_eq_left (Nat.le_of_lt h)]
theorem sO (l:Sys) (c:Nm):bJ (bE l) c=(idx l c).map fun i=>.int .i64 i:=by
 have key : ∀ n, n ≤ l.length → bJ (bE (l.take n)) c = (idx (l.take n) c).map fun i => .int .i64 i := by
  intro n
  induction n with
  | zero=>intro _; rfl
  | succ n ih =>
   intro hn
   rw [Ah (by omega)]
   have ih:=ih (by omega)
   have hix:idx (l.take (n+1)) c=(idx (l.take n) c).or (if (l[n]).name=c then some n else none):=by
    unfold idx
    rw [List.take_succ_eq_append_getElem (by omega),List.findIdx?_append]
    congr 1
    by_cases h:(l[n]).name=c <;> simp [List.findIdx?_cons,h,List.length_take,Nat.min_eq_left (Nat.le_of_lt hn)]
   rw [hix]
   unfold rC
   by_cases hc:(l[n]).name=c
   ·simp only [hc,if_true]
    cases hi:idx (l.take n) c with
    | none =>
     rw [hi] at ih
     simp only [ih,Option.map_none,Option.isSome_none,Bool.false_eq_true,if_false]
     rw [nu,if_pos rfl]; rfl
    | some j =>
     rw [hi] at ih
     simp only [ih,Option.map_some,Option.isSome_some,if_true]
     rfl
   ·simp only [hc,if_false,Option.or_none]
    split
    ·exact ih
    ·rw [nu,if_neg (fun e=>hc e.symm)]; exact ih
 have:=key l.length (Nat.le_refl _)
 rwa [List.take_length] at this
section
variable {S:Res} {v:Value} {l:Sys}
theorem EZ (hv:lU S v l) (hl:l.length≤1099511627776):Ct prog 138 #[v] [S] fun u h'=>∃ mb,u = .map (some mb)∧h'=[mps mb (bE l),S]:=by
 obtain ⟨a,cap,rfl,_⟩:=id hv
 refine aL (n:=31) func138 Z Z (len Z) fun hr w0=>?_
 refine cQ (sV (vA9 Z) (sN (nT (cQ (eu (ltn Z) fun b8=>?_)))))
 refine sV (vA9 Z) (sN (nK9 [0,2,3] Z (nT (cS (cQ (sM Z (sV (aF Z underlying22) (sM Z (sN (nK9 [2,3,9,10,11] Z (nT (cB (aZ (σ := Nat) (fun i=>[(3,.map (some b8)),(9,.slice a l.length cap),(10,.int .i64 l.length),(11,.int .i64 (i:Nat))]) (fun i=>mps b8 (bE (l.take i))::S::hr) (fun i=>i≤l.length) (fun i=>l.length - i) 0 (Nat.zero_le _) ?_)))))))))))))
 intro i hi
 refine cQ (sV (aO Z Z) (sN (nT (cS (cC Z (fun hd=>?_) (fun hd=>?_))))))
 ·have hlt:i<l.length:=by simpa using hd
  obtain ⟨b,o,cap2,d,f,pa,pc,c2,fa,fc,j2,hv2,hrd,hP,hone⟩:=sI hv (List.getElem?_eq_getElem hlt)
  have hkt:=Ah hlt
  unfold rC at hkt
  simp only at hkt
  refine cK9 (xT (cS (cB (cQ (sM Z (sV (vI (k:=i) (congrArg some hv2) Z uM Z hlt Z) (sV (ag Z gG Z hrd) ?_)))))))
  refine au nJ fun b5=>?_
  refine sV (vA9 Z) (ai Z Z lS Z hone ?_)
  refine sN (nK9 [3,4,5,9,10,11] Z (nT (cQ (sM Z (sV (vF Z dH Z) (sV (vY Z ld9) ?_))))))
  refine sV (dM Z Z gJ nG slq) ?_
  refine sM Z (sV (ah Z Z) (sV (ah Z Z) (sV (vA9 Z) (sV (vA9 Z) (sN (nK9 [3,4,5,7,9,10,11] Z (nT (cQ (sM Z (sV (bi Z) (sN (nK9 [3,4,5,9,10,11,24] Z (nT (cC Z (fun hq=>?_) (fun hq=>?_)))))))))))))))
  ·have hn:(bJ (bE (l.take i)) (l[i]).name).isSome=false:=by simpa using hq
   rw [hn] at hkt
   simp only [Bool.false_eq_true,if_false] at hkt
   refine cR (sM Z (sV (vF Z dH Z) (sV (vY Z ld9) ?_)))
   refine sM Z (cu Z Z Z gJ slq ?_)
   refine sN (nK9 [3,9,10,11] Z (ax (xB (xT (cR (sV (aI Z Z (by unfold I64 at *; omega)) (sM Z (sN (nK9 [3,9,10,11] Z (ax ?_))))))))))
   rw [← hkt]
   refine aJ (i+1) hlt (by show _ - _<_ - _; omega)
  ·have hn:(bJ (bE (l.take i)) (l[i]).name).isSome=true:=by simpa using hq
   rw [hn] at hkt
   simp only [if_true] at hkt
   refine cK9 (xB (xT (cR (sV (aI Z Z (by unfold I64 at *; omega)) (sM Z (sN (nK9 [3,9,10,11] Z (ax ?_))))))))
   rw [← hkt]
   refine aJ (i+1) hlt (by show _ - _<_ - _; omega)
 ·have hil:i=l.length:=by
   have:¬ i<l.length:=by simpa using hd
   omega
  subst hil
  rw [List.take_length]
  refine aB (xE (xE (xY (xT (cQ (sM Z (sV (vA9 Z) (sN (nK9 [2] Z (nT (cT ?_)))))))))))
  exact aj Z ⟨b8,Z,Z⟩ sbq
end
theorem gB {P:Program} {e:Env} {h:SH} {o:Op} {ty:TypeId} {u u':Value} (hu:u=u') (hv:Vop P e h o ty u):Vop P e h o ty u':=hu ▸ hv
theorem Ca {c:Cx} {ex:Exit} {Q:Exit→Act→World→Prop} {e:Env} {h k:SH} (p:h.Perm k) (hx:Xt c ex Q e k):Xt c ex Q e h:=jv (fun _ hh=>Holds.perm p hh) hx
theorem Yc.frame {P:Program} {l:Nat} {args:Array Value} {hf:SH} {R:Value→SH→Prop} (h:Yc P l args hf R) (r:Res):Yc P l args (r::hf) (fun v h'=>∃ k,h'=r::k∧R v k):=fun hr w hh=>by
 have h1:Holds w (hf++(r::hr)):=hh.perm (List.perm_middle (l₁ := hf)).symm
 exact iR (fun v w' ⟨k,hR,hH,hS⟩=>⟨r::k,⟨k,Z,hR⟩,hH.perm (List.perm_middle (l₁ := k)),hS⟩) (h (r::hr) w h1)
theorem Yc.mono {P:Program} {l:Nat} {args:Array Value} {hf:SH} {R R':Value→SH→Prop} (h:Yc P l args hf R) (hr:∀ v k,R v k→R' v k):Yc P l args hf R':=fun x w hh=>iR (fun v w' ⟨k,h1,h2,h3⟩=>⟨k,hr v k h1,h2,h3⟩) (h x w hh)
theorem qH (l:Sys) (c:Nm):(bJ (bE l) c).isSome=isC l c:=by
 rw [sO]
 unfold isC
 cases h:idx l c with
 | none=>rw [(nN).2 h]; rfl
 | some i=>obtain ⟨x,_,hx⟩:=nN.1 i h; rw [hx]; rfl
theorem KE {f:Nm→Bool} {xs:List Nm} {i:Nat} (hi:i<xs.length) (h:f xs[i]=true):(xs.filter f)[((xs.take i).filter f).length]? = some xs[i]∧((xs.take (i+1)).filter f).length=((xs.take i).filter f).length+1:=by
 have h1:xs=xs.take i++xs[i]::xs.drop (i+1):=by rw [List.getElem_cons_drop,List.take_append_drop]
 constructor
 ·have h2:xs.filter f=(xs.take i).filter f++xs[i]::(xs.drop (i+1)).filter f:=by
   conv=>lhs; rw [h1]
   rw [List.filter_append,List.filter_cons_of_pos h]
  rw [h2,List.getElem?_append_right (Nat.le_refl _)]
  simp
 ·rw [List.take_succ_eq_append_getElem hi,List.filter_append,List.filter_cons_of_pos h]; simp
theorem E5 {f:Nm→Bool} {xs:List Nm} {i:Nat} (hi:i<xs.length) (h:f xs[i]=false):((xs.take (i+1)).filter f).length=((xs.take i).filter f).length:=by
 rw [List.take_succ_eq_append_getElem hi,List.filter_append,List.filter_cons_of_neg (by rw [h]; decide)]; simp
def seqv (b1 b2:Nat):Value:=.func (.func 242) #[] #[.pointer (some ⟨b1,0,none⟩),.pointer (some ⟨b2,0,none⟩)]
section
variable {S:Res} {v:Value} {l:Sys}
theorem of_ct (hv:lU S v l) (hl:l.length≤1099511627776):Ct prog 166 #[v] [S] fun u h'=>∃ mb,u = .agg #[v,.map (some mb)]∧h'=[mps mb (bE l),S]:=by
 obtain ⟨a,cap,rfl,_⟩:=id hv
 refine aL (n:=7) func166 Z Z (len Z) fun hr w0=>?_
 refine cQ (au rX fun b2=>?_)
 refine sN (nT (cQ (sM Z (sM Z (aH Z Z en138 Z (EZ hv hl) ?_)))))
 rintro u h' ⟨mb,rfl,rfl⟩
 refine sV (aN (cells:=[.slice a l.length cap,.map (some mb)]) Z (fun _=>by kernel_rfl)) ?_
 refine ai Z Z nE Z Z ?_
 refine sN (nK9 [2] Z (nT (cT ?_)))
 exact bC (.cellN Z kw Z slq .nil) ⟨mb,Z,Z⟩ sbr
theorem jU {mb:Nat} {c:Nm} (hv:v.oneCell'=true):Ct prog 178 #[.agg #[v,.map (some mb)],sv c] [] fun u h'=>∃ b1 b2,u=seqv b1 b2∧h'=[pt b1 (cl [v,.map (some mb)] 164),pt b2 (cl [sv c] 9)]:=by
 refine aL (n:=6) func178 Z Z (len Z) fun hr w0=>?_
 refine cQ (aV Z Z fun b2=>?_)
 refine aV Z Z fun b3=>?_
 refine sV (vA9 Z) (sN (nK9 [2,3,4] Z (nT (cQ (sV (bY Z Z) (sV (vA9 Z) (sN (nK9 [4] Z (nT (cT ?_))))))))))
 exact aj Z ⟨b2,b3,Z,Z⟩ sbq
theorem E8 {σ : Type} {b1 b2 mb yl : Nat} {c : Nm} (Inv : σ → SH) (Φ : Nat → σ → Prop) (Stop : Nat → SH → Prop) (s0 : σ) (h0 : Φ 0 s0) (hv : lU S v l) (hp : ∀ x ∈ l, x.parents.length ≤ 1099511627776)
  (hy:∀ (k:Nat) (s : σ) (p:Nm),(par l c)[k]? = some p → Φ k s→Yc prog yl #[sv p] (S::mps mb (bE l)::Inv s) fun u h'=>(u = .bool true∧∃ s',Φ (k+1) s'∧h'=S::mps mb (bE l)::Inv s')∨(u = .bool false∧∃ t,h'=S::mps mb (bE l)::t∧Stop k t)) :
  Ct prog 242 #[.func (.yield yl) #[] #[],.pointer (some ⟨b1,0,none⟩),.pointer (some ⟨b2,0,none⟩)] (pt b1 (cl [v,.map (some mb)] 164)::pt b2 (cl [sv c] 9)::S::mps mb (bE l)::Inv s0) fun u h'=>u = .tuple #[] ∧
   ((∃ s,Φ (par l c).length s∧h'=pt b1 (cl [v,.map (some mb)] 164)::pt b2 (cl [sv c] 9)::S::mps mb (bE l)::Inv s)∨∃ k t,Stop k t∧h'=pt b1 (cl [v,.map (some mb)] 164)::pt b2 (cl [sv c] 9)::S::mps mb (bE l)::t):=by
 obtain ⟨a,cap,rfl,_⟩:=id hv
 refine aL (n:=47) func242 Z Z (len Z) fun hr w0=>?_
 refine cQ (sV (vF Z DK Z) (sV (vY Z kv) ?_))
 refine sV (vY Z ld9) ?_
 refine sV (dM Z Z gJ nG slq) ?_
 refine sM Z (sV (ah Z Z) (sV (ah Z Z) (sV (vA9 Z) (sV (vA9 Z) (sN (nK9 [0,1,4,5] Z (nT (cS (cQ (sM Z (sV (bi Z) (sN (nK9 [0,1,4,18] Z (nT (cC Z (fun hd=>?_) (fun hd=>?_))))))))))))))))
 ·have hx:isC l c=false:=by rw [← qH]; simpa using hd
  have hpn:par l c=[]:=by
   cases h:par l c with
   | nil=>rfl
   | cons p t=>have:=r9 (l:=l) (c:=c) (p:=p) (by rw [h]; simp); rw [hx] at this; cases this
  refine cT (xR ?_)
  exact aj Z ⟨Z,.inl ⟨s0,by rw [hpn]; exact h0,Z⟩⟩ sbq
 ·have hx:isC l c=true:=by rw [← qH]; simpa using hd
  obtain ⟨k,hk⟩:∃ k,idx l c=some k:=by
   cases h:idx l c with
   | some k=>exact ⟨k,rfl⟩
   | none=>unfold isC at hx; rw [nN.2 h] at hx; cases hx
  obtain ⟨x,hxi,hf⟩:=nN.1 k hk
  have hkl:=(List.getElem?_eq_some_iff.1 hxi).1
  have hpar:par l c=x.parents.filter (isC l):=by unfold par pars; rw [hf]; rfl
  have hlk:bJ (bE l) c=some (.int .i64 k):=by rw [sO,hk]; rfl
  have hpl:=hp x (List.mem_of_getElem? hxi)
  obtain ⟨b,o,cap2,d,f,pa,pc,c2,fa,fc,j2,hv2,hrd,hP,hone⟩:=sI hv hxi
  rw [hlk]
  refine cK9 (xT (cQ (sV (vF Z DJ Z) (sV (vY Z ld22) ?_))))
  refine sM Z (sV (vI (k:=k) (congrArg some hv2) Z uM Z hkl Z) (sV (vF Z eX Z) (sV (vY Z lT) ?_)))
  refine sV (aF Z underlying39) (sM Z (sN (nK9 [0,1,24,25,26] Z (nT (cB (aZ (σ := Nat × σ) (fun q=>[(0,.func (.yield yl) #[] #[]),(1,.pointer (some ⟨b1,0,none⟩)),(24,.slice pa x.parents.length pc),(25,.int .i64 x.parents.length),(26,.int .i64 (q.1:Nat))]) (fun q=>pt b1 (cl [.slice a l.length cap,.map (some mb)] 164)::pt b2 (cl [sv c] 9)::S::mps mb (bE l)::(Inv q.2++hr)) (fun q=>q.1≤x.parents.length ∧ Φ ((x.parents.take q.1).filter (isC l)).length q.2) (fun q=>x.parents.length - q.1) (0,s0) ⟨Nat.zero_le _,h0⟩ ?_))))))
  rintro ⟨i,s⟩ ⟨hi,hΦ⟩
  simp only at hi hΦ
  dsimp only
  refine cQ (sV (aO Z Z) (sN (nT (cS (cC Z (fun hd2=>?_) (fun hd2=>?_))))))
  ·have hlt:i<x.parents.length:=by simpa using hd2
   obtain ⟨pb,po,pcap,a1,c1,d1,e1,f1,hpv,hprd,hpone⟩:=Hg hP (List.getElem?_eq_getElem hlt)
   refine cK9 (xT (cS (cB (cQ (sV (vI (k:=i) (congrArg some hpv) Z oF Z hlt Z) (sV (ag Z p8 Z hprd) ?_))))))
   refine au uW fun b7=>?_
   refine ai Z Z rM Z hpone ?_
   refine sN (nK9 [0,1,7,24,25,26] Z (nT (cQ (sV (vF Z DK Z) (sV (vY Z kv) ?_)))))
   refine sV (vF Z gH Z) (sV (vY Z ld9) ?_)
   refine sV (dM Z Z gJ nG slq) ?_
   refine sM Z (sV (ah Z Z) (sV (ah Z Z) (sV (vA9 Z) (sV (vA9 Z) (sN (nK9 [0,1,7,9,24,25,26] Z (nT (cS ?_))))))))
   rw [qH]
   cases hc:isC l x.parents[i]
   ·refine cR (sM Z (sM Z (aC Z Z Z ?_)))
    iterate 4 refine aC rfl rfl rfl ?_
    refine sV (vP Z Z) (sN (nK9 [0,1,24,25,26,45] Z (nT (aG Z ?_))))
    refine cK9 (xB (xT (cR (sV (aI Z Z (by unfold I64 at *; omega)) (sM Z (sN (nK9 [0,1,24,25,26] Z (ax ?_))))))))
    refine aJ (i+1,s) ⟨hlt,by rw [E5 hlt hc]; exact hΦ⟩ (by show _ - _<_ - _; omega)
   ·obtain ⟨q1,q2⟩:=KE hlt hc
    refine cR (sM Z (sM Z (sG Z Z (vM Z) (sG Z Z (vF Z gH Z) (sG Z Z (vY Z ld9) ?_)))))
    refine uC (gd:=39) (.inr ⟨_,_,Z,Z,Z⟩) Z Z (hy _ s _ (by rw [hpar]; exact q1) hΦ) (Pk.of (hr:=pt b7 (cl [sv x.parents[i],a1,c1,d1,e1,f1] 88)::pt b1 (cl [.slice a l.length cap,.map (some mb)] 164)::pt b2 (cl [sv c] 9)::hr) (by exact List.perm_append_comm_assoc [pt b7 (cl [sv x.parents[i],a1,c1,d1,e1,f1] 88),pt b1 (cl [.slice a l.length cap,.map (some mb)] 164),pt b2 (cl [sv c] 9)] (S::mps mb (bE l)::Inv s) hr)) (ltn Z) ?_
    rintro u h' (⟨rfl,s',h1,rfl⟩ | ⟨rfl,t,rfl,h1⟩)
    ·refine sG Z Z (bi Z) (sV (vQ Z Z) (sN (nK9 [0,1,24,25,26,45] Z (nT (aG Z ?_)))))
     refine cK9 (xB (xT (cR (sV (aI Z Z (by unfold I64 at *; omega)) (sM Z (sN (nK9 [0,1,24,25,26] Z (ax (Ca (k:=pt b7 (cl [sv x.parents[i],a1,c1,d1,e1,f1] 88)::pt b1 (cl [.slice a l.length cap,.map (some mb)] 164)::pt b2 (cl [sv c] 9)::S::mps mb (bE l)::(Inv s'++hr)) (by exact List.perm_append_comm_assoc (S::mps mb (bE l)::Inv s') [pt b7 (cl [sv x.parents[i],a1,c1,d1,e1,f1] 88),pt b1 (cl [.slice a l.length cap,.map (some mb)] 164),pt b2 (cl [sv c] 9)] hr) ?_)))))))))
     refine aJ (i+1,s') ⟨hlt,by rw [q2]; exact h1⟩ (by show _ - _<_ - _; omega)
    ·refine sG Z Z (bi Z) (sV (vQ Z Z) (sN (nK9 [0,1,24,25,26,45] Z (nT (aT Z ?_)))))
     refine cT (xW (xR (xR (xW (Ca (k:=pt b7 (cl [sv x.parents[i],a1,c1,d1,e1,f1] 88)::pt b1 (cl [.slice a l.length cap,.map (some mb)] 164)::pt b2 (cl [sv c] 9)::S::mps mb (bE l)::(t++hr)) (by exact List.perm_append_comm_assoc (S::mps mb (bE l)::t) [pt b7 (cl [sv x.parents[i],a1,c1,d1,e1,f1] 88),pt b1 (cl [.slice a l.length cap,.map (some mb)] 164),pt b2 (cl [sv c] 9)] hr) ?_)))))
     exact aj Z ⟨Z,.inr ⟨_,t,h1,Z⟩⟩ sbq
  ·have hil:i=x.parents.length:=by
    have:¬ i<x.parents.length:=by simpa using hd2
    omega
   subst hil
   rw [List.take_length,← hpar] at hΦ
   refine aB (xE (xE (xY ?_)))
   exact zR Z ⟨Z,.inl ⟨s,hΦ,Z⟩⟩ sbq
end
def Col (m:List (Bs×Value)) (o G:List Nm):Prop:=∀ x,bJ m x=if x∈o then some (.int .i64 2) else if x∈G then some (.int .i64 1) else none
theorem Col.grey {m:List (Bs×Value)} {o G:List Nm} (h:Col m o G) {c:Nm} (hc:c ∉ o):Col (dZ m c (.int .i64 1)) o (c::G):=fun x=>by
 rw [nu,h x]
 by_cases hx:x=c
 ·subst hx; rw [if_pos rfl,if_neg hc,if_pos (by simp)]
 ·rw [if_neg hx]; simp [hx]
theorem Col.black {m:List (Bs×Value)} {o G:List Nm} {c:Nm} (h:Col m o (c::G)):Col (dZ m c (.int .i64 2)) (o++[c]) G:=fun x=>by
 rw [nu,h x]
 by_cases hx:x=c
 ·subst hx; rw [if_pos rfl,if_pos (by simp)]
 ·rw [if_neg hx]; simp [hx]
def visV (b5 b2 b7 b6:Nat):Value:=.func (.func 177) #[] #[.pointer (some ⟨b5,0,none⟩),.pointer (some ⟨b2,0,none⟩),.pointer (some ⟨b7,0,none⟩),.pointer (some ⟨b6,0,none⟩)]
def visS (S:Res) (v:Value) (l:Sys) (b5 b2 b7 b6 mb mc:Nat) (q:List (Bs×Value)×Value×List Nm):SH :=
 [pt b5 (cl [.map (some mc)] 162),pt b2 (cl [v,.map (some mb)] 164),pt b7 (cl [visV b5 b2 b7 b6] 256),mps mc q.1,pt b6 (cl [q.2.1] 40),NR q.2.1 q.2.2,S,mps mb (bE l)]
section
variable {S:Res} {v:Value} {l:Sys}
theorem M3 {b5 b2 b7 b6 mb mc : Nat} (hv : lU S v l) (hp : ∀ x ∈ l, x.parents.length ≤ 1099511627776) (hl : l.length ≤ 1099511627776) (ha : gz l) : ∀ (f : Nat) (c : Nm) (m : List (Bs × Value)) (w : Value) (o G : List Nm), rk l c < f → isC l c = true → w.oneCell' = true → Tp l o → (∀ x ∈ o, isC l x = true) → Col m o G → (∀ g ∈ G, has l c g = false) →
  Ct prog 177 #[sv c,.pointer (some ⟨b5,0,none⟩),.pointer (some ⟨b2,0,none⟩),.pointer (some ⟨b7,0,none⟩),.pointer (some ⟨b6,0,none⟩)] (visS S v l b5 b2 b7 b6 mb mc (m,w,o)) fun u h'=>∃ m' w',u = .tuple #[]∧w'.oneCell'=true∧Col m' (vis l f o c) G∧h'=visS S v l b5 b2 b7 b6 mb mc (m',w',vis l f o c):=by
 obtain ⟨a,cap,rfl,_⟩:=id hv
 intro f
 induction f with
 | zero=>intro c m w o G h; omega
 | succ f ihf =>
  intro c m w o G hf hcC hw ho hoC hm hG
  have hlk:=hm c
  have hcG:c ∉ G:=fun hg=>by have:=hG c hg; rw [mX] at this; cases this
  by_cases hc:c∈o
  ·rw [if_pos hc] at hlk
   have hvis:vis l (f+1) o c=o:=by rw [vis,if_pos (by simpa using hc)]
   rw [hvis]
   refine qw (n:=26) func177 Z Z (len Z) fun hr w0=>?_
   unfold visS
   dsimp only
   refine cS (cQ (sV (vY Z kv) ?_))
   refine sM Z (sV (gB (show (bJ m c).getD (.int .i64 0) = .int .i64 2 by rw [hlk]; rfl) (bI Z Z gJ nG slq)) ?_)
   refine sV (bT Z Z) (sN (nK9 [0,1,2,3,4,10] Z (nT (aT Z ?_))))
   refine cT (xR ?_)
   exact jN (bs:=[]) Z Z ⟨m,w,Z,hw,hm,Z⟩ sbq
  ·rw [if_neg hc, if_neg hcG] at hlk
   refine qw (n:=26) func177 Z Z (len Z) fun hr w0=>?_
   unfold visS
   dsimp only
   refine cS (cQ (sV (vY Z kv) ?_))
   refine sM Z (sV (gB (show (bJ m c).getD (.int .i64 0) = .int .i64 0 by rw [hlk]; rfl) (bI Z Z gJ nG slq)) ?_)
   refine sV (bT Z Z) (sN (nK9 [0,1,2,3,4,10] Z (nT (aG Z ?_))))
   refine cK9 (xT (cQ (sV (vY Z kv) ?_)))
   refine sM Z (cu Z Z Z gJ slq ?_)
   refine sN (nK9 [0,1,2,3,4] Z (nT (cS (cQ ?_))))
   have hvis:vis l (f+1) o c=(par l c).foldl (vis l f) o++[c]:=by rw [vis,if_neg (by simpa using hc)]
   have hm1:=hm.grey hc
   refine sV (ag Z kw Z af) ?_
   refine sM Z (aH Z Z ET Z (jU Z) ?_)
   rintro u h' ⟨c1,c2,rfl,rfl⟩
   refine sN (nK9 [0,1,3,4,15] Z (nT (cB ?_)))
   simp only [lC,lN]
   unfold seqv
   refine iU Z EW fun yl db rec hst hpe hps hasg hbo hkn2=>?_
   refine ⟨_,Ct.perm (E8 (σ := List (Bs×Value)×Value×List Nm) (b1:=c1) (b2:=c2) (mb:=mb) (yl:=yl) (c:=c) (fun q=>pt yl (.loop rec)::pt db (.deferred (some []))::pt b5 (cl [.map (some mc)] 162)::pt b2 (cl [.slice a l.length cap,.map (some mb)] 164)::pt b7 (cl [visV b5 b2 b7 b6] 256)::mps mc q.1::pt b6 (cl [q.2.1] 40)::NR q.2.1 q.2.2::hr)
    (fun k q=>q.2.1.oneCell'=true∧Col q.1 q.2.2 (c::G)∧q.2.2=((par l c).take k).foldl (vis l f) o∧Tp l q.2.2∧∀ x∈q.2.2,isC l x=true) (fun _ _=>False) (dZ m c (.int .i64 1),w,o) ⟨hw,hm1,rfl,ho,hoC⟩ hv hp ?_) ?_,?_⟩
   ·rintro k ⟨m2, w2, o2⟩ p hk ⟨hw2, hm2, ho2, hT2, hC2⟩
    simp only at hw2 hm2 ho2 hT2 hC2
    have hpm:=List.mem_of_getElem? hk
    have hrk:=il ha hpm
    refine Yc.perm (qo (n:=26) (rec:=rec) (args:=[sv p]) (hf:=pt db (.deferred (some []))::pt b5 (cl [.map (some mc)] 162)::pt b2 (cl [.slice a l.length cap,.map (some mb)] 164)::pt b7 (cl [visV b5 b2 b7 b6] 256)::mps mc m2::pt b6 (cl [w2] 40)::NR w2 o2::S::mps mb (bE l)::hr) (by rw [hps]; rfl) hkn2 (by rw [hps]; decide) ?_) (by exact (by repeat (first | exact Pm.refl | refine Pm.cons slq ?_):Pm _ _).perm)
    intro hr2 w1
    rw [hasg,hps,hbo]
    simp only [lC,lN]
    have hih:=ihf p m2 w2 o2 (c::G) (by omega) (lW hpm) hw2 hT2 hC2 hm2 (fun g hg=>by
     rcases List.mem_cons.1 hg with rfl | hg
     ·exact ha g p hpm
     ·cases hh:has l p g with
      | false=>rfl
      | true=>have:=hG g hg; rw [mY (rq hpm) hh] at this; cases this)
    obtain ⟨hs1,hs2⟩:=jO ha f p o2 (by omega) hT2
    unfold visS at hih
    dsimp only at hih
    refine cR (sV (vA9 Z) (sN (nK9 [3,6] Z (ax (kY Z slq (by first | rfl | assumption) ?_)))))
    refine cB (cR (sV (vY Z ld256) ?_))
    refine sM Z (aH Z Z en177 Z (hih) ?_)
    rintro u h' ⟨m3,w3,rfl,hw3,hm3,rfl⟩
    simp only [lC,lN]
    refine sN (nK9 [] Z (ax (xB (dn slq (.inl ⟨Z,(m3,w3,vis l f o2 p),⟨hw3,hm3,?_,hs1,fun x hx=>?_⟩,Z⟩) ?_))))
    ·obtain ⟨hkl,hke⟩:=List.getElem?_eq_some_iff.1 hk
     rw [List.take_succ_eq_append_getElem hkl,List.foldl_append,← ho2,hke]; rfl
    ·rcases (hs2 x).1 hx with hx | hx
     ·exact hC2 x hx
     ·exact uq (lW hpm) hx
    ·rw [dx hst hpe]
     exact sbq
   ·exact (by repeat (first | exact Pm.refl | refine Pm.cons slq ?_):Pm _ _).perm
   ·rintro u h' ⟨rfl, (⟨⟨m2, w2, o2⟩, ⟨hw2, hm2, ho2, hT2, hC2⟩, rfl⟩ | ⟨_, _, hfalse, _⟩)⟩
    ·simp only at hw2 hm2 ho2 hT2 hC2
     refine ⟨rec,_,slq,(by rw [hst]; simp),?_⟩
     rw [hpe]
     dsimp only
     rw [List.take_length] at ho2
     have hlen:o2.length≤l.length:=by
      have:=aP (b:=nms l) hT2.nodup fun x hx=>fD.1 (hC2 x hx)
      simpa [nms] using this
     rw [hvis,← ho2]
     refine xB (xT (cQ (sV (vY Z kv) ?_)))
     refine sM Z (cu Z Z Z gJ slq ?_)
     refine sN (nK9 [0,4] Z (nT (cR (sV (vY Z fH) ?_))))
     refine sM Z (ak (cells:=[sv c]) Z underlying40 fG Z Z (by kernel_rfl) (ltn Z) fun b24=>?_)
     refine dU [nC c] Z Z underlying40 fG Z (by decide) slq (by simp [nC]) Z (fun j u2 hu2=>bP (bU (by simpa [nC] using hu2))) (by simp [nC,Value.oneCell']) (by simp; omega) (by simp; omega) (ltn Z) fun w3 hw3 _=>?_
     rw [show o2.map nC++[nC c]=(o2++[c]).map nC by simp]
     refine aX Z Z yQ ?_
     refine sN (nK9 [] Z (ax ?_))
     exact xt_endM (bs:=[db]) Z Z ⟨dZ m2 c (.int .i64 2),w3,Z,hw3,hm2.black,Z⟩ sbq
    ·exact hfalse.elim
end
end Go.Hr
