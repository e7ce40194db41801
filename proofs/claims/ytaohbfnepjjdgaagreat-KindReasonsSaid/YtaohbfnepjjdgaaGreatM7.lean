/-
  Rows of elements: rows that are only read (Row),rows that are owned,wherever they begin (VR); contracts over many resources as one. Generic: nothing of the program is named here. No condition.
  Rules over rows of elements: loads,stores,slices,append; a row of which one element is looked at; a list of resources of which one is looked at. Generic: nothing of the program is named here. No condition.
  Systems of classes in the machine's memory,as data that is read. Nothing of the program but its types' numbers is named here. No condition.
  The specification: index,Has,parents,reserved; the law's few. Conditions: what is read.
  The specification: parents. Conditions: what is read.
  Package heir: kinds,of. Conditions: what is read.
  Package heir: of,the parents of a class one by one. Conditions: what is read,what is done at each.
  Package heir: the search for ancestors. Conditions: what is read,a system without rings.
-/
import Derived.Test.YtaohbfnepjjdgaaGreatM5
import Derived.Test.YtaohbfnepjjdgaaGreatM4
import Derived.ArgAppend
import Derived.Test.YtaohbfnepjjdgaaGreatM1
set_option linter.unusedVariables false
set_option linter.unusedSimpArgs false
namespace Go.Ck
open Go Go.RowKit

/-! ## Rows that are read -/
def Row {α : Type} (S:Res) (sz:Nat) (X:List Value → α → Prop) (v:Value) (l:List α):Prop :=
 ∃ a cap,v = .slice a l.length cap∧l.length≤cap∧cap≤maxLen∧(a=none→cap=0)∧∀ i x,l[i]? = some x→∃ b o us,a=some ⟨b,o,none⟩∧us.length=sz∧Rds S b (o+i * sz) us∧X us x
section
variable {α : Type} {S S':Res} {sz:Nat} {X X':List Value → α → Prop} {v:Value} {l:List α}
theorem Row.mono (h:Row S sz X v l) (hr:∀ p u,Rd S p u→Rd S' p u) (hx:∀ us x,x∈l→X us x→X' us x):Row S' sz X' v l:=by
 obtain ⟨a,cap,h1,h2,h3,h4,h5⟩:=h
 refine ⟨a,cap,h1,h2,h3,h4,fun i x hi=>?_⟩
 obtain ⟨b,o,us,g1,g2,g3,g4⟩:=h5 i x hi
 exact ⟨b,o,us,g1,g2,fun j hj=>hr _ _ (g3 j hj),hx _ _ (List.mem_of_getElem? hi) g4⟩
theorem Row.nil:Row S sz X (.slice none 0 0) []:=⟨none,0,rfl,Nat.le_refl _,Nat.zero_le _,fun _=>rfl,fun i x h=>by simp at h⟩
theorem Row.at (h:Row S sz X v l) {i:Nat} {x : α} (hi:l[i]? = some x):∃ b o cap us,v = .slice (some ⟨b,o,none⟩) l.length cap∧us.length=sz∧Rds S b (o+i * sz) us∧X us x:=by
 obtain ⟨a,cap,h1,h2,h3,h4,h5⟩:=h
 obtain ⟨b,o,us,g1,g2,g3,g4⟩:=h5 i x hi
 exact ⟨b,o,cap,us,by rw [h1,g1],g2,g3,g4⟩
theorem Row.one (h:Row S sz X v l):v.oneCell'=true:=by obtain ⟨a,cap,rfl,_⟩:=h; rfl
end
theorem Row.at1 {α : Type} {S:Res} {X:List Value → α → Prop} {v:Value} {l:List α} (h:Row S 1 X v l) {i:Nat} {x : α} (hi:l[i]? = some x):∃ b o cap u,v = .slice (some ⟨b,o,none⟩) l.length cap∧Rd S ⟨b,o+i * 1,none⟩ u∧X [u] x:=by
 obtain ⟨b,o,cap,us,h1,h2,h3,h4⟩:=h.at hi
 match us,h2 with
 | [u],_=>exact ⟨b,o,cap,u,h1,by simpa using h3 0 (by simp),h4⟩
theorem rds_at {r:Res} {b o k:Nat} {us:List Value} {v:Value} (h:Rds r b o us) (hv:us[k]? = some v):Rd r ⟨b,o+k,none⟩ v:=by
 obtain ⟨hk,hv⟩:=List.getElem?_eq_some_iff.1 hv
 subst hv; exact h k hk
theorem rd_in {k:SH} {r:Res} {k':SH} (s:Sel k r k') (p:Addr) (v:Value) (h:Rd r p v):Rd (Res.star k) p v:=rd_star s h

/-! ## Contracts over many resources as one -/
theorem holds_star1 {w:World} {L hr:SH}:Holds w (Res.star L::hr)↔Holds w (L++hr):=star_iff
theorem reads_star {P:Program} {k:FuncId} {args:Array Value} {L:SH} {v:Value} (h:Reads P k args [Res.star L] v):Reads P k args L v:=fun hr w hh =>
 (h hr w (holds_star1.2 hh)).mono fun _ _ ⟨u,h',he,⟨hu,hh'⟩,hH,hS⟩=>⟨u,L,he,⟨hu,rfl⟩,by subst hh'; exact holds_star1.1 hH,hS⟩
theorem reads_one {P:Program} {k:FuncId} {args:Array Value} {L:SH} {v:Value} (h:Reads P k args L v):Reads P k args [Res.star L] v:=fun hr w hh =>
 (h hr w (holds_star1.1 hh)).mono fun _ _ ⟨u,h',he,⟨hu,hh'⟩,hH,hS⟩=>⟨u,_,he,⟨hu,rfl⟩,by subst hh'; exact holds_star1.2 hH,hS⟩
def CtN (P:Program) (k:FuncId) (args:Array Value) (hf:SH) (Q:Value→Res→Prop):Prop:=Ct P k args hf fun u h'=>∃ T,h'=T::hf∧Q u T
theorem ctn_star {P:Program} {k:FuncId} {args:Array Value} {L:SH} {Q:Value→Res→Prop} (h:CtN P k args [Res.star L] Q):CtN P k args L Q:=fun hr w hh =>
 (h hr w (holds_star1.2 hh)).mono fun _ _ ⟨u,h',he,⟨T,hT,hQ⟩,hH,hS⟩=>⟨u,T::L,he,⟨T,rfl,hQ⟩,by
  subst hT
  have h1:Holds _ (T::Res.star L::hr):=hH
  have h2:Holds _ (Res.star L::T::hr):=h1.perm (.swap _ _ _)
  exact (holds_star1.1 h2).perm List.perm_middle,hS⟩
theorem CtN.mono {P:Program} {k:FuncId} {args:Array Value} {hf:SH} {Q Q':Value→Res→Prop} (h:CtN P k args hf Q) (hq:∀ u T,Q u T→Q' u T):CtN P k args hf Q':=Ct.mono h fun _ _ ⟨T,h1,h2⟩=>⟨T,h1,hq _ _ h2⟩

/-! ## Rows that are owned -/
def VR (v:Value) (E:TypeId) (sz:Nat) (rows:List (List Value)):Res where
 dom b:=∃ o m cp,v = .slice (some ⟨b,o,none⟩) m cp
 ok f:=(∀ r∈rows,r.length=sz)∧((v = .slice none 0 0∧rows=[])∨∃ b o cp pre j,v = .slice (some ⟨b,o,none⟩) rows.length cp∧f b=some (cl (pre++(rows.flatten++j)) E)∧pre.length=o∧rows.length≤cp∧cp≤maxLen∧cp * sz≤(rows.flatten++j).length)
 loc f g he:=fun ⟨h1,h2⟩=>⟨h1,h2.imp id fun ⟨b,o,cp,pre,j,hv,hb,hr⟩=>⟨b,o,cp,pre,j,hv,by rw [← he b ⟨o,_,cp,hv⟩]; exact hb,hr⟩⟩
 pres f:=fun ⟨_,h2⟩ b ⟨o,m,cp,hv⟩=>by
  rcases h2 with ⟨h3,_⟩ | ⟨b',o',cp',pre,j,h3,hb,_⟩
  ·rw [h3] at hv; cases hv
  ·rw [h3] at hv; cases hv; rw [hb]; rfl
section
variable {v:Value} {E:TypeId} {sz:Nat} {rows:List (List Value)} {f:Nat→Option Obj}
theorem VR.form (h:(VR v E sz rows).ok f):(v = .slice none 0 0∧rows=[])∨∃ b o cp,v = .slice (some ⟨b,o,none⟩) rows.length cp∧rows.length≤cp∧cp≤maxLen:=by
 rcases h.2 with h | ⟨b,o,cp,_,_,h1,_,_,h2,h3,_⟩
 ·exact .inl h
 ·exact .inr ⟨b,o,cp,h1,h2,h3⟩
theorem VR.one (h:(VR v E sz rows).ok f):v.oneCell'=true:=by rcases VR.form h with ⟨rfl,_⟩ | ⟨_,_,_,rfl,_⟩ <;> rfl
theorem VR.nil:(VR (.slice none 0 0) E sz []).ok f:=⟨by simp,.inl ⟨rfl,rfl⟩⟩
theorem flatten_at {rows : List (List Value)} {sz m k : Nat} {r : List Value} {x : Value} (h : ∀ r ∈ rows, r.length = sz) (hm : rows[m]? = some r) (hk : r[k]? = some x) : rows.flatten[m * sz + k]? = some x := by
 induction rows generalizing m with
 | nil=>simp at hm
 | cons q t ih =>
  have hq:=h q (by simp)
  cases m with
  | zero =>
   simp only [List.getElem?_cons_zero,Option.some.injEq] at hm
   subst hm
   rw [List.flatten_cons,Nat.zero_mul,Nat.zero_add,List.getElem?_append_left (List.getElem?_eq_some_iff.1 hk).1]; exact hk
  | succ m =>
   rw [List.getElem?_cons_succ] at hm
   rw [List.flatten_cons,List.getElem?_append_right (by rw [hq,Nat.succ_mul]; omega),hq,← ih (fun r hr=>h r (by simp [hr])) hm]
   congr 1
   rw [Nat.succ_mul]; omega
theorem flatten_set {rows : List (List Value)} {sz m k : Nat} {r : List Value} {x : Value} (h : ∀ r ∈ rows, r.length = sz) (hm : rows[m]? = some r) (hk : k < sz) : rows.flatten.set (m * sz + k) x = (rows.set m (r.set k x)).flatten := by
 induction rows generalizing m with
 | nil=>simp at hm
 | cons q t ih =>
  have hq:=h q (by simp)
  cases m with
  | zero =>
   simp only [List.getElem?_cons_zero,Option.some.injEq] at hm
   subst hm
   rw [List.flatten_cons,Nat.zero_mul,Nat.zero_add,List.set_append_left _ _ (by omega),List.set_cons_zero,List.flatten_cons]
  | succ m =>
   rw [List.getElem?_cons_succ] at hm
   rw [List.flatten_cons,List.set_append_right _ _ (by rw [hq,Nat.succ_mul]; omega),hq,List.set_cons_succ,List.flatten_cons,← ih (fun r hr=>h r (by simp [hr])) hm]
   congr 2
   rw [Nat.succ_mul]; omega
theorem flatten_len {rows:List (List Value)} {sz:Nat} (h:∀ r∈rows,r.length=sz):rows.flatten.length=rows.length * sz:=by
 induction rows with
 | nil=>simp
 | cons q t ih=>rw [List.flatten_cons,List.length_append,h q (by simp),ih (fun r hr=>h r (by simp [hr])),List.length_cons,Nat.succ_mul]; omega
theorem flatten_inv {rows : List (List Value)} {sz j : Nat} {x : Value} (h : ∀ r ∈ rows, r.length = sz) (hj : rows.flatten[j]? = some x) : ∃ m k r, j = m * sz + k ∧ rows[m]? = some r ∧ r[k]? = some x := by
 induction rows generalizing j with
 | nil=>simp at hj
 | cons q t ih =>
  have hq:=h q (by simp)
  rw [List.flatten_cons] at hj
  by_cases hjq:j<q.length
  ·rw [List.getElem?_append_left hjq] at hj
   exact ⟨0,j,q,by simp,Z,hj⟩
  ·rw [List.getElem?_append_right (by omega)] at hj
   obtain ⟨m,k,r,h1,h2,h3⟩:=ih (fun r hr=>h r (by simp [hr])) hj
   exact ⟨m+1,k,r,by rw [Nat.succ_mul]; omega,h2,h3⟩
theorem Row.cells {α : Type} {S : Res} {X : List Value → α → Prop} {a : Option Addr} {n cp : Nat} : ∀ {l : List α}, Row S sz X (.slice a n cp) l → ∃ rows : List (List Value), rows.length = l.length ∧ (∀ r ∈ rows, r.length = sz) ∧ (∀ (i : Nat) us x, rows[i]? = some us → l[i]? = some x → X us x) ∧
  ∀ j u,rows.flatten[j]? = some u→∃ b o,a=some ⟨b,o,none⟩∧Rd S ⟨b,o+j,none⟩ u:=fun {l} h=>by
 obtain ⟨a',cap,h1,_,_,_,h5⟩:=h
 cases h1
 have key : ∀ (k : Nat), k ≤ l.length → ∃ rows : List (List Value), rows.length = k ∧ ∀ (i : Nat) us, rows[i]? = some us → ∃ x b o, l[i]? = some x ∧ a = some ⟨b, o, none⟩ ∧ us.length = sz ∧ Rds S b (o + i * sz) us ∧ X us x := by
  intro k
  induction k with
  | zero=>exact fun _=>⟨[],rfl,fun i us h=>by simp at h⟩
  | succ k ih =>
   intro hk
   obtain ⟨rows,g1,g2⟩:=ih (by omega)
   obtain ⟨b,o,us,e1,e2,e3,e4⟩:=h5 k l[k] (List.getElem?_eq_getElem (by omega))
   refine ⟨rows++[us],by simp [g1],fun i us' hi=>?_⟩
   by_cases hik:i<rows.length
   ·rw [List.getElem?_append_left hik] at hi; exact g2 i us' hi
   ·rw [List.getElem?_append_right (by omega)] at hi
    have hi0:i - rows.length=0:=by
     have:=(List.getElem?_eq_some_iff.1 hi).1
     simp at this; omega
    rw [hi0] at hi
    simp only [List.getElem?_cons_zero,Option.some.injEq] at hi
    subst hi
    have:i=k:=by omega
    subst this
    exact ⟨l[i],b,o,List.getElem?_eq_getElem (by omega),e1,e2,e3,e4⟩
 obtain ⟨rows,g1,g2⟩:=key l.length (Nat.le_refl _)
 have hsz:∀ r∈rows,r.length=sz:=fun r hr=>by
  obtain ⟨i,hi,rfl⟩:=List.mem_iff_getElem.1 hr
  obtain ⟨_,_,_,_,_,e2,_⟩:=g2 i _ (List.getElem?_eq_getElem hi)
  exact e2
 refine ⟨rows,g1,hsz,fun i us x hi hx=>?_,fun j u hj=>?_⟩
 ·obtain ⟨x',b,o,e0,_,_,_,e4⟩:=g2 i us hi
  rw [hx] at e0; cases e0; exact e4
 ·obtain ⟨m,k,r,rfl,e1,e2⟩:=flatten_inv hsz hj
  obtain ⟨x,b,o,_,e3,e4,e5,_⟩:=g2 m r e1
  exact ⟨b,o,e3,by have:=rds_at e5 e2; rwa [Nat.add_assoc] at this⟩
theorem rds_vr {b o n cp m:Nat} {r:List Value} (hm:rows[m]? = some r):Rds (VR (.slice (some ⟨b,o,none⟩) n cp) E sz rows) b (o+m * sz) r:=fun i hi w hw=>by
 obtain ⟨h1,h2⟩:=hw
 rcases h2 with ⟨h3,_⟩ | ⟨b',o',cp',pre,j,h3,hb,hp,_⟩
 ·cases h3
 ·cases h3
  have hb':w.heap[b]? = _:=hb
  have h4:=flatten_at h1 hm (List.getElem?_eq_getElem hi)
  have hlt:=(List.getElem?_eq_some_iff.1 h4).1
  simp only [World.cell?,hb',cl,List.getElem?_toArray,Option.isSome_none,Bool.false_eq_true,if_false]
  rw [List.getElem?_append_right (by omega),hp,show o+m * sz+i - o=m * sz+i by omega,List.getElem?_append_left hlt,h4]
theorem row_vr {α : Type} {X:List Value → α → Prop} {l:List α} {S:Res} (hok:∃ f,(VR v E sz rows).ok f) (hl:rows.length=l.length) (hr:∀ p u,Rd (VR v E sz rows) p u→Rd S p u) (hx:∀ (i:Nat) us x,rows[i]? = some us→l[i]? = some x→X us x):Row S sz X v l:=by
 obtain ⟨f,hf⟩:=hok
 rcases VR.form hf with ⟨rfl,h1⟩ | ⟨b,o,cp,rfl,h1,h2⟩
 ·have hl0:l=[]:=List.eq_nil_of_length_eq_zero (by rw [← hl,h1]; rfl)
  subst hl0; exact Row.nil
 ·refine ⟨some ⟨b,o,none⟩,cp,by rw [hl],by omega,h2,(fun h=>by cases h),fun i x hi=>?_⟩
  have hlt:i<rows.length:=by rw [hl]; exact (List.getElem?_eq_some_iff.1 hi).1
  have hri:rows[i]? = some rows[i]:=List.getElem?_eq_getElem hlt
  exact ⟨b,o,rows[i],Z,hf.1 _ (List.getElem_mem hlt),fun j hj=>hr _ _ (rds_vr hri j hj),hx i _ _ hri hi⟩
end

/-! ### What is done to them -/
section
variable {w:World} {v:Value} {E:TypeId} {sz:Nat} {rows:List (List Value)} {h:SH}
theorem Holds.vr_nil (hh:Holds w h) (E:TypeId) (sz:Nat):Holds w (VR (.slice none 0 0) E sz []::h):=⟨VR.nil,(fun _ ⟨_,_,_,hv⟩=>by cases hv),hh⟩
theorem Holds.vr_set {b o n cp m k : Nat} {r : List Value} {x : Value} (hh : Holds w (VR (.slice (some ⟨b, o, none⟩) n cp) E sz rows :: h)) (hm : rows[m]? = some r) (hk : k < sz) :
  (∃ l,w.heap[b]? = some (cl l E)∧o+m * sz+k<l.length)∧Holds (w.setCell ⟨b,o+m * sz+k,none⟩ x) (VR (.slice (some ⟨b,o,none⟩) n cp) E sz (rows.set m (r.set k x))::h):=by
 obtain ⟨⟨h1,h2⟩,hd,ht⟩:=hh
 rcases h2 with ⟨h3,_⟩ | ⟨b',o',cp',pre,j,h3,hb,hp,hc1,hc2,hc3⟩
 ·cases h3
 ·cases h3
  have hr:=h1 r (List.mem_of_getElem? hm)
  have h4:=flatten_at (k:=k) h1 hm (List.getElem?_eq_getElem (by omega))
  have hlt:=(List.getElem?_eq_some_iff.1 h4).1
  refine ⟨⟨_,hb,by simp only [List.length_append]; omega⟩,?_⟩
  have hpt:Holds w (pt b (cl (pre++(rows.flatten++j)) E)::h):=⟨hb,fun c hc=>by rw [show c=b from hc]; exact hd b ⟨o,_,cp,rfl⟩,ht⟩
  have hset:=Holds.setCell (off:=o+m * sz+k) hpt x
  have hl:(pre++(rows.flatten++j)).set (o+m * sz+k) x=pre++((rows.set m (r.set k x)).flatten++j):=by
   rw [List.set_append_right _ _ (by omega),hp,show o+m * sz+k - o=m * sz+k by omega,List.set_append_left _ _ hlt,flatten_set h1 hm hk]
  rw [hl] at hset
  refine ⟨⟨fun q hq=>?_,.inr ⟨b,o,cp,pre,j,by rw [List.length_set],hset.1,hp,by rw [List.length_set]; exact hc1,hc2,?_⟩⟩,fun c hc=>hd c hc,hset.2.2⟩
  ·rcases List.mem_or_eq_of_mem_set hq with hq | rfl
   ·exact h1 q hq
   ·rw [List.length_set]; exact hr
  ·have:(rows.set m (r.set k x)).flatten.length=rows.flatten.length:=by rw [← flatten_set h1 hm hk,List.length_set]
   rw [List.length_append,this,← List.length_append]; exact hc3
theorem Holds.vr_of {b n:Nat} {cells:List Value} (hh:Holds w (pt b (cl cells E)::h)) (hc:cells=rows.flatten) (h1:∀ r∈rows,r.length=sz) (hn:rows.length=n) (hm:n≤maxLen):Holds w (VR (.slice (some ⟨b,0,none⟩) n n) E sz rows::h):=by
 subst hn hc
 refine ⟨⟨h1,.inr ⟨b,0,_,[],[],Z,?_,Z,Nat.le_refl _,hm,by rw [List.append_nil,flatten_len h1]; exact Nat.le_refl _⟩⟩,fun c ⟨o',m',cp',hv⟩=>?_,hh.2.2⟩
 ·have:=hh.1
  simpa [pt] using this
 ·cases hv; exact hh.2.1 _ rfl

theorem run_append_vr {P : Program} {t : TypeId} (ty : TypeId) {z : Value} {bytes : Nat} (ht : P.underlying t = some (.slice E)) (hE : Inf P E z sz bytes) (hzs : z.cells.size = sz) (hsz : 0 < sz)
  (hh:Holds w (VR v E sz rows::h)) {src:Addr} {m cp:Nat} {news:List (List Value)} (hn1:∀ r∈news,r.length=sz) (hl:news.length=m)
  (hnews:∀ j u,news.flatten[j]? = some u→w.cell? (src.add j)=some u) (h1:∀ u∈news.flatten,u.oneCell'=true) (hb:(rows.length+m) * bytes≤140737488355328) (h63:rows.length+m≤9223372036854775807) :
  ∃ v' w',(Builtin.append_ #[t,t] ty #[v,.slice (some src) m cp]).run P w = .ok v' w'∧Holds w' (VR v' E sz (rows++news)::h)∧Same w w'∧(v' = .slice none 0 0↔v = .slice none 0 0∧m=0):=by
 obtain ⟨i,hi,hz,hisz,hiby⟩:=hE.parts
 subst hisz hiby
 have hok:(VR v E i.size rows).ok (hp w):=hh.1
 have hmax:maxLen=9223372036854775807:=rfl
 have hall:∀ r∈rows++news,r.length=i.size:=fun r hr=>(List.mem_append.1 hr).elim (hok.1 r) (hn1 r)
 have hnl:news.flatten.length=m * i.size:=by rw [flatten_len hn1,hl]
 have hrl:rows.flatten.length=rows.length * i.size:=flatten_len hok.1
 have newrow : ∀ (old : Nat), old < rows.length + m → ∀ w1 : World, w1 = w.drew.alloc (.cells (rows.flatten.toArray ++ news.flatten.toArray ++ Builtin.zeroCells z.cells (grownCap w (rows.length + m) old E - (rows.length + m))) E) →
   Holds w1 (VR (.slice (some ⟨w.heap.size,0,none⟩) (rows.length+m) (grownCap w (rows.length+m) old E)) E i.size (rows++news)::h)∧Same w w1:=by
  intro old ho w1 hw1
  have hge:=grownCap_ge w (rows.length+m) old E
  have hcm:grownCap w (rows.length+m) old E≤maxLen:=grownCap_le_maxLen w (rows.length+m) old E (by rw [hmax]; exact h63)
  have hH:Holds w.drew h:=Holds.grew hh.2.2 (Grew.drawn w _)
  have hA:=Holds.alloc hH (.cells (rows.flatten.toArray++news.flatten.toArray++Builtin.zeroCells z.cells (grownCap w (rows.length+m) old E - (rows.length+m))) E)
  have hobj:(Obj.cells (rows.flatten.toArray++news.flatten.toArray++Builtin.zeroCells z.cells (grownCap w (rows.length+m) old E - (rows.length+m))) E)=cl ([]++((rows++news).flatten++(Builtin.zeroCells z.cells (grownCap w (rows.length+m) old E - (rows.length+m))).toList)) E:=by
   simp only [cl,Obj.cells.injEq,and_true]
   apply Array.ext'
   simp
  rw [hobj] at hA
  refine ⟨?_,?_⟩
  ·rw [hw1,hobj]
   refine ⟨⟨hall,.inr ⟨w.heap.size,0,_,[],_,by rw [List.length_append,hl],hA.1,Z,by rw [List.length_append,hl]; exact hge,hcm,?_⟩⟩,fun b ⟨o',m',cp',hv⟩=>?_,hA.2.2⟩
   ·have hzl:(Builtin.zeroCells z.cells (grownCap w (rows.length+m) old E - (rows.length+m))).toList.length=(grownCap w (rows.length+m) old E - (rows.length+m)) * i.size:=by rw [Array.length_toList,size_zeroCells,hzs]
    rw [List.length_append,flatten_len hall,List.length_append,hl,hzl,← Nat.add_mul]
    apply Nat.mul_le_mul_right; omega
   ·cases hv; exact hA.2.1 _ rfl
  ·rw [hw1]; exact (Grew.drawn w _).toSame.trans (Grew.alloc _ _ rfl).toSame
 rcases hok.2 with ⟨rfl,rfl⟩ | ⟨g,o,cap,pre,j,rfl,hg,hpo,hnc,hcm,hcs⟩
 ·by_cases hm:m=0
  ·subst hm
   have hn:news=[]:=List.eq_nil_of_length_eq_zero hl
   subst hn
   refine ⟨.slice none 0 0,w,?_,hh,Same.refl w,by simp⟩
   simp [Builtin.append_,run_underlying ht,sizeOf,typeInfo,hi,Builtin.lenOf,Builtin.firstCells,loadCells,loadCellsFrom]
  ·have hr:=run_append_nil (P:=P) w t ty E i z ht hi hz src m cp news.flatten hnl hnews (by omega) (by simp only [List.length_nil] at h63; omega) (by simp only [List.length_nil,Nat.zero_add] at hb; omega)
   have:=newrow 0 (by omega) _ rfl
   simp only [List.length_nil,Nat.zero_add,List.nil_append,List.flatten_nil,Array.empty_append] at this hr ⊢
   exact ⟨_,_,hr,this.1,this.2,by simp [hm]⟩
 ·have hg' : w.heap[g]? = some (.cells (pre ++ (rows.flatten ++ j)).toArray E (0, 0)) := hg
  by_cases hroom:rows.length+m≤cap
  ·have hfit:o+rows.length * i.size+0+news.flatten.length≤(pre++(rows.flatten++j)).toArray.size:=by
    rw [hnl,List.size_toArray,List.length_append,hpo]
    have:(rows.length+m) * i.size≤cap * i.size:=Nat.mul_le_mul_right _ hroom
    rw [Nat.add_mul] at this
    omega
   have hst:=run_storeCells_at P g (o+rows.length * i.size) E news.flatten 0 _ w hg' hfit h1
   simp only [Nat.add_zero] at hst
   have hfc:=run_firstCells_some (P:=P) w i.size m src m cp news.flatten hnl hnews
   have hr:(Builtin.append_ #[t,t] ty #[.slice (some ⟨g,o,none⟩) rows.length cap,.slice (some src) m cp]).run P w = .ok (.slice (some ⟨g,o,none⟩) (rows.length+m) cap) (w.setRow g ((pre++(rows.flatten++j)).toArray.toList.take (o+rows.length * i.size)++news.flatten++(pre++(rows.flatten++j)).toArray.toList.drop (o+rows.length * i.size+news.flatten.length)).toArray):=by
    simp [Builtin.append_,run_underlying ht,sizeOf,typeInfo,hi,Builtin.lenOf,hroom,hfc,Addr.add_lit,hst]
   have hset:=setRow_heap w g (pre++(rows.flatten++j)).toArray ((pre++(rows.flatten++j)).toArray.toList.take (o+rows.length * i.size)++news.flatten++(pre++(rows.flatten++j)).toArray.toList.drop (o+rows.length * i.size+news.flatten.length)).toArray E (0,0) hg'
   refine ⟨_,_,hr,?_,⟨rfl,rfl,rfl,by simp,fz_one (b:=g) (fun o ho=>by rw [hg'] at ho; cases ho; rfl) (fun o ho=>by rw [hset] at ho; cases ho; rfl) fun c hc=>setRow_other w g c _ hc⟩,by simp⟩
   have htk:(pre++(rows.flatten++j)).take (o+rows.length * i.size)=pre++rows.flatten:=by
    rw [← List.append_assoc,List.take_left' (by rw [List.length_append,hpo,hrl])]
   have hdr:(pre++(rows.flatten++j)).drop (o+rows.length * i.size+news.flatten.length)=j.drop news.flatten.length:=by
    rw [← List.drop_drop,← List.append_assoc,List.drop_left' (by rw [List.length_append,hpo,hrl])]
   simp only [htk,hdr] at hset ⊢
   refine ⟨⟨hall,.inr ⟨g,o,cap,pre,j.drop news.flatten.length,by rw [List.length_append,hl],?_,hpo,by rw [List.length_append,hl]; exact hroom,hcm,?_⟩⟩,fun b ⟨o',m',cp',hv⟩=>?_,?_⟩
   ·show w.setRow g _ |>.heap[g]? = _
    rw [hset]; simp [cl]
   ·rw [List.length_append,List.length_drop,flatten_len hall,List.length_append,hl,hnl]
    rw [List.length_append,hrl] at hcs
    have h5:(rows.length+m) * i.size≤cap * i.size:=Nat.mul_le_mul_right _ hroom
    rw [Nat.add_mul] at h5 ⊢
    omega
   ·cases hv; exact hh.2.1 _ ⟨_,_,_,rfl⟩
   ·exact HoldsF.loc hh.2.2 fun b hb=>(setRow_other w g b _ (fun e=>hh.2.1 b ⟨o,rows.length,cap,by rw [e]⟩ hb)).symm
  ·have holds:∀ k u,rows.flatten[k]? = some u→w.cell? ((⟨g,o,none⟩:Addr).add k)=some u:=fun k u hu=>by
    rw [Addr.add_lit]
    have hlt:=(List.getElem?_eq_some_iff.1 hu).1
    simp only [World.cell?,hg',List.getElem?_toArray,Option.isSome_none,Bool.false_eq_true,if_false]
    rw [List.getElem?_append_right (by omega),hpo,show o+k - o=k by omega,List.getElem?_append_left hlt,hu]
   have hr:=run_append_grow (P:=P) w t ty E i z ht hi hz ⟨g,o,none⟩ rows.length cap rows.flatten hrl holds src m cp news.flatten hnl hnews (by omega) (by omega) (growslice_fits (by omega) hb)
   have:=newrow cap (by omega) _ rfl
   exact ⟨_,_,hr,this.1,this.2,by simp⟩
end
end Go.Ck
namespace Go.Ck
open Go Go.RowKit

section
variable {P:Program} {e:Env} {h h':SH} {ty:TypeId}
theorem rd_vrk {b o n cp m k sz:Nat} {E:TypeId} {rows:List (List Value)} {r:List Value} {v:Value} (hm:rows[m]? = some r) (hk:r[k]? = some v):Rd (VR (.slice (some ⟨b,o,none⟩) n cp) E sz rows) ⟨b,o+m * sz+k,none⟩ v:=rds_at (rds_vr hm) hk
theorem v_sliceTail {T E : TypeId} {x y : Operand} {b o n cp lo sz : Nat} {i : Int} {k : IntKind} (hx : e.ev? x = some (.slice (some ⟨b, o, none⟩) n cp)) (hy : e.ev? y = some (.int k i)) (hT : SlE P T E sz)
  (hi':i=(lo:Int)) (h1:lo≤n) (hc:n≤cp):Vop P e h (.slice T x (some y) none none) ty (.slice (some ⟨b,if cp=lo then o else o+lo * sz,none⟩) (n - lo) (cp - lo)):=
 ⟨by simp,by simp,fun ρ w d pos after g hρ _=>by
  subst hi'
  have hT':P.underlying T=some (.slice (P.elem T)):=by simp [Program.elem,hT.1]
  have he:P.elem T=E:=by simp [Program.elem,hT.1]
  have hr:=run_slice_l (P:=P) w T (some ⟨b,o,none⟩) n cp hT' k lo (by omega) (by omega)
  have hs:sliced (some ⟨b,o,none⟩) lo n cp sz = .slice (some ⟨b,if cp=lo then o else o+lo * sz,none⟩) (n - lo) (cp - lo):=by
   unfold sliced; by_cases hcl:cp=lo <;> simp [hcl,Addr.add_lit]
  simp only [he,hT.2 w,Result.andThen_ok,Int.toNat_natCast,hs] at hr
  simp only [execOp,hρ x _ hx,Option.map_some,Option.map_none,hρ y _ hy,Sem.run_bind,run_sliceAt_slice w T _ _ _ _ hT',hr,Result.andThen_ok,Sem.run_pure]⟩
theorem v_sliceHead {T E : TypeId} {x y : Operand} {b o n cp hi sz : Nat} {i : Int} {k : IntKind} (hx : e.ev? x = some (.slice (some ⟨b, o, none⟩) n cp)) (hy : e.ev? y = some (.int k i)) (hT : SlE P T E sz)
  (hi':i=(hi:Int)) (h1:hi≤cp):Vop P e h (.slice T x none (some y) none) ty (.slice (some ⟨b,o,none⟩) hi cp):=
 ⟨by simp,by simp,fun ρ w d pos after g hρ _=>by
  subst hi'
  have hT':P.underlying T=some (.slice (P.elem T)):=by simp [Program.elem,hT.1]
  have he:P.elem T=E:=by simp [Program.elem,hT.1]
  have hr:=run_slice_h (P:=P) w T (some ⟨b,o,none⟩) n cp hT' k hi (by omega) (by omega)
  have hs:sliced (some ⟨b,o,none⟩) 0 hi cp sz = .slice (some ⟨b,o,none⟩) hi cp:=by
   unfold sliced; by_cases hcl:cp=0 <;> simp [hcl,Addr.add_lit]
  simp only [he,hT.2 w,Result.andThen_ok,Int.toNat_natCast,Int.toNat_zero,hs] at hr
  simp only [execOp,hρ x _ hx,Option.map_some,Option.map_none,hρ y _ hy,Sem.run_bind,run_sliceAt_slice w T _ _ _ _ hT',hr,Result.andThen_ok,Sem.run_pure]⟩
end

/-! ## What is known without a step -/
section
variable {c:Cx} {ops:Array Oper} {K:Act→World→Prop} {rest:List Oper} {e:Env} {h h':SH} {Q:Exit→Act→World→Prop} {x:Code} {ex:Exit} {r:Res}
theorem cd_ok (s:Sel h r h') (hc:(∃ f,r.ok f)→Cd c x Q e h):Cd c x Q e h:=fun a w hk hh hw=>hc ⟨_,(hh.sel s).1⟩ a w hk hh hw
theorem st_ok (s:Sel h r h') (hc:(∃ f,r.ok f)→St c ops K rest e h):St c ops K rest e h:=fun a w hk hh hw=>hc ⟨_,(hh.sel s).1⟩ a w hk hh hw
theorem xt_ok (s:Sel h r h') (hc:(∃ f,r.ok f)→Xt c ex Q e h):Xt c ex Q e h:=fun a w hk hh hw=>hc ⟨_,(hh.sel s).1⟩ a w hk hh hw
def Vw (h h':SH):Prop:=∀ w:World,Holds w h→Holds w h'
theorem cd_vw (hv:Vw h h') (hc:Cd c x Q e h'):Cd c x Q e h:=fun a w hk hh hw=>hc a w hk (hv w hh) hw
theorem st_vw (hv:Vw h h') (hc:St c ops K rest e h'):St c ops K rest e h:=fun a w hk hh hw=>hc a w hk (hv w hh) hw
theorem xt_vw (hv:Vw h h') (hc:Xt c ex Q e h'):Xt c ex Q e h:=fun a w hk hh hw=>hc a w hk (hv w hh) hw
theorem Vw.sel {k:SH} (s:Sel h r h') (hv:Vw (r::h') k):Vw h k:=fun w hh=>hv w (hh.sel s)
theorem Vw.pk {k hr m:SH} (p:Pk h k hr) (hv:Vw (k++hr) m):Vw h m:=fun w hh=>hv w (hh.pk p)
theorem Vw.trans {a b d:SH} (p:Vw a b) (q:Vw b d):Vw a d:=fun w h=>q w (p w h)
theorem Vw.refl:Vw h h:=fun _ hh=>hh
theorem Vw.frame {a b:SH} (hv:Vw a b) (hl:∀ w:World,Holds w a→∀ x,SH.dom b x→SH.dom a x) {k:SH}:Vw (a++k) (b++k):=fun w hh=>by
 obtain ⟨h1,h2,h3⟩:=HoldsF.append.1 hh
 exact HoldsF.append.2 ⟨hv w h1,h2,fun x hx=>h3 x (hl w h1 x hx)⟩
theorem vw_star {L k:SH}:Vw (Res.star L::k) (L++k):=fun _ hh=>holds_star1.1 hh
theorem vw_unstar {L k:SH}:Vw (L++k) (Res.star L::k):=fun _ hh=>holds_star1.2 hh
end

/-! ## Rows -/
section
variable {v:Value} {E:TypeId} {sz:Nat} {rows rows':List (List Value)} {h h':SH}
theorem vw_of {b n:Nat} {cells:List Value} (rows:List (List Value)) (hc:cells=rows.flatten) (h1:∀ r∈rows,r.length=sz) (hn:rows.length=n) (hm:n≤maxLen):Vw (pt b (cl cells E)::h) (VR (.slice (some ⟨b,0,none⟩) n n) E sz rows::h):=fun _ hh=>hh.vr_of hc h1 hn hm
theorem vw_nil (E:TypeId) (sz:Nat):Vw h (VR (.slice none 0 0) E sz []::h):=fun _ hh=>hh.vr_nil E sz
end
section
variable {c:Cx} {ops:Array Oper} {K:Act→World→Prop} {rest:List Oper} {e:Env} {h h':SH} {Q:Exit→Act→World→Prop} {x:Code} {ex:Exit}
variable {v:Value} {E:TypeId} {sz:Nat} {rows rows':List (List Value)}
theorem st_vr {T:TypeId} {x y:Operand} {ty:TypeId} {pos:String} {after:Array Edge} {b o n cp m k:Nat} {r:List Value} {u:Value}
  (hx:e.ev? x=some (.pointer (some ⟨b,o+m * sz+k,none⟩))) (hy:e.ev? y=some u) (hT:Sz c.P T 1) (hv:u.oneCell'=true) (hm:rows[m]? = some r) (hk:k<sz) (hl:rows.set m (r.set k u)=rows') (hs:Sel h (VR (.slice (some ⟨b,o,none⟩) n cp) E sz rows) h')
  (hn:St c ops K rest e (VR (.slice (some ⟨b,o,none⟩) n cp) E sz rows'::h')) :
  St c ops K (⟨none,.store T x y,ty,pos,after,none⟩::rest) e h :=
 st_any (by simp) fun a w hk' hh hs'=>by
  obtain ⟨⟨l,h1,h2⟩,h3⟩:=(hh.sel hs).vr_set (x:=u) hm hk
  have hr:=run_store1 hT hv (E:=E) (l:=l) h1 h2
  simp only [execOp,hk'.ev hx,hk'.ev hy,Sem.run_bind,hr,Result.andThen_ok,Sem.run_pure]
  rw [hl] at h3
  exact hn _ _ hk' h3 (hs'.trans (Same.setCell _ _ _))
theorem st_appA {d:Nat} {t ty:TypeId} {x y:Operand} {pos:String} {after:Array Edge} {z:Value} {bytes m cp:Nat} {src:Addr} (news:List (List Value))
  (hx:e.ev? x=some v) (hy:e.ev? y=some (.slice (some src) m cp)) (ht:c.P.underlying t=some (.slice E)) (hE:Inf c.P E z sz bytes) (hzs:z.cells.size=sz) (hsz:0<sz)
  (hs:Sel h (VR v E sz rows) h') (hn1:∀ r∈news,r.length=sz) (hl:news.length=m) (hnews:∀ j u,news.flatten[j]? = some u→At h (src.add j) u) (h1:∀ u∈news.flatten,u.oneCell'=true)
  (hb:(rows.length+m) * bytes≤140737488355328) (h63:rows.length+m≤9223372036854775807) (hd:d<c.n)
  (hnx:∀ v',v'.oneCell'=true→(v' = .slice none 0 0↔v = .slice none 0 0∧m=0)→St c ops K rest ((d,v')::e) (VR v' E sz (rows++news)::h')) :
  St c ops K (⟨some d,.call { callee:=.builtin .append,args := #[x,y],argTypes := #[t,t] },ty,pos,after,none⟩::rest) e h :=
 st_any (by simp) fun a w hk hh hw=>by
  obtain ⟨v',w',hr,hH,hS,hv⟩:=run_append_vr (P:=c.P) ty ht hE hzs hsz (hh.sel hs) (src:=src) (cp:=cp) hn1 hl (fun j u hu=>(hnews j u hu).cell hh) h1 hb h63
  simp only [execOp,resolve,invoke,builtin,hk.ev hx,hk.ev hy,Sem.run_bind,Sem.run_pure,Result.andThen_ok,List.map_toArray,List.map_cons,List.map_nil,hr]
  exact hnx v' (VR.one hH.1) hv _ w' (hk.put _ hd) hH (hw.trans hS)
theorem st_app {d:Nat} {t ty:TypeId} {x y:Operand} {pos:String} {after:Array Edge} {z:Value} {bytes sb so m cp:Nat} (news:List (List Value))
  (hx:e.ev? x=some v) (hy:e.ev? y=some (.slice (some ⟨sb,so,none⟩) m cp)) (ht:c.P.underlying t=some (.slice E)) (hE:Inf c.P E z sz bytes) (hzs:z.cells.size=sz) (hsz:0<sz)
  (hs:Sel h (VR v E sz rows) h') (hn1:∀ r∈news,r.length=sz) (hl:news.length=m) (hnews:∀ j u,news.flatten[j]? = some u→At h ⟨sb,so+j,none⟩ u) (h1:∀ u∈news.flatten,u.oneCell'=true)
  (hb:(rows.length+m) * bytes≤140737488355328) (h63:rows.length+m≤9223372036854775807) (hd:d<c.n)
  (hnx:∀ v',v'.oneCell'=true→(v' = .slice none 0 0↔v = .slice none 0 0∧m=0)→St c ops K rest ((d,v')::e) (VR v' E sz (rows++news)::h')) :
  St c ops K (⟨some d,.call { callee:=.builtin .append,args := #[x,y],argTypes := #[t,t] },ty,pos,after,none⟩::rest) e h :=
 st_appA news hx hy ht hE hzs hsz hs hn1 hl (fun j u hu=>by rw [Addr.add_lit]; exact hnews j u hu) h1 hb h63 hd hnx
theorem st_bs0 {d : Nat} {T ty : TypeId} {pos : String} {after : Array Edge} {z : Value} {bytes : Nat} (hT : c.P.underlying T = some (.slice E)) (hE : Inf c.P E z sz bytes)
  (hnx:∀ b,St c ops K rest ((d,.slice (some ⟨b,0,none⟩) 0 0)::e) (VR (.slice (some ⟨b,0,none⟩) 0 0) E sz []::h)) (hd:d<c.n:=by exact ltn rfl) :
  St c ops K (⟨some d,.buildSlice T 0 #[],ty,pos,after,none⟩::rest) e h :=
 st_buildSlice0 (sz:=sz) hT hE hd fun b=>fun a w hk hh hw=>hnx b a w hk (by
  obtain ⟨h1,h2,h3⟩:=hh
  rcases h1.2 with ⟨h4,_⟩ | ⟨b',cp,j,h4,h5,_⟩
  ·cases h4
  ·cases h4
   exact ⟨⟨by simp,.inr ⟨b,0,0,[],j,rfl,by simpa using h5,rfl,Nat.le_refl _,Nat.zero_le _,by simp⟩⟩,fun x ⟨o,m,cp,hv⟩=>(by cases hv; exact h2 _ ⟨_,_,rfl⟩),h3⟩) hw
end

/-! ## One of many -/
def upd {α : Type} (f:Nat → α) (i:Nat) (x : α):Nat → α := fun k=>if k=i then x else f k
theorem upd_same {α : Type} (f:Nat → α) (i:Nat) (x : α):upd f i x i=x:=if_pos rfl
def foc {α : Type} (n i:Nat) (c : α) (g:Nat → α):List α := (List.range n).map (upd g i c)
theorem foc_get {α : Type} {n i:Nat} {c : α} {g:Nat → α} (hi:i<n):(foc n i c g)[i]? = some c:=by simp [foc,List.getElem?_map,List.getElem?_range,hi,upd_same]
def others (n i:Nat):List Nat:=(List.range n).filter fun k=>decide (k≠i)
def RSx (n i:Nat) (R:Nat→Res):Res:=Res.star ((others n i).map R)
def RS (n:Nat) (R:Nat→Res):Res:=Res.star ((List.range n).map R)
section
variable {P:Program} {e:Env} {h:SH} {ty:TypeId}
theorem vY {T:TypeId} {x:Operand} {p:Addr} {v:Value} (hx:e.ev? x=some (.pointer (some p))) (hT:Ld1 P T)
  (ha:At h p v:=by repeat (first | exact at_here (rd_cl (by rfl)) | exact at_here (rds_at (by assumption) (by rfl)) | exact at_here (rd_vrk (foc_get (by assumption)) (by rfl)) | exact at_here (rd_vrk (by rfl) (by rfl)) | exact at_here (by assumption) | apply at_there)):Vop P e h (.load T x) ty v:=v_load hx hT ha
theorem v_ldn {T:TypeId} {x:Operand} {b o n:Nat} {vs:List Value} {r:Res} {h':SH} (hx:e.ev? x=some (.pointer (some ⟨b,o,none⟩))) (hT:LdN P T n) (hl:vs.length=n) (hr:Rds r b o vs) (s:Sel h r h':=by repeat (first | exact Sel.here | apply Sel.there)) :
  Vop P e h (.load T x) ty (.agg vs.toArray):=v_loadR hx hT hl s hr
end
section
variable {c:Cx} {ops:Array Oper} {K:Act→World→Prop} {rest:List Oper} {e:Env} {h k k' hr:SH} {Q:Exit→Act→World→Prop} {x:Code} {ex:Exit}
theorem cd_pv (hv:∀ t,Vw (k++t) (k'++t)) (hc:Cd c x Q e (k'++hr)) (p:Pk h k hr:=by repeat (first | exact Pk.nil | (apply Pk.cons; (repeat (first | exact Sel.here | apply Sel.there))))):Cd c x Q e h:=cd_vw (Vw.pk p (hv hr)) hc
theorem st_pv (hv:∀ t,Vw (k++t) (k'++t)) (hc:St c ops K rest e (k'++hr)) (p:Pk h k hr:=by repeat (first | exact Pk.nil | (apply Pk.cons; (repeat (first | exact Sel.here | apply Sel.there))))):St c ops K rest e h:=st_vw (Vw.pk p (hv hr)) hc
theorem xt_pv (hv:∀ t,Vw (k++t) (k'++t)) (hc:Xt c ex Q e (k'++hr)) (p:Pk h k hr:=by repeat (first | exact Pk.nil | (apply Pk.cons; (repeat (first | exact Sel.here | apply Sel.there))))):Xt c ex Q e h:=xt_vw (Vw.pk p (hv hr)) hc
theorem pv_eq {a b:Res} (he:a=b):∀ t,Vw ([a]++t) ([b]++t):=fun t=>by rw [he]; exact Vw.refl
theorem pv_of {b n:Nat} {E:TypeId} {sz:Nat} {cells:List Value} (rows:List (List Value)) (hc:cells=rows.flatten) (h1:∀ r∈rows,r.length=sz) (hn:rows.length=n) (hm:n≤maxLen):∀ t,Vw ([pt b (cl cells E)]++t) ([VR (.slice (some ⟨b,0,none⟩) n n) E sz rows]++t):=fun t=>vw_of rows hc h1 hn hm
theorem pv_pack {L:SH}:∀ t,Vw (L++t) ([Res.star L]++t):=fun t=>vw_unstar
theorem pv_unpack {L:SH}:∀ t,Vw ([Res.star L]++t) (L++t):=fun t=>vw_star
end
end Go.Ck
namespace Go.Hr
open Go Go.RowKit Go.Ck
def strC (us:List Value) (n:Nm):Prop:=us=[sv n]
def parC (us:List Value) (p:Nm):Prop:=∃ a b c d e,us=[sv p,a,b,c,d,e]∧[sv p,a,b,c,d,e].all Value.oneCell'=true
def clsC (S:Res) (us:List Value) (x:Cls):Prop:=∃ d f pv c fa fc i,us=[sv x.name,d,f,pv,c,.slice fa x.feats fc,i]∧[sv x.name,d,f,pv,c,.slice fa x.feats fc,i].all Value.oneCell'=true∧Row S 6 parC pv x.parents
def sysR (S:Res) (v:Value) (l:Sys):Prop:=Row S 7 (clsC S) v l
def nmsR (S:Res) (v:Value) (xs:List Nm):Prop:=Row S 1 strC v xs
section
variable {S S':Res} (hr:∀ p u,Rd S p u→Rd S' p u)
include hr
theorem clsC.mono {us:List Value} {x:Cls} (h:clsC S us x):clsC S' us x:=let ⟨d,f,pv,c,fa,fc,i,h1,h0,h2⟩:=h; ⟨d,f,pv,c,fa,fc,i,h1,h0,h2.mono hr fun _ _ _ h=>h⟩
theorem sysR.mono {v:Value} {l:Sys} (h:sysR S v l):sysR S' v l:=Row.mono h hr fun _ _ _ h=>clsC.mono hr h
theorem nmsR.mono {v:Value} {xs:List Nm} (h:nmsR S v xs):nmsR S' v xs:=Row.mono h hr fun _ _ _ h=>h
end
section
variable {S:Res} {v:Value} {l:Sys}
theorem sys_at (h:sysR S v l) {i:Nat} {x:Cls} (hi:l[i]? = some x):∃ b o cap d f pa pc c fa fc j,v = .slice (some ⟨b,o,none⟩) l.length cap∧Rds S b (o+i * 7) [sv x.name,d,f,.slice pa x.parents.length pc,c,.slice fa x.feats fc,j]∧Row S 6 parC (.slice pa x.parents.length pc) x.parents∧[sv x.name,d,f,.slice pa x.parents.length pc,c,.slice fa x.feats fc,j].all Value.oneCell'=true:=by
 obtain ⟨b,o,cap,us,h1,_,h3,d,f,pv,c,fa,fc,j,rfl,h0,h4⟩:=Row.at h hi
 obtain ⟨pa,pc,rfl,_⟩:=id h4
 exact ⟨b,o,cap,d,f,pa,pc,c,fa,fc,j,h1,h3,h4,h0⟩
theorem par_at {pv:Value} {ps:List Nm} (h:Row S 6 parC pv ps) {i:Nat} {p:Nm} (hi:ps[i]? = some p):∃ b o cap a c d e f,pv = .slice (some ⟨b,o,none⟩) ps.length cap∧Rds S b (o+i * 6) [sv p,a,c,d,e,f]∧[sv p,a,c,d,e,f].all Value.oneCell'=true:=by
 obtain ⟨b,o,cap,us,h1,_,h3,a,c,d,e,f,rfl,h0⟩:=Row.at h hi
 exact ⟨b,o,cap,a,c,d,e,f,h1,h3,h0⟩
theorem nms_at {xs:List Nm} (h:nmsR S v xs) {i:Nat} {x:Nm} (hi:xs[i]? = some x):∃ b o cap,v = .slice (some ⟨b,o,none⟩) xs.length cap∧Rd S ⟨b,o+i * 1,none⟩ (sv x):=by
 obtain ⟨b,o,cap,u,h1,h2,h3⟩:=Row.at1 h hi
 simp only [strC,List.cons.injEq,and_true] at h3
 subst h3
 exact ⟨b,o,cap,h1,h2⟩
end
/-! ## Names that are owned -/
def nC (n:Nm):List Value:=[sv n]
def NR (v:Value) (xs:List Nm):Res:=VR v 9 1 (xs.map nC)
theorem nms_own {v:Value} {xs:List Nm} (hok:∃ f,(NR v xs).ok f):nmsR (NR v xs) v xs :=
 row_vr hok (by simp) (fun _ _ h=>h) fun i us x h1 h2=>by
  rw [List.getElem?_map,h2] at h1
  simp only [Option.map_some,Option.some.injEq] at h1
  rw [← h1]; rfl
def ixN (l:Sys) (c:Nm):Int:=match idx l c with | some i=>i | none => -1
theorem idx_find {l : Sys} {c : Nm} : (∀ i, idx l c = some i → ∃ x, l[i]? = some x ∧ find l c = some x) ∧ (idx l c = none → find l c = none) := by
 constructor
 ·intro i h
  obtain ⟨hi,h1,h2⟩:=List.findIdx?_eq_some_iff_getElem.1 h
  exact ⟨l[i],List.getElem?_eq_getElem hi,by
   unfold find
   rw [List.find?_eq_some_iff_getElem]
   exact ⟨h1,i,hi,Z,fun j hj=>by simpa using h2 j hj⟩⟩
 ·intro h
  unfold idx at h
  rw [List.findIdx?_eq_none_iff] at h
  unfold find
  rw [List.find?_eq_none]
  intro x hx
  simpa using h x hx
end Go.Hr
namespace Go.Hr
open Go Go.Ck Go.Proofs Go.Proofs.YtaohbfnepjjdgaaGreat Fx
attribute [local irreducible] Go.Ck.Sub St Cd Xt Nx DrL LsW
section
variable {S:Res} {v:Value} {l:Sys}
def fewL (l:Sys):Bool:=l.all (fun x=>decide (x.parents.length≤8)) && (decide (l.length≤10) || (decide (24<l.length) && decide (l.length≤40)))
end
end Go.Hr
namespace Go.Hr
open Go Go.Ck Go.Proofs Go.Proofs.YtaohbfnepjjdgaaGreat Fx
attribute [local irreducible] Go.Ck.Sub St Cd Xt Nx DrL LsW
section
variable {S:Res} {v:Value} {l:Sys}
end
end Go.Hr
namespace Go.Hr
open Go Go.Ck Go.Proofs Go.Proofs.YtaohbfnepjjdgaaGreat Fx
attribute [local irreducible] Go.Ck.Sub St Cd Xt Nx DrL LsW
def kindsStep (m:List (Bs×Value)) (q:Cls×Nat):List (Bs×Value):=if (slook m q.1.name).isSome then m else supd m q.1.name (.int .i64 q.2)
def kindsM (l:Sys):List (Bs×Value):=l.zipIdx.foldl kindsStep []
theorem kinds_take {l:Sys} {i:Nat} (h:i<l.length):kindsM (l.take (i+1))=kindsStep (kindsM (l.take i)) (l[i],i):=by
 unfold kindsM
 rw [List.take_succ_eq_append_getElem h,List.zipIdx_append,List.foldl_append]
 simp [List.length_take,Nat.min_eq_left (Nat.le_of_lt h)]
theorem kinds_look (l : Sys) (c : Nm) : slook (kindsM l) c = (idx l c).map fun i => .int .i64 i := by
 have key : ∀ n, n ≤ l.length → slook (kindsM (l.take n)) c = (idx (l.take n) c).map fun i => .int .i64 i := by
  intro n
  induction n with
  | zero=>intro _; rfl
  | succ n ih =>
   intro hn
   rw [kinds_take (by omega)]
   have ih:=ih (by omega)
   have hix:idx (l.take (n+1)) c=(idx (l.take n) c).or (if (l[n]).name=c then some n else none):=by
    unfold idx
    rw [List.take_succ_eq_append_getElem (by omega),List.findIdx?_append]
    congr 1
    by_cases h:(l[n]).name=c <;> simp [List.findIdx?_cons,h,List.length_take,Nat.min_eq_left (Nat.le_of_lt hn)]
   rw [hix]
   unfold kindsStep
   by_cases hc:(l[n]).name=c
   ·simp only [hc,if_true]
    cases hi:idx (l.take n) c with
    | none =>
     rw [hi] at ih
     simp only [ih,Option.map_none,Option.isSome_none,Bool.false_eq_true,if_false]
     rw [slook_upd,if_pos rfl]; rfl
    | some j =>
     rw [hi] at ih
     simp only [ih,Option.map_some,Option.isSome_some,if_true]
     rfl
   ·simp only [hc,if_false,Option.or_none]
    split
    ·exact ih
    ·rw [slook_upd,if_neg (fun e=>hc e.symm)]; exact ih
 have:=key l.length (Nat.le_refl _)
 rwa [List.take_length] at this
section
variable {S:Res} {v:Value} {l:Sys}
set_option maxRecDepth 100000 in
theorem kinds_ct (hv : sysR S v l) (hl : l.length ≤ 1099511627776) : Ct Tryz.prog 128 #[v] [S] fun u h' => ∃ mb, u = .map (some mb) ∧ h' = [mps mb (kindsM l), S] := by
 obtain ⟨a,cap,rfl,_⟩:=id hv
 refine ct_of (n:=31) Tryz.func128 Z Z (len Z) fun hr w0=>?_
 refine cQ (sA Z (sN (nT (cQ (st_smakeMap (ltn Z) fun b8=>?_)))))
 refine sA Z (sK [0,2,3] Z (cS (cQ (sM Z (sV (v_len Z Tryz.underlying22) (sM Z (sK [2,3,9,10,11] Z (cB (cd_lq (σ := Nat) (fun i=>[(3,.map (some b8)),(9,.slice a l.length cap),(10,.int .i64 l.length),(11,.int .i64 (i:Nat))]) (fun i=>mps b8 (kindsM (l.take i))::S::hr) (fun i=>i≤l.length) (fun i=>l.length - i) 0 (Nat.zero_le _) ?_)))))))))
 intro i hi
 refine cQ (sV (v_lss Z Z) (sN (nT (cS (cC Z (fun hd=>?_) (fun hd=>?_))))))
 ·have hlt:i<l.length:=by simpa using hd
  obtain ⟨b,o,cap2,d,f,pa,pc,c2,fa,fc,j2,hv2,hrd,hP,hone⟩:=sys_at hv (List.getElem?_eq_getElem hlt)
  have hkt:=kinds_take hlt
  unfold kindsStep at hkt
  simp only at hkt
  refine cK (xT (cS (cB (cQ (sM Z (sV (vI (k:=i) (congrArg some hv2) Z sl22 Z hlt Z) (sV (v_ldn Z ld54 Z hrd) ?_)))))))
  refine st_alc al54 fun b5=>?_
  refine sA Z (st_stoW Z Z sz54 Z hone ?_)
  refine sK [3,4,5,9,10,11] Z (cQ (sM Z (sV (vF Z fa54_0 Z) (sV (vY Z ld9) ?_))))
  refine sV (v_slookup_ok Z Z mp163 inf3 slq) ?_
  refine sM Z (sV (v_extract Z Z) (sV (v_extract Z Z) (sA Z (sA Z (sK [3,4,5,7,9,10,11] Z (cQ (sM Z (sV (v_not Z) (sK [3,4,5,9,10,11,24] Z (cC Z (fun hq=>?_) (fun hq=>?_)))))))))))
  ·have hn:(slook (kindsM (l.take i)) (l[i]).name).isSome=false:=by simpa using hq
   rw [hn] at hkt
   simp only [Bool.false_eq_true,if_false] at hkt
   refine cR (sM Z (sV (vF Z fa54_0 Z) (sV (vY Z ld9) ?_)))
   refine sM Z (st_smapUpdate Z Z Z mp163 slq ?_)
   refine sN (nK [3,9,10,11] Z (nx_xt (xB (xT (cR (sV (v_add Z Z (by unfold I64 at *; omega)) (sM Z (sN (nK [3,9,10,11] Z (nx_xt ?_))))))))))
   rw [← hkt]
   refine xt_aq (i+1) hlt (by show _ - _<_ - _; omega)
  ·have hn:(slook (kindsM (l.take i)) (l[i]).name).isSome=true:=by simpa using hq
   rw [hn] at hkt
   simp only [if_true] at hkt
   refine cK (xB (xT (cR (sV (v_add Z Z (by unfold I64 at *; omega)) (sM Z (sN (nK [3,9,10,11] Z (nx_xt ?_))))))))
   rw [← hkt]
   refine xt_aq (i+1) hlt (by show _ - _<_ - _; omega)
 ·have hil:i=l.length:=by
   have:¬ i<l.length:=by simpa using hd
   omega
  subst hil
  rw [List.take_length]
  refine cd_exit (xE (xE (xY (xT (cQ (sM Z (sA Z (sK [2] Z (cT ?_)))))))))
  exact xt_rt Z ⟨b8,Z,Z⟩ sbq
end
end Go.Hr
namespace Go.Hr
open Go Go.Ck Go.Proofs Go.Proofs.YtaohbfnepjjdgaaGreat Fx
attribute [local irreducible] Go.Ck.Sub St Cd Xt Nx DrL LsW
theorem v_is {P:Program} {e:Env} {h:SH} {o:Op} {ty:TypeId} {u u':Value} (hu:u=u') (hv:Vop P e h o ty u):Vop P e h o ty u':=hu ▸ hv
theorem xt_pk {c:Cx} {ex:Exit} {Q:Exit→Act→World→Prop} {e:Env} {h k:SH} (p:h.Perm k) (hx:Xt c ex Q e k):Xt c ex Q e h:=xt_vw (fun _ hh=>Holds.perm p hh) hx
theorem Yc.frame {P:Program} {l:Nat} {args:Array Value} {hf:SH} {R:Value→SH→Prop} (h:Yc P l args hf R) (r:Res):Yc P l args (r::hf) (fun v h'=>∃ k,h'=r::k∧R v k):=fun hr w hh=>by
 have h1:Holds w (hf++(r::hr)):=hh.perm (List.perm_middle (l₁ := hf)).symm
 exact opUpon_mono (fun v w' ⟨k,hR,hH,hS⟩=>⟨r::k,⟨k,Z,hR⟩,hH.perm (List.perm_middle (l₁ := k)),hS⟩) (h (r::hr) w h1)
theorem Yc.mono {P:Program} {l:Nat} {args:Array Value} {hf:SH} {R R':Value→SH→Prop} (h:Yc P l args hf R) (hr:∀ v k,R v k→R' v k):Yc P l args hf R':=fun x w hh=>opUpon_mono (fun v w' ⟨k,h1,h2,h3⟩=>⟨k,hr v k h1,h2,h3⟩) (h x w hh)
theorem look_isC (l:Sys) (c:Nm):(slook (kindsM l) c).isSome=isC l c:=by
 rw [kinds_look]
 unfold isC
 cases h:idx l c with
 | none=>rw [(idx_find).2 h]; rfl
 | some i=>obtain ⟨x,_,hx⟩:=idx_find.1 i h; rw [hx]; rfl
theorem filter_at {f : Nm → Bool} {xs : List Nm} {i : Nat} (hi : i < xs.length) (h : f xs[i] = true) : (xs.filter f)[((xs.take i).filter f).length]? = some xs[i] ∧ ((xs.take (i + 1)).filter f).length = ((xs.take i).filter f).length + 1 := by
 have h1:xs=xs.take i++xs[i]::xs.drop (i+1):=by rw [List.getElem_cons_drop,List.take_append_drop]
 constructor
 ·have h2:xs.filter f=(xs.take i).filter f++xs[i]::(xs.drop (i+1)).filter f:=by
   conv=>lhs; rw [h1]
   rw [List.filter_append,List.filter_cons_of_pos h]
  rw [h2,List.getElem?_append_right (Nat.le_refl _)]
  simp
 ·rw [List.take_succ_eq_append_getElem hi,List.filter_append,List.filter_cons_of_pos h]; simp
theorem filter_past {f:Nm→Bool} {xs:List Nm} {i:Nat} (hi:i<xs.length) (h:f xs[i]=false):((xs.take (i+1)).filter f).length=((xs.take i).filter f).length:=by
 rw [List.take_succ_eq_append_getElem hi,List.filter_append,List.filter_cons_of_neg (by rw [h]; decide)]; simp
def seqv (b1 b2:Nat):Value:=.func (.func 156) #[] #[.pointer (some ⟨b1,0,none⟩),.pointer (some ⟨b2,0,none⟩)]
section
variable {S:Res} {v:Value} {l:Sys}
set_option maxRecDepth 100000 in
theorem of_ct (hv:sysR S v l) (hl:l.length≤1099511627776):Ct Tryz.prog 153 #[v] [S] fun u h'=>∃ mb,u = .agg #[v,.map (some mb)]∧h'=[mps mb (kindsM l),S]:=by
 obtain ⟨a,cap,rfl,_⟩:=id hv
 refine ct_of (n:=7) Tryz.func153 Z Z (len Z) fun hr w0=>?_
 refine cQ (st_alc al165 fun b2=>?_)
 refine sN (nT (cQ (sM Z (sM Z (st_cl Z Z en128 Z (kinds_ct hv hl) ?_)))))
 rintro u h' ⟨mb,rfl,rfl⟩
 refine sV (v_build (cells:=[.slice a l.length cap,.map (some mb)]) Z (fun _=>by kernel_rfl)) ?_
 refine st_stoW Z Z sz165 Z Z ?_
 refine sK [2] Z (cT ?_)
 exact xt_retV (.cellN Z ld165 Z slq .nil) ⟨mb,Z,Z⟩ sbr
set_option maxRecDepth 100000 in
theorem parents0_ct {mb:Nat} {c:Nm} (hv:v.oneCell'=true):Ct Tryz.prog 125 #[.agg #[v,.map (some mb)],sv c] [] fun u h'=>∃ b1 b2,u=seqv b1 b2∧h'=[pt b1 (cl [v,.map (some mb)] 165),pt b2 (cl [sv c] 9)]:=by
 refine ct_of (n:=6) Tryz.func125 Z Z (len Z) fun hr w0=>?_
 refine cQ (st_bx Z Z fun b2=>?_)
 refine st_bx Z Z fun b3=>?_
 refine sA Z (sK [2,3,4] Z (cQ (sV (v_makeFunc Z Z) (sA Z (sK [4] Z (cT ?_))))))
 exact xt_rt Z ⟨b2,b3,Z,Z⟩ sbq
set_option maxRecDepth 100000 in
theorem it_ct {σ : Type} {b1 b2 mb yl : Nat} {c : Nm} (Inv : σ → SH) (Φ : Nat → σ → Prop) (Stop : Nat → SH → Prop) (s0 : σ) (h0 : Φ 0 s0) (hv : sysR S v l) (hp : ∀ x ∈ l, x.parents.length ≤ 1099511627776)
  (hy:∀ (k:Nat) (s : σ) (p:Nm),(par l c)[k]? = some p → Φ k s→Yc Tryz.prog yl #[sv p] (S::mps mb (kindsM l)::Inv s) fun u h'=>(u = .bool true∧∃ s',Φ (k+1) s'∧h'=S::mps mb (kindsM l)::Inv s')∨(u = .bool false∧∃ t,h'=S::mps mb (kindsM l)::t∧Stop k t)) :
  Ct Tryz.prog 156 #[.func (.yield yl) #[] #[],.pointer (some ⟨b1,0,none⟩),.pointer (some ⟨b2,0,none⟩)] (pt b1 (cl [v,.map (some mb)] 165)::pt b2 (cl [sv c] 9)::S::mps mb (kindsM l)::Inv s0) fun u h'=>u = .tuple #[] ∧
   ((∃ s,Φ (par l c).length s∧h'=pt b1 (cl [v,.map (some mb)] 165)::pt b2 (cl [sv c] 9)::S::mps mb (kindsM l)::Inv s)∨∃ k t,Stop k t∧h'=pt b1 (cl [v,.map (some mb)] 165)::pt b2 (cl [sv c] 9)::S::mps mb (kindsM l)::t):=by
 obtain ⟨a,cap,rfl,_⟩:=id hv
 refine ct_of (n:=47) Tryz.func156 Z Z (len Z) fun hr w0=>?_
 refine cQ (sV (vF Z fa165_1 Z) (sV (vY Z ld163) ?_))
 refine sV (vY Z ld9) ?_
 refine sV (v_slookup_ok Z Z mp163 inf3 slq) ?_
 refine sM Z (sV (v_extract Z Z) (sV (v_extract Z Z) (sA Z (sA Z (sK [0,1,4,5] Z (cS (cQ (sM Z (sV (v_not Z) (sK [0,1,4,18] Z (cC Z (fun hd=>?_) (fun hd=>?_))))))))))))
 ·have hx:isC l c=false:=by rw [← look_isC]; simpa using hd
  have hpn:par l c=[]:=by
   cases h:par l c with
   | nil=>rfl
   | cons p t=>have:=par_of (l:=l) (c:=c) (p:=p) (by rw [h]; simp); rw [hx] at this; cases this
  refine cT (xR ?_)
  exact xt_rt Z ⟨Z,.inl ⟨s0,by rw [hpn]; exact h0,Z⟩⟩ sbq
 ·have hx:isC l c=true:=by rw [← look_isC]; simpa using hd
  obtain ⟨k,hk⟩:∃ k,idx l c=some k:=by
   cases h:idx l c with
   | some k=>exact ⟨k,rfl⟩
   | none=>unfold isC at hx; rw [idx_find.2 h] at hx; cases hx
  obtain ⟨x,hxi,hf⟩:=idx_find.1 k hk
  have hkl:=(List.getElem?_eq_some_iff.1 hxi).1
  have hpar:par l c=x.parents.filter (isC l):=by unfold par pars; rw [hf]; rfl
  have hlk:slook (kindsM l) c=some (.int .i64 k):=by rw [kinds_look,hk]; rfl
  have hpl:=hp x (List.mem_of_getElem? hxi)
  obtain ⟨b,o,cap2,d,f,pa,pc,c2,fa,fc,j2,hv2,hrd,hP,hone⟩:=sys_at hv hxi
  rw [hlk]
  refine cK (xT (cQ (sV (vF Z fa165_0 Z) (sV (vY Z ld22) ?_))))
  refine sM Z (sV (vI (k:=k) (congrArg some hv2) Z sl22 Z hkl Z) (sV (vF Z fa54_3 Z) (sV (vY Z ld49) ?_)))
  refine sV (v_len Z Tryz.underlying49) (sM Z (sK [0,1,24,25,26] Z (cB (cd_lq (σ := Nat × σ) (fun q=>[(0,.func (.yield yl) #[] #[]),(1,.pointer (some ⟨b1,0,none⟩)),(24,.slice pa x.parents.length pc),(25,.int .i64 x.parents.length),(26,.int .i64 (q.1:Nat))]) (fun q=>pt b1 (cl [.slice a l.length cap,.map (some mb)] 165)::pt b2 (cl [sv c] 9)::S::mps mb (kindsM l)::(Inv q.2++hr)) (fun q=>q.1≤x.parents.length ∧ Φ ((x.parents.take q.1).filter (isC l)).length q.2) (fun q=>x.parents.length - q.1) (0,s0) ⟨Nat.zero_le _,h0⟩ ?_))))
  rintro ⟨i,s⟩ ⟨hi,hΦ⟩
  simp only at hi hΦ
  dsimp only
  refine cQ (sV (v_lss Z Z) (sN (nT (cS (cC Z (fun hd2=>?_) (fun hd2=>?_))))))
  ·have hlt:i<x.parents.length:=by simpa using hd2
   obtain ⟨pb,po,pcap,a1,c1,d1,e1,f1,hpv,hprd,hpone⟩:=par_at hP (List.getElem?_eq_getElem hlt)
   refine cK (xT (cS (cB (cQ (sV (vI (k:=i) (congrArg some hpv) Z sl49 Z hlt Z) (sV (v_ldn Z ld79 Z hprd) ?_))))))
   refine st_alc al79 fun b7=>?_
   refine st_stoW Z Z sz79 Z hpone ?_
   refine sK [0,1,7,24,25,26] Z (cQ (sV (vF Z fa165_1 Z) (sV (vY Z ld163) ?_)))
   refine sV (vF Z fa79_0 Z) (sV (vY Z ld9) ?_)
   refine sV (v_slookup_ok Z Z mp163 inf3 slq) ?_
   refine sM Z (sV (v_extract Z Z) (sV (v_extract Z Z) (sA Z (sA Z (sK [0,1,7,9,24,25,26] Z (cS ?_))))))
   rw [look_isC]
   cases hc:isC l x.parents[i]
   ·refine cR (sM Z (sM Z (st_sk Z Z Z ?_)))
    iterate 4 refine st_sk rfl rfl rfl ?_
    refine sV (vP Z Z) (sK [0,1,24,25,26,45] Z (cd_false Z ?_))
    refine cK (xB (xT (cR (sV (v_add Z Z (by unfold I64 at *; omega)) (sM Z (sN (nK [0,1,24,25,26] Z (nx_xt ?_))))))))
    refine xt_aq (i+1,s) ⟨hlt,by rw [filter_past hlt hc]; exact hΦ⟩ (by show _ - _<_ - _; omega)
   ·obtain ⟨q1,q2⟩:=filter_at hlt hc
    refine cR (sM Z (sM Z (sG Z Z (vM Z) (sG Z Z (vF Z fa79_0 Z) (sG Z Z (vY Z ld9) ?_)))))
    refine st_yield (gd:=39) (.inr ⟨_,_,Z,Z,Z⟩) Z Z (hy _ s _ (by rw [hpar]; exact q1) hΦ) (Pk.of (hr:=pt b7 (cl [sv x.parents[i],a1,c1,d1,e1,f1] 79)::pt b1 (cl [.slice a l.length cap,.map (some mb)] 165)::pt b2 (cl [sv c] 9)::hr) (by exact List.perm_append_comm_assoc [pt b7 (cl [sv x.parents[i],a1,c1,d1,e1,f1] 79),pt b1 (cl [.slice a l.length cap,.map (some mb)] 165),pt b2 (cl [sv c] 9)] (S::mps mb (kindsM l)::Inv s) hr)) (ltn Z) ?_
    rintro u h' (⟨rfl,s',h1,rfl⟩ | ⟨rfl,t,rfl,h1⟩)
    ·refine sG Z Z (v_not Z) (sV (vQ Z Z) (sK [0,1,24,25,26,45] Z (cd_false Z ?_)))
     refine cK (xB (xT (cR (sV (v_add Z Z (by unfold I64 at *; omega)) (sM Z (sN (nK [0,1,24,25,26] Z (nx_xt (xt_pk (k:=pt b7 (cl [sv x.parents[i],a1,c1,d1,e1,f1] 79)::pt b1 (cl [.slice a l.length cap,.map (some mb)] 165)::pt b2 (cl [sv c] 9)::S::mps mb (kindsM l)::(Inv s'++hr)) (by exact List.perm_append_comm_assoc (S::mps mb (kindsM l)::Inv s') [pt b7 (cl [sv x.parents[i],a1,c1,d1,e1,f1] 79),pt b1 (cl [.slice a l.length cap,.map (some mb)] 165),pt b2 (cl [sv c] 9)] hr) ?_)))))))))
     refine xt_aq (i+1,s') ⟨hlt,by rw [q2]; exact h1⟩ (by show _ - _<_ - _; omega)
    ·refine sG Z Z (v_not Z) (sV (vQ Z Z) (sK [0,1,24,25,26,45] Z (cd_true Z ?_)))
     refine cT (xW (xR (xR (xW (xt_pk (k:=pt b7 (cl [sv x.parents[i],a1,c1,d1,e1,f1] 79)::pt b1 (cl [.slice a l.length cap,.map (some mb)] 165)::pt b2 (cl [sv c] 9)::S::mps mb (kindsM l)::(t++hr)) (by exact List.perm_append_comm_assoc (S::mps mb (kindsM l)::t) [pt b7 (cl [sv x.parents[i],a1,c1,d1,e1,f1] 79),pt b1 (cl [.slice a l.length cap,.map (some mb)] 165),pt b2 (cl [sv c] 9)] hr) ?_)))))
     exact xt_rt Z ⟨Z,.inr ⟨_,t,h1,Z⟩⟩ sbq
  ·have hil:i=x.parents.length:=by
    have:¬ i<x.parents.length:=by simpa using hd2
    omega
   subst hil
   rw [List.take_length,← hpar] at hΦ
   refine cd_exit (xE (xE (xY ?_)))
   exact xt_en Z ⟨Z,.inl ⟨s,hΦ,Z⟩⟩ sbq
end
end Go.Hr
namespace Go.Hr
open Go Go.Ck Go.Proofs Go.Proofs.YtaohbfnepjjdgaaGreat Fx
attribute [local irreducible] Go.Ck.Sub St Cd Xt Nx DrL LsW
def Col (m:List (Bs×Value)) (o G:List Nm):Prop:=∀ x,slook m x=if x∈o then some (.int .i64 2) else if x∈G then some (.int .i64 1) else none
theorem Col.grey {m:List (Bs×Value)} {o G:List Nm} (h:Col m o G) {c:Nm} (hc:c ∉ o):Col (supd m c (.int .i64 1)) o (c::G):=fun x=>by
 rw [slook_upd,h x]
 by_cases hx:x=c
 ·subst hx; rw [if_pos rfl,if_neg hc,if_pos (by simp)]
 ·rw [if_neg hx]; simp [hx]
theorem Col.black {m:List (Bs×Value)} {o G:List Nm} {c:Nm} (h:Col m o (c::G)):Col (supd m c (.int .i64 2)) (o++[c]) G:=fun x=>by
 rw [slook_upd,h x]
 by_cases hx:x=c
 ·subst hx; rw [if_pos rfl,if_pos (by simp)]
 ·rw [if_neg hx]; simp [hx]
def visV (b5 b2 b7 b6:Nat):Value:=.func (.func 171) #[] #[.pointer (some ⟨b5,0,none⟩),.pointer (some ⟨b2,0,none⟩),.pointer (some ⟨b7,0,none⟩),.pointer (some ⟨b6,0,none⟩)]
def visS (S:Res) (v:Value) (l:Sys) (b5 b2 b7 b6 mb mc:Nat) (q:List (Bs×Value)×Value×List Nm):SH :=
 [pt b5 (cl [.map (some mc)] 163),pt b2 (cl [v,.map (some mb)] 165),pt b7 (cl [visV b5 b2 b7 b6] 217),mps mc q.1,pt b6 (cl [q.2.1] 50),NR q.2.1 q.2.2,S,mps mb (kindsM l)]
section
variable {S:Res} {v:Value} {l:Sys}
set_option maxHeartbeats 1000000 in
set_option maxRecDepth 100000 in
theorem visit_ct {b5 b2 b7 b6 mb mc : Nat} (hv : sysR S v l) (hp : ∀ x ∈ l, x.parents.length ≤ 1099511627776) (hl : l.length ≤ 1099511627776) (ha : Acyc l) : ∀ (f : Nat) (c : Nm) (m : List (Bs × Value)) (w : Value) (o G : List Nm), rk l c < f → isC l c = true → w.oneCell' = true → Tp l o → (∀ x ∈ o, isC l x = true) → Col m o G → (∀ g ∈ G, has l c g = false) →
  Ct Tryz.prog 171 #[sv c,.pointer (some ⟨b5,0,none⟩),.pointer (some ⟨b2,0,none⟩),.pointer (some ⟨b7,0,none⟩),.pointer (some ⟨b6,0,none⟩)] (visS S v l b5 b2 b7 b6 mb mc (m,w,o)) fun u h'=>∃ m' w',u = .tuple #[]∧w'.oneCell'=true∧Col m' (vis l f o c) G∧h'=visS S v l b5 b2 b7 b6 mb mc (m',w',vis l f o c):=by
 obtain ⟨a,cap,rfl,_⟩:=id hv
 intro f
 induction f with
 | zero=>intro c m w o G h; omega
 | succ f ihf =>
  intro c m w o G hf hcC hw ho hoC hm hG
  have hlk:=hm c
  have hcG:c ∉ G:=fun hg=>by have:=hG c hg; rw [has_refl] at this; cases this
  by_cases hc:c∈o
  ·rw [if_pos hc] at hlk
   have hvis:vis l (f+1) o c=o:=by rw [vis,if_pos (by simpa using hc)]
   rw [hvis]
   refine ct_ofM (n:=26) Tryz.func171 Z Z (len Z) fun hr w0=>?_
   unfold visS
   dsimp only
   refine cS (cQ (sV (vY Z ld163) ?_))
   refine sM Z (sV (v_is (show (slook m c).getD (.int .i64 0) = .int .i64 2 by rw [hlk]; rfl) (v_slookup Z Z mp163 inf3 slq)) ?_)
   refine sV (v_neq Z Z) (sK [0,1,2,3,4,10] Z (cd_true Z ?_))
   refine cT (xR ?_)
   exact xt_retM (bs:=[]) Z Z ⟨m,w,Z,hw,hm,Z⟩ sbr
  ·rw [if_neg hc, if_neg hcG] at hlk
   refine ct_ofM (n:=26) Tryz.func171 Z Z (len Z) fun hr w0=>?_
   unfold visS
   dsimp only
   refine cS (cQ (sV (vY Z ld163) ?_))
   refine sM Z (sV (v_is (show (slook m c).getD (.int .i64 0) = .int .i64 0 by rw [hlk]; rfl) (v_slookup Z Z mp163 inf3 slq)) ?_)
   refine sV (v_neq Z Z) (sK [0,1,2,3,4,10] Z (cd_false Z ?_))
   refine cK (xT (cQ (sV (vY Z ld163) ?_)))
   refine sM Z (st_smapUpdate Z Z Z mp163 slq ?_)
   refine sK [0,1,2,3,4] Z (cS (cQ ?_))
   have hvis:vis l (f+1) o c=(par l c).foldl (vis l f) o++[c]:=by rw [vis,if_neg (by simpa using hc)]
   have hm1:=hm.grey hc
   refine sV (v_ldn Z ld165 Z rds_pt) ?_
   refine sM Z (st_cl Z Z en125 Z (parents0_ct Z) ?_)
   rintro u h' ⟨c1,c2,rfl,rfl⟩
   refine sK [0,1,3,4,15] Z (cB ?_)
   simp only [lC,lN]
   unfold seqv
   refine cd_range' Z en156 fun yl db rec hst hpe hps hasg hbo hkn2=>?_
   refine ⟨_,Ct.perm (it_ct (σ := List (Bs×Value)×Value×List Nm) (b1:=c1) (b2:=c2) (mb:=mb) (yl:=yl) (c:=c) (fun q=>pt yl (.loop rec)::pt db (.deferred (some []))::pt b5 (cl [.map (some mc)] 163)::pt b2 (cl [.slice a l.length cap,.map (some mb)] 165)::pt b7 (cl [visV b5 b2 b7 b6] 217)::mps mc q.1::pt b6 (cl [q.2.1] 50)::NR q.2.1 q.2.2::hr)
    (fun k q=>q.2.1.oneCell'=true∧Col q.1 q.2.2 (c::G)∧q.2.2=((par l c).take k).foldl (vis l f) o∧Tp l q.2.2∧∀ x∈q.2.2,isC l x=true) (fun _ _=>False) (supd m c (.int .i64 1),w,o) ⟨hw,hm1,rfl,ho,hoC⟩ hv hp ?_) ?_,?_⟩
   ·rintro k ⟨m2, w2, o2⟩ p hk ⟨hw2, hm2, ho2, hT2, hC2⟩
    simp only at hw2 hm2 ho2 hT2 hC2
    have hpm:=List.mem_of_getElem? hk
    have hrk:=rk_lt ha hpm
    refine Yc.perm (yc_of (n:=26) (rec:=rec) (args:=[sv p]) (hf:=pt db (.deferred (some []))::pt b5 (cl [.map (some mc)] 163)::pt b2 (cl [.slice a l.length cap,.map (some mb)] 165)::pt b7 (cl [visV b5 b2 b7 b6] 217)::mps mc m2::pt b6 (cl [w2] 50)::NR w2 o2::S::mps mb (kindsM l)::hr) (by rw [hps]; rfl) hkn2 (by rw [hps]; decide) ?_) (by exact (by repeat (first | exact Pm.refl | refine Pm.cons slq ?_):Pm _ _).perm)
    intro hr2 w1
    rw [hasg,hps,hbo]
    simp only [lC,lN]
    have hih:=ihf p m2 w2 o2 (c::G) (by omega) (par_isC hpm) hw2 hT2 hC2 hm2 (fun g hg=>by
     rcases List.mem_cons.1 hg with rfl | hg
     ·exact ha g p hpm
     ·cases hh:has l p g with
      | false=>rfl
      | true=>have:=hG g hg; rw [has_trans (has_par hpm) hh] at this; cases this)
    obtain ⟨hs1,hs2⟩:=vis_spec ha f p o2 (by omega) hT2
    unfold visS at hih
    dsimp only at hih
    refine cR (sA Z (sN (nK [3,6] Z (nx_xt (xt_mid Z slq (by first | rfl | assumption) ?_)))))
    refine cB (cR (sV (vY Z ld217) ?_))
    refine sM Z (st_cl Z Z en171 Z (hih) ?_)
    rintro u h' ⟨m3,w3,rfl,hw3,hm3,rfl⟩
    simp only [lC,lN]
    refine sN (nK [] Z (nx_xt (xB (xt_round slq (.inl ⟨Z,(m3,w3,vis l f o2 p),⟨hw3,hm3,?_,hs1,fun x hx=>?_⟩,Z⟩) ?_))))
    ·obtain ⟨hkl,hke⟩:=List.getElem?_eq_some_iff.1 hk
     rw [List.take_succ_eq_append_getElem hkl,List.foldl_append,← ho2,hke]; rfl
    ·rcases (hs2 x).1 hx with hx | hx
     ·exact hC2 x hx
     ·exact has_isC (par_isC hpm) hx
    ·rw [rec_back hst hpe]
     exact sbr
   ·exact (by repeat (first | exact Pm.refl | refine Pm.cons slq ?_):Pm _ _).perm
   ·rintro u h' ⟨rfl, (⟨⟨m2, w2, o2⟩, ⟨hw2, hm2, ho2, hT2, hC2⟩, rfl⟩ | ⟨_, _, hfalse, _⟩)⟩
    ·simp only at hw2 hm2 ho2 hT2 hC2
     refine ⟨rec,_,slq,(by rw [hst]; simp),?_⟩
     rw [hpe]
     dsimp only
     rw [List.take_length] at ho2
     have hlen:o2.length≤l.length:=by
      have:=length_le_of_nodup (b:=nms l) hT2.nodup fun x hx=>isC_iff.1 (hC2 x hx)
      simpa [nms] using this
     rw [hvis,← ho2]
     refine xB (xT (cQ (sV (vY Z ld163) ?_)))
     refine sM Z (st_smapUpdate Z Z Z mp163 slq ?_)
     refine sK [0,4] Z (cR (sV (vY Z ld50) ?_))
     refine sM Z (st_buildSlice (cells:=[sv c]) Z Tryz.underlying50 inf9 Z Z (by kernel_rfl) (ltn Z) fun b24=>?_)
     refine st_app [nC c] Z Z Tryz.underlying50 inf9 Z (by decide) slq (by simp [nC]) Z (fun j u2 hu2=>at_here (rd_cl (by simpa [nC] using hu2))) (by simp [nC,Value.oneCell']) (by simp; omega) (by simp; omega) (ltn Z) fun w3 hw3 _=>?_
     rw [show o2.map nC++[nC c]=(o2++[c]).map nC by simp]
     refine st_sto Z Z sz50 ?_
     refine sN (nK [] Z (nx_xt ?_))
     exact xt_endM (bs:=[db]) Z Z ⟨supd m2 c (.int .i64 2),w3,Z,hw3,hm2.black,Z⟩ sbr
    ·exact hfalse.elim
end
end Go.Hr
