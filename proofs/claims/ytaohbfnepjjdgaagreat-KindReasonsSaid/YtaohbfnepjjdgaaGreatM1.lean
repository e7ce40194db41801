/-
  Systems of classes as plain data: names,their order,who is a parent,walks from parent to parent,the shortest ones,what is reached. No program in sight.
  Systems of classes as plain data: ancestors in the order of a search,each behind its own ones; how many ways,levels. No program in sight.
  Systems of classes as plain data: how many ways,levels,the order of all. No program in sight.
  Systems of classes as plain data: names in order,levels,least common ancestors,links without which all is the same,what is touched. No program in sight.
  Systems of classes as plain data: shortest ways,rings,right systems. No program in sight.
  Systems of classes as plain data: links that are needless,systems without some links,classes that are touched. No program in sight.
  Systems of classes as plain data: the first one of the shortest ways is the least; the specification's search by lengths finds it. No program in sight.
  Systems of classes as plain data: proofs,that is rings and ways that are accepted. No program in sight.
  Maps from names as plain data; the distances that are found by trying again and again. No program in sight.
  What Check returns,case by case. No program in sight.
  Systems of classes as plain data: what stands ahead in an order; counting ways in a table,levels in a table. No program in sight.
  Systems of classes as plain data: a class is added,a class is taken away. No program in sight.
  Systems of classes as plain data: the least of the specification's rings,class by class,is Ring. No program in sight.
-/
import Derived.ProofKit
set_option linter.unusedVariables false
set_option linter.unusedSimpArgs false
namespace Go.Hr
open Go
abbrev Nm:=List UInt8
structure Cls where
 name:Nm
 parents:List Nm
 feats:Nat
 deriving DecidableEq
abbrev Sys:=List Cls

/-! ## The order of names -/
abbrev lt (a b:Nm):Bool:=Op.bytesLess a b
theorem lt_irrefl:∀ a:Nm,lt a a=false
 | []=>rfl
 | a::t=>by
  have:=lt_irrefl t
  simp only [lt] at this
  simp [Op.bytesLess,this]
theorem lt_trans:∀ {a b c:Nm},lt a b=true→lt b c=true→lt a c=true
 | _,_,[],_,h2=>by simp [Op.bytesLess] at h2
 | _,[],_::_,h1,_=>by simp [Op.bytesLess] at h1
 | [],_::_,_::_,_,_=>rfl
 | a::x,b::y,c::z,h1,h2=>by
  simp only [lt,Op.bytesLess,Bool.or_eq_true,Bool.and_eq_true,decide_eq_true_eq,beq_iff_eq] at h1 h2 ⊢
  rcases h1 with h1 | ⟨h1,h3⟩ <;> rcases h2 with h2 | ⟨h2,h4⟩
  ·exact .inl (UInt8.lt_trans h1 h2)
  ·exact .inl (h2 ▸ h1)
  ·exact .inl (h1 ▸ h2)
  ·exact .inr ⟨h1.trans h2,lt_trans h3 h4⟩
theorem lt_total : ∀ a b : Nm, lt a b = true ∨ a = b ∨ lt b a = true
 | [],[]=>.inr (.inl rfl)
 | [],_::_=>.inl rfl
 | _::_,[]=>.inr (.inr rfl)
 | a::x,b::y=>by
  simp only [lt,Op.bytesLess,Bool.or_eq_true,Bool.and_eq_true,decide_eq_true_eq,beq_iff_eq]
  rcases Nat.lt_trichotomy a.toNat b.toNat with h | h | h
  ·exact .inl (.inl h)
  ·have hab:a=b:=UInt8.toNat_inj.1 h
   subst hab
   rcases lt_total x y with h | h | h
   ·exact .inl (.inr ⟨rfl,h⟩)
   ·exact .inr (.inl (by rw [h]))
   ·exact .inr (.inr (.inr ⟨rfl,h⟩))
  ·exact .inr (.inr (.inl h))
theorem lt_asymm {a b:Nm} (h:lt a b=true):lt b a=false:=by
 cases h2:lt b a with
 | false=>rfl
 | true=>have:=lt_trans h h2; rw [lt_irrefl] at this; cases this
theorem lt_eq {a b:Nm} (h1:lt a b=false) (h2:lt b a=false):a=b:=by
 rcases lt_total a b with h | h | h
 ·rw [h1] at h; cases h
 ·exact h
 ·rw [h2] at h; cases h
def minN:List Nm→Nm
 | []=>[]
 | [a]=>a
 | a::b::t=>if lt (minN (b::t)) a then minN (b::t) else a
theorem minN_mem:∀ {l:List Nm},l≠[]→minN l∈l
 | [a],_=>by simp [minN]
 | a::b::t,_=>by
  unfold minN
  split
  ·exact List.mem_cons_of_mem _ (minN_mem (by simp))
  ·simp
theorem minN_le : ∀ {l : List Nm} {x : Nm}, x ∈ l → lt x (minN l) = false
 | [a],x,h=>by simp at h; subst h; exact lt_irrefl _
 | a :: b :: t, x, h => by
  unfold minN
  have ih:=fun x => @minN_le (b::t) x
  split
  ·rename_i hm
   rcases List.mem_cons.1 h with rfl | h
   ·exact lt_asymm hm
   ·exact ih x h
  ·rename_i hm
   rcases List.mem_cons.1 h with rfl | h
   ·exact lt_irrefl _
   ·cases hx:lt x a with
    | false=>rfl
    | true =>
     have h1:=ih x h
     have hm':lt (minN (b::t)) a=false:=by simpa using hm
     rcases lt_total x (minN (b::t)) with h2 | h2 | h2
     ·rw [h1] at h2; cases h2
     ·rw [h2] at hx; rw [hm'] at hx; cases hx
     ·rw [lt_trans h2 hx] at hm'; cases hm'
theorem minN_uniq {l:List Nm} {x:Nm} (h1:x∈l) (h2:∀ y∈l,lt y x=false):minN l=x :=
 lt_eq (h2 _ (minN_mem (List.ne_nil_of_mem h1))) (minN_le h1)

/-! ## Classes and parents -/
def find (l:Sys) (c:Nm):Option Cls:=List.find? (fun x=>x.name == c) l
def isC (l:Sys) (c:Nm):Bool:=(find l c).isSome
def pars (l:Sys) (c:Nm):List Nm:=((find l c).map (·.parents)).getD []
def par (l:Sys) (c:Nm):List Nm:=(pars l c).filter (isC l)
def nms (l:Sys):List Nm:=l.map (·.name)
theorem find_name {l:Sys} {c:Nm} {x:Cls} (h:find l c=some x):x.name=c∧x∈l:=⟨by simpa using List.find?_some h,List.mem_of_find?_eq_some h⟩
theorem isC_iff {l:Sys} {c:Nm}:isC l c=true↔c∈nms l:=by
 unfold isC find nms
 rw [List.find?_isSome,List.mem_map]
 exact ⟨fun ⟨x,h1,h2⟩=>⟨x,h1,by simpa using h2⟩,fun ⟨x,h1,h2⟩=>⟨x,h1,by simpa using h2⟩⟩
theorem par_isC {l:Sys} {c p:Nm} (h:p∈par l c):isC l p=true:=(List.mem_filter.1 h).2
theorem par_of {l:Sys} {c p:Nm} (h:p∈par l c):isC l c=true:=by
 have h1:=(List.mem_filter.1 h).1
 unfold pars at h1
 unfold isC
 cases hf:find l c with
 | none=>rw [hf] at h1; simp at h1
 | some x=>rfl

/-! ## Walks -/
def W (l:Sys) (to:Nm):Nat→Nm→Bool
 | 0,c=>c == to
 | k+1,c=>(par l c).any (W l to k)
theorem W_succ {l:Sys} {to c:Nm} {k:Nat}:W l to (k+1) c=true↔∃ p∈par l c,W l to k p=true:=by
 simp [W]
theorem W_add {l:Sys} {a b c:Nm}:∀ {j k:Nat},W l b j c=true→W l a k b=true→W l a (j+k) c=true
 | 0,k,h1,h2=>by
  have:c=b:=by simpa [W] using h1
  rw [this,Nat.zero_add]; exact h2
 | j+1,k,h1,h2=>by
  obtain ⟨p,hp,h3⟩:=W_succ.1 h1
  rw [show j+1+k=(j+k)+1 by omega]
  exact W_succ.2 ⟨p,hp,W_add h3 h2⟩
def Path (l:Sys) (to:Nm):List Nm→Nm→Prop
 | [],c=>c=to
 | x::t,c=>x=c∧∃ p∈par l c,Path l to t p
theorem path_W {l:Sys} {to:Nm}:∀ {t:List Nm} {c:Nm},Path l to t c→W l to t.length c=true
 | [],c,h=>by have:c=to:=h; simp [W,this]
 | x::t,c,h=>by
  obtain ⟨_,p,hp,h⟩:=h
  exact W_succ.2 ⟨p,hp,path_W h⟩
theorem W_path {l:Sys} {to:Nm}:∀ {k:Nat} {c:Nm},W l to k c=true→∃ t,t.length=k∧Path l to t c
 | 0,c,h=>⟨[],rfl,(by simpa [W] using h:c=to)⟩
 | k+1,c,h=>by
  obtain ⟨p,hp,h⟩:=W_succ.1 h
  obtain ⟨t,h1,h2⟩:=W_path h
  exact ⟨c::t,by simp [h1],rfl,p,hp,h2⟩
theorem path_isC {l:Sys} {to:Nm}:∀ {t:List Nm} {c:Nm},Path l to t c→∀ x∈t,isC l x=true
 | x::t,c,⟨h1,p,hp,h⟩,y,hy=>by
  rcases List.mem_cons.1 hy with rfl | hy
  ·rw [h1]; exact par_of hp
  ·exact path_isC h y hy
theorem path_mem {l : Sys} {to : Nm} : ∀ {t : List Nm} {c : Nm}, Path l to t c → ∀ x ∈ t, ∃ k, k ≤ t.length ∧ 1 ≤ k ∧ W l to k x = true ∧ (x = c ∨ k < t.length)
 | x::t,c,h,y,hy=>by
  rcases List.mem_cons.1 hy with rfl | hy
  ·exact ⟨t.length+1,by simp,by omega,by have:=path_W h; obtain ⟨h1,_⟩:=h; rw [h1]; simpa using this,.inl h.1⟩
  ·obtain ⟨h1,p,hp,h⟩:=h
   obtain ⟨k,h2,h3,h4,_⟩:=path_mem h y hy
   exact ⟨k,by simp; omega,h3,h4,.inr (by simp; omega)⟩
theorem length_le_of_nodup {α : Type} [DecidableEq α]:∀ {a b:List α},a.Nodup→(∀ x∈a,x∈b)→a.length≤b.length
 | [],_,_,_=>by simp
 | x::t,b,h,hs=>by
  rw [List.nodup_cons] at h
  have h1:x∈b:=hs x (by simp)
  have h2:=length_le_of_nodup (a:=t) (b:=b.erase x) h.2 fun y hy=>(List.mem_erase_of_ne (fun e=>h.1 (by rw [← e]; exact hy))).2 (hs y (by simp [hy]))
  rw [List.length_erase_of_mem h1] at h2
  have:=List.length_pos_of_mem h1
  simp; omega
theorem path_nodup {l : Sys} {to : Nm} : ∀ {t : List Nm} {c : Nm}, Path l to t c → (∀ j, j < t.length → W l to j c = false) → t.Nodup
 | [],_,_,_=>List.nodup_nil
 | x :: t, c, h, hm => by
  obtain ⟨rfl,p,hp,h⟩:=id h
  refine List.nodup_cons.2 ⟨fun hx=>?_,path_nodup h fun j hj=>?_⟩
  ·obtain ⟨k,h1,h2,h3,h4⟩:=path_mem h x hx
   have:=hm k (by simp; omega)
   rw [h3] at this; cases this
  ·cases hw:W l to j p with
   | false=>rfl
   | true =>
    have:=hm (j+1) (by simp; omega)
    rw [W_succ.2 ⟨p,hp,hw⟩] at this; cases this
theorem W_small {l : Sys} {to c : Nm} : ∀ {k : Nat}, W l to k c = true → ∃ j, j ≤ k ∧ j ≤ l.length ∧ W l to j c = true ∧ ∀ i, i < j → W l to i c = false := by
 intro k
 induction k using Nat.strongRecOn with
 | _ k ih =>
  intro h
  by_cases hm:∀ i,i<k→W l to i c=false
  ·obtain ⟨t,h1,h2⟩:=W_path h
   have h3:=path_nodup h2 (by rw [h1]; exact hm)
   have h4:=length_le_of_nodup (b:=nms l) h3 fun x hx=>isC_iff.1 (path_isC h2 x hx)
   refine ⟨k,Nat.le_refl _,?_,h,hm⟩
   rw [← h1]; simpa [nms] using h4
  ·have : ∃ i, i < k ∧ W l to i c = true := by
    apply Classical.byContradiction
    intro hn
    exact hm fun i hi=>by
     cases hw:W l to i c with
     | false=>rfl
     | true=>exact absurd ⟨i,hi,hw⟩ hn
   obtain ⟨i,hi,hw⟩:=this
   obtain ⟨j,h1,h2,h3⟩:=ih i hi hw
   exact ⟨j,by omega,h2,h3⟩
def dist (l:Sys) (to c:Nm):Option Nat:=(List.range (l.length+1)).find? fun k=>W l to k c
theorem dist_some {l : Sys} {to c : Nm} {k : Nat} : dist l to c = some k ↔ W l to k c = true ∧ ∀ i, i < k → W l to i c = false := by
 unfold dist
 constructor
 ·intro h
  rw [List.find?_range_eq_some] at h
  exact ⟨h.1,fun i hi=>by simpa using h.2.2 i hi⟩
 ·rintro ⟨h1,h2⟩
  obtain ⟨j,h3,h4,h5,h6⟩:=W_small h1
  have:j=k:=by
   rcases Nat.lt_or_ge j k with h | h
   ·rw [h2 j h] at h5; cases h5
   ·omega
  subst this
  rw [List.find?_range_eq_some]
  exact ⟨h1,by simp; omega,fun i hi=>by simpa using h2 i hi⟩
theorem dist_none {l : Sys} {to c : Nm} : dist l to c = none ↔ ∀ k, W l to k c = false := by
 constructor
 ·intro h k
  cases hw:W l to k c with
  | false=>rfl
  | true =>
   obtain ⟨j,_,_,h3,h4⟩:=W_small hw
   rw [dist_some.2 ⟨h3,h4⟩] at h; cases h
 ·intro h
  cases hd:dist l to c with
  | none=>rfl
  | some k=>have:=(dist_some.1 hd).1; rw [h k] at this; cases this
def has (l:Sys) (c a:Nm):Bool:=(dist l a c).isSome
theorem has_iff {l:Sys} {c a:Nm}:has l c a=true↔∃ k,W l a k c=true:=by
 unfold has
 cases hd:dist l a c with
 | none=>simp [dist_none.1 hd]
 | some k=>simp; exact ⟨k,(dist_some.1 hd).1⟩
theorem has_refl (l:Sys) (c:Nm):has l c c=true:=has_iff.2 ⟨0,by simp [W]⟩
theorem has_trans {l:Sys} {a b c:Nm} (h1:has l a b=true) (h2:has l b c=true):has l a c=true:=by
 obtain ⟨j,h1⟩:=has_iff.1 h1
 obtain ⟨k,h2⟩:=has_iff.1 h2
 exact has_iff.2 ⟨j+k,W_add h1 h2⟩
theorem has_par {l:Sys} {c p:Nm} (h:p∈par l c):has l c p=true:=has_iff.2 ⟨1,W_succ.2 ⟨p,h,by simp [W]⟩⟩
theorem has_cases {l:Sys} {c a:Nm} (h:has l c a=true):c=a∨∃ p∈par l c,has l p a=true:=by
 obtain ⟨k,h⟩:=has_iff.1 h
 cases k with
 | zero=>exact .inl (by simpa [W] using h)
 | succ k =>
  obtain ⟨p,hp,h⟩:=W_succ.1 h
  exact .inr ⟨p,hp,has_iff.2 ⟨k,h⟩⟩
theorem W_isC {l:Sys} {a:Nm}:∀ {k:Nat} {c:Nm},isC l c=true→W l a k c=true→isC l a=true
 | 0,c,hc,h=>by
  have:c=a:=by simpa [W] using h
  rw [← this]; exact hc
 | k+1,c,_,h=>by
  obtain ⟨p,hp,h⟩:=W_succ.1 h
  exact W_isC (par_isC hp) h
theorem has_isC {l:Sys} {c a:Nm} (hc:isC l c=true) (h:has l c a=true):isC l a=true:=by
 obtain ⟨k,h⟩:=has_iff.1 h
 exact W_isC hc h

/-! ## Without rings -/
def Acyc (l:Sys):Prop:=∀ c p,p∈par l c→has l p c=false
def rk (l:Sys) (c:Nm):Nat:=(nms l).countP fun a=>has l c a
theorem rk_le (l:Sys) (c:Nm):rk l c≤l.length:=by
 have:=List.countP_le_length (p:=fun a=>has l c a) (l:=nms l)
 simpa [rk,nms] using this
theorem countP_lt {α : Type} {p q : α → Bool} : ∀ {l : List α} {x : α}, x ∈ l → (∀ y, p y = true → q y = true) → p x = false → q x = true → l.countP p < l.countP q
 | y::t,x,hx,hpq,h1,h2=>by
  have hle:t.countP p≤t.countP q:=List.countP_mono_left fun z _ hz=>hpq z hz
  rcases List.mem_cons.1 hx with rfl | hx
  ·rw [List.countP_cons,List.countP_cons,h1,h2]; simp; omega
  ·have ih:=countP_lt hx hpq h1 h2
   rw [List.countP_cons,List.countP_cons]
   cases hy:p y with
   | false=>simp; cases q y <;> simp <;> omega
   | true=>rw [hpq y hy]; simp; omega
theorem rk_lt {l:Sys} (ha:Acyc l) {c p:Nm} (h:p∈par l c):rk l p<rk l c :=
 countP_lt (isC_iff.1 (par_of h)) (fun _ hy=>has_trans (has_par h) hy) (ha c p h) (has_refl l c)
theorem W_rk {l:Sys} (ha:Acyc l) {a:Nm}:∀ {k:Nat} {c:Nm},W l a k c=true→c=a∨rk l a<rk l c
 | 0,c,h=>.inl (by simpa [W] using h)
 | k+1,c,h=>by
  obtain ⟨p,hp,h⟩:=W_succ.1 h
  have:=rk_lt ha hp
  rcases W_rk ha h with rfl | h
  ·exact .inr this
  ·exact .inr (by omega)
theorem has_rk {l:Sys} (ha:Acyc l) {c a:Nm} (h:has l c a=true):c=a∨rk l a<rk l c:=by
 obtain ⟨k,h⟩:=has_iff.1 h
 exact W_rk ha h
theorem has_antisymm {l:Sys} (ha:Acyc l) {a b:Nm} (h1:has l a b=true) (h2:has l b a=true):a=b:=by
 rcases has_rk ha h1 with h | h
 ·exact h
 ·rcases has_rk ha h2 with h' | h'
  ·exact h'.symm
  ·omega
end Go.Hr
namespace Go.Hr
open Go
variable {l:Sys}

/-! ## Lists without doubles -/
def step (o:List Nm) (x:Nm):List Nm:=if o.contains x then o else o++[x]
def dd (o xs:List Nm):List Nm:=xs.foldl step o
theorem step_mem {o:List Nm} {x:Nm} (h:x∈o):step o x=o:=by simp [step,h]
theorem step_new {o:List Nm} {x:Nm} (h:x ∉ o):step o x=o++[x]:=by simp [step,h]
/-! ## Each behind its own ancestors -/
inductive Tp (l:Sys):List Nm→Prop
 | nil:Tp l []
 | snoc {o:List Nm} {c:Nm}:Tp l o→c ∉ o→(∀ p∈par l c,p∈o)→Tp l (o++[c])
theorem Tp.nodup {o:List Nm} (h:Tp l o):o.Nodup:=by
 induction h with
 | nil=>exact List.nodup_nil
 | snoc _ hn _ ih=>exact List.nodup_append.2 ⟨ih,by simp,fun x hx y hy e=>by simp at hy; exact hn (hy ▸ e ▸ hx)⟩
theorem Tp.par {o : List Nm} (h : Tp l o) {c p : Nm} (hc : c ∈ o) (hp : p ∈ Hr.par l c) : p ∈ o := by
 induction h with
 | nil=>cases hc
 | snoc _ _ hs ih =>
  rcases List.mem_append.1 hc with hc | hc
  ·exact List.mem_append_left _ (ih hc)
  ·simp at hc
   subst hc
   exact List.mem_append_left _ (hs p hp)
theorem Tp.has {o : List Nm} (h : Tp l o) {c a : Nm} (hc : c ∈ o) (ha : Hr.has l c a = true) : a ∈ o := by
  obtain ⟨k,ha⟩:=has_iff.1 ha
  induction k generalizing c with
  | zero => have : c = a := by simpa [W] using ha
            exact this ▸ hc
  | succ k ih =>
    obtain ⟨p,hp,h'⟩:=W_succ.1 ha
    exact ih (h.par hc hp) (has_iff.2 ⟨k,h'⟩) h'
theorem Tp.ahead {o : List Nm} (h : Tp l o) : ∀ (i j : Nat) (hi : i < j) (hj : j < o.length), Hr.has l (o[i]'(by omega)) o[j] = false := by
 induction h with
 | nil=>intro i j hi hj; simp at hj
 | @snoc o c ht hn _ ih =>
  intro i j hi hj
  simp only [List.length_append,List.length_singleton] at hj
  rcases Nat.lt_or_ge j o.length with hjo | hjo
  ·have:=ih i j hi hjo
   rw [List.getElem_append_left (by omega),List.getElem_append_left hjo]
   exact this
  ·have hje:j=o.length:=by omega
   subst hje
   rw [List.getElem_append_left (by omega),List.getElem_append_right (Nat.le_refl _)]
   simp only [Nat.sub_self,List.getElem_singleton]
   cases hh:Hr.has l o[i] c with
   | false=>rfl
   | true=>exact absurd (ht.has (List.getElem_mem _) hh) hn

/-! ## The search -/
def vis (l:Sys):Nat→List Nm→Nm→List Nm
 | 0,o,_=>o
 | f+1,o,c=>if o.contains c then o else (par l c).foldl (vis l f) o++[c]
def above (l:Sys) (c:Nm):List Nm:=vis l (l.length+1) [] c
theorem vis_spec (ha : Acyc l) : ∀ (f : Nat) (c : Nm) (o : List Nm), rk l c < f → Tp l o → Tp l (vis l f o c) ∧ ∀ x, x ∈ vis l f o c ↔ x ∈ o ∨ has l c x = true
 | 0,c,o,h,_=>by omega
 | f + 1, c, o, h, ho => by
  unfold vis
  split
  ·rename_i hc
   have hc:c∈o:=by simpa using hc
   exact ⟨ho,fun x=>⟨.inl,fun hx=>hx.elim id fun hx=>ho.has hc hx⟩⟩
  ·rename_i hc
   have hc:c ∉ o:=by simpa using hc
   have key:∀ (ps:List Nm) (o:List Nm),(∀ p∈ps,p∈par l c)→Tp l o→Tp l (ps.foldl (vis l f) o)∧∀ x,x∈ps.foldl (vis l f) o↔x∈o∨∃ p∈ps,has l p x=true:=by
    intro ps
    induction ps with
    | nil=>intro o _ ho; exact ⟨ho,fun x=>by simp⟩
    | cons p t ih =>
     intro o hp ho
     obtain ⟨h1,h2⟩:=vis_spec ha f p o (by have:=rk_lt ha (hp p (by simp)); omega) ho
     obtain ⟨h3,h4⟩:=ih (vis l f o p) (fun q hq=>hp q (by simp [hq])) h1
     refine ⟨h3,fun x=>?_⟩
     rw [List.foldl_cons,h4,h2]
     simp only [List.mem_cons,exists_eq_or_imp,or_assoc]
   obtain ⟨h1,h2⟩:=key (par l c) o (fun _ h=>h) ho
   refine ⟨h1.snoc (fun hm=>?_) fun p hp=>(h2 p).2 (.inr ⟨p,hp,has_refl l p⟩),fun x=>?_⟩
   ·rcases (h2 c).1 hm with hm | ⟨p,hp,hm⟩
    ·exact hc hm
    ·rw [ha c p hp] at hm; cases hm
   ·rw [List.mem_append, h2]
    constructor
    ·rintro ((h | ⟨p,hp,h⟩) | h)
     ·exact .inl h
     ·exact .inr (has_trans (has_par hp) h)
     ·simp at h; rw [h]; exact .inr (has_refl l c)
    ·rintro (h | h)
     ·exact .inl (.inl h)
     ·rcases has_cases h with rfl | ⟨p,hp,h⟩
      ·exact .inr (by simp)
      ·exact .inl (.inr ⟨p,hp,h⟩)
theorem rk_fuel (l:Sys) (c:Nm):rk l c<l.length+1:=by have:=rk_le l c; omega
theorem above_spec (ha:Acyc l) (c:Nm):Tp l (above l c)∧∀ x,x∈above l c↔has l c x=true:=by
 obtain ⟨h1,h2⟩:=vis_spec ha (l.length+1) c [] (rk_fuel l c) .nil
 exact ⟨h1,fun x=>by rw [above,h2]; simp⟩
end Go.Hr
namespace Go.Hr
open Go
variable {l:Sys}

/-! ## How many ways -/
def nW (l:Sys) (a:Nm):Nat→Nm→Nat
 | 0,_=>0
 | f+1,c=>(if c=a then 1 else 0)+((par l c).map (nW l a f)).sum
def ways (l:Sys) (c a:Nm):Nat:=nW l a (l.length+1) c
theorem nW_fuel (ha:Acyc l) (a:Nm):∀ (f g:Nat) (c:Nm),rk l c<f→rk l c<g→nW l a f c=nW l a g c
 | 0,_,_,h,_=>by omega
 | _,0,_,_,h=>by omega
 | f+1,g+1,c,hf,hg=>by
  unfold nW
  rw [List.map_congr_left fun p hp=>nW_fuel ha a f g p (by have:=rk_lt ha hp; omega) (by have:=rk_lt ha hp; omega)]
theorem ways_rec (ha:Acyc l) (c a:Nm):ways l c a=(if c=a then 1 else 0)+((par l c).map fun p=>ways l p a).sum:=by
 unfold ways
 rw [nW,List.map_congr_left fun p hp=>nW_fuel ha a l.length (l.length+1) p (by have:=rk_lt ha hp; have:=rk_le l c; omega) (rk_fuel l p)]
theorem sum_pos {α : Type} {f : α → Nat}:∀ {xs:List α},0<(xs.map f).sum↔∃ x∈xs,0<f x
 | []=>by simp
 | x::t=>by
  rw [List.map_cons,List.sum_cons]
  simp only [List.mem_cons,exists_eq_or_imp]
  rw [← sum_pos (xs:=t)]
  omega
theorem rk_ind (ha:Acyc l) {P:Nm→Prop} (h:∀ c,(∀ p∈par l c,P p)→P c):∀ c,P c:=by
 have key:∀ n c,rk l c<n→P c:=by
  intro n
  induction n with
  | zero=>intro c hc; omega
  | succ n ih=>intro c hc; exact h c fun p hp=>ih p (by have:=rk_lt ha hp; omega)
 exact fun c=>key _ c (Nat.lt_succ_self _)
theorem ways_pos (ha : Acyc l) (a : Nm) : ∀ c, 0 < ways l c a ↔ has l c a = true :=
 rk_ind ha fun c ih => by
  rw [ways_rec ha]
  constructor
  ·intro h
   by_cases hc:c=a
   ·rw [hc]; exact has_refl l a
   ·rw [if_neg hc,Nat.zero_add,sum_pos] at h
    obtain ⟨p,hp,h⟩:=h
    exact has_trans (has_par hp) ((ih p hp).1 h)
  ·intro h
   rcases has_cases h with rfl | ⟨p,hp,h⟩
   ·rw [if_pos rfl]; omega
   ·have:0<((par l c).map fun p=>ways l p a).sum:=sum_pos.2 ⟨p,hp,(ih p hp).2 h⟩
    omega
theorem ways_self (ha:Acyc l) (a:Nm):ways l a a=1:=by
 rw [ways_rec ha,if_pos rfl]
 have:¬ 0<((par l a).map fun p=>ways l p a).sum:=fun h=>by
  obtain ⟨p,hp,h⟩:=sum_pos.1 h
  have:=(ways_pos ha a p).1 h
  rw [ha a p hp] at this; cases this
 omega
theorem sum_le {α : Type} {f : α → Nat} {k:Nat}:∀ {xs:List α},(∀ x∈xs,f x≤k)→(xs.map f).sum≤xs.length * k
 | [],_=>by simp
 | x::t,h=>by
  have:=sum_le (f:=f) (xs:=t) fun y hy=>h y (by simp [hy])
  have:=h x (by simp)
  rw [List.map_cons,List.sum_cons,List.length_cons,Nat.succ_mul]
  omega
theorem ways_le (ha : Acyc l) (hp : ∀ c, (par l c).length ≤ 4) (a : Nm) : ∀ c, ways l c a ≤ 4 ^ rk l c :=
 rk_ind ha fun c ih => by
  by_cases hc:c=a
  ·rw [hc,ways_self ha]; exact Nat.pow_pos (by omega)
  ·rw [ways_rec ha,if_neg hc,Nat.zero_add]
   cases hr:rk l c with
   | zero =>
    have:par l c=[]:=List.eq_nil_iff_forall_not_mem.2 fun p hp=>by have:=rk_lt ha hp; omega
    rw [this]; simp
   | succ n =>
    have h1:=sum_le (f:=fun p=>ways l p a) (k:=4 ^ n) (xs:=par l c) fun p hp=>Nat.le_trans (ih p hp) (Nat.pow_le_pow_right (by omega) (by have:=rk_lt ha hp; omega))
    have h2:=Nat.mul_le_mul_right (4 ^ n) (hp c)
    rw [Nat.pow_succ]
    omega

/-! ## Levels -/
def mx (xs:List Nat):Nat:=xs.foldl max 0
theorem foldl_max (a:Nat):∀ xs:List Nat,xs.foldl max a=max a (mx xs):=by
 intro xs
 unfold mx
 induction xs generalizing a with
 | nil=>simp
 | cons x t ih=>rw [List.foldl_cons,ih,List.foldl_cons,ih (max 0 x)]; omega
theorem mx_snoc (xs:List Nat) (x:Nat):mx (xs++[x])=max (mx xs) x:=by simp [mx,List.foldl_append]
theorem mx_cons (xs:List Nat) (x:Nat):mx (x::xs)=max x (mx xs):=by rw [mx,List.foldl_cons,foldl_max]; omega
theorem mx_mem:∀ {xs:List Nat},0<mx xs→mx xs∈xs
 | [],h=>by simp [mx] at h
 | y::t,h=>by
  rw [mx_cons] at h ⊢
  by_cases hy:mx t≤y
  ·rw [Nat.max_eq_left hy]; simp
  ·rw [Nat.max_eq_right (by omega)]; exact List.mem_cons_of_mem _ (mx_mem (by omega))
theorem mx_le {xs:List Nat} {k:Nat} (h:∀ x∈xs,x≤k):mx xs≤k:=by
 rcases Nat.eq_zero_or_pos (mx xs) with h0 | h0
 ·omega
 ·exact h _ (mx_mem h0)
def lvf (l:Sys):Nat→Nm→Nat
 | 0,_=>0
 | f+1,c=>mx ((par l c).map fun p=>lvf l f p+1)
def lv (l:Sys) (c:Nm):Nat:=lvf l (l.length+1) c
theorem lvf_fuel (ha:Acyc l):∀ (f g:Nat) (c:Nm),rk l c<f→rk l c<g→lvf l f c=lvf l g c
 | 0,_,_,h,_=>by omega
 | _,0,_,_,h=>by omega
 | f+1,g+1,c,hf,hg=>by
  unfold lvf
  rw [List.map_congr_left fun p hp=>by rw [lvf_fuel ha f g p (by have:=rk_lt ha hp; omega) (by have:=rk_lt ha hp; omega)]]
theorem lv_rec (ha:Acyc l) (c:Nm):lv l c=mx ((par l c).map fun p=>lv l p+1):=by
 unfold lv
 rw [lvf,List.map_congr_left fun p hp=>by rw [lvf_fuel ha l.length (l.length+1) p (by have:=rk_lt ha hp; have:=rk_le l c; omega) (rk_fuel l p)]]
theorem lv_le (ha:Acyc l):∀ c,lv l c≤rk l c :=
 rk_ind ha fun c ih=>by
  rw [lv_rec ha c]
  refine mx_le fun x hx=>?_
  obtain ⟨p,hp,rfl⟩:=List.mem_map.1 hx
  have:=ih p hp
  have:=rk_lt ha hp
  omega
/-! ## The order of all -/
def opn (l:Sys) (o:List Nm) (c:Nm):Bool := !o.contains c && (par l c).all o.contains
def ordN (l:Sys):Nat→List Nm
 | 0=>[]
 | k+1=>ordN l k++[minN ((nms l).filter (opn l (ordN l k)))]
def order (l:Sys):List Nm:=ordN l l.length
theorem opn_iff {o:List Nm} {c:Nm}:opn l o c=true↔c ∉ o∧∀ p∈par l c,p∈o:=by simp [opn]
theorem ordN_len (l:Sys):∀ k,(ordN l k).length=k
 | 0=>rfl
 | k+1=>by simp [ordN,ordN_len l k]
theorem opn_some (ha : Acyc l) {o : List Nm} : ∀ c, isC l c = true → c ∉ o → ∃ x ∈ nms l, opn l o x = true :=
 rk_ind ha fun c ih=>by
 intro hc hn
 by_cases h:∀ p∈par l c,p∈o
 ·exact ⟨c,isC_iff.1 hc,opn_iff.2 ⟨hn,h⟩⟩
 ·obtain ⟨p,hp,h⟩:∃ p,p∈par l c∧p ∉ o:=by
   apply Classical.byContradiction
   intro hh
   exact h fun p hp=>Classical.byContradiction fun hq=>hh ⟨p,hp,hq⟩
  exact ih p hp (par_isC hp) h
theorem ordN_spec (ha : Acyc l) (hu : (nms l).Nodup) : ∀ k, k ≤ l.length → Tp l (ordN l k) ∧ ∀ x ∈ ordN l k, x ∈ nms l
 | 0,_=>⟨.nil,fun x h=>by simp [ordN] at h⟩
 | k+1,hk=>by
  obtain ⟨h1,h2⟩:=ordN_spec ha hu k (by omega)
  have hex:∃ c,c∈nms l∧c ∉ ordN l k:=by
   apply Classical.byContradiction
   intro hh
   have:=length_le_of_nodup (b:=ordN l k) hu fun x hx=>Classical.byContradiction fun hq=>hh ⟨x,hx,hq⟩
   rw [ordN_len] at this
   simp [nms] at this
   omega
  obtain ⟨c,hc,hn⟩:=hex
  obtain ⟨x,hx,hox⟩:=opn_some ha c (isC_iff.2 hc) hn
  have hm:=minN_mem (l:=(nms l).filter (opn l (ordN l k))) (List.ne_nil_of_mem (List.mem_filter.2 ⟨hx,hox⟩))
  obtain ⟨m1,m2⟩:=List.mem_filter.1 hm
  obtain ⟨m3,m4⟩:=opn_iff.1 m2
  refine ⟨h1.snoc m3 m4,fun y hy=>?_⟩
  rcases List.mem_append.1 hy with hy | hy
  ·exact h2 y hy
  ·simp at hy; rw [hy]; exact m1
theorem ordN_some (ha:Acyc l) (hu:(nms l).Nodup) {k:Nat} (hk:k<l.length):(nms l).filter (opn l (ordN l k))≠[]:=by
 have h2:=(ordN_spec ha hu k (by omega)).2
 have hex:∃ c,c∈nms l∧c ∉ ordN l k:=by
  apply Classical.byContradiction
  intro hh
  have:=length_le_of_nodup (b:=ordN l k) hu fun x hx=>Classical.byContradiction fun hq=>hh ⟨x,hx,hq⟩
  rw [ordN_len] at this
  simp [nms] at this
  omega
 obtain ⟨c,hc,hn⟩:=hex
 obtain ⟨x,hx,hox⟩:=opn_some ha c (isC_iff.2 hc) hn
 exact List.ne_nil_of_mem (List.mem_filter.2 ⟨hx,hox⟩)
theorem mem_of_nodup_len {α : Type} [DecidableEq α] {a b:List α} (ha:a.Nodup) (hs:∀ x∈a,x∈b) (hl:b.length≤a.length):∀ x∈b,x∈a:=by
 intro x hx
 apply Classical.byContradiction
 intro hn
 have:=length_le_of_nodup (a:=x::a) (b:=b) (List.nodup_cons.2 ⟨hn,ha⟩) fun y hy=>by
  rcases List.mem_cons.1 hy with rfl | hy
  ·exact hx
  ·exact hs y hy
 simp at this
 omega
theorem order_spec (ha:Acyc l) (hu:(nms l).Nodup):Tp l (order l)∧∀ x,x∈order l↔x∈nms l:=by
 obtain ⟨h1,h2⟩:=ordN_spec ha hu l.length (Nat.le_refl _)
 exact ⟨h1,fun x=>⟨h2 x,mem_of_nodup_len h1.nodup h2 (by rw [ordN_len]; simp [nms]) x⟩⟩
end Go.Hr
namespace Go.Hr
open Go
variable {l:Sys}

/-! ## Names in order, each once -/
def Srt (xs:List Nm):Prop:=xs.Pairwise fun a b=>lt a b=true
def put:List Nm→Nm→List Nm
 | [],x=>[x]
 | y::t,x=>if lt y x then y::put t x else if y=x then y::t else x::y::t
def srt (xs:List Nm):List Nm:=xs.foldl put []
theorem Srt.ext : ∀ {a b : List Nm}, Srt a → Srt b → (∀ x, x ∈ a ↔ x ∈ b) → a = b
 | [],[],_,_,_=>rfl
 | [],y::t,_,_,h=>by have:=(h y).2 (by simp); simp at this
 | x::s,[],_,_,h=>by have:=(h x).1 (by simp); simp at this
 | x :: s, y :: t, ha, hb, h => by
  obtain ⟨a1,a2⟩:=List.pairwise_cons.1 ha
  obtain ⟨b1,b2⟩:=List.pairwise_cons.1 hb
  have hxy:x=y:=by
   rcases List.mem_cons.1 ((h x).1 (by simp)) with h1 | h1
   ·exact h1
   ·rcases List.mem_cons.1 ((h y).2 (by simp)) with h2 | h2
    ·exact h2.symm
    ·have:=lt_trans (a1 y h2) (b1 x h1); rw [lt_irrefl] at this; cases this
  subst hxy
  rw [Srt.ext a2 b2 fun z=>?_]
  constructor
  ·intro hz
   rcases List.mem_cons.1 ((h z).1 (by simp [hz])) with rfl | h1
   ·have:=a1 z hz; rw [lt_irrefl] at this; cases this
   ·exact h1
  ·intro hz
   rcases List.mem_cons.1 ((h z).2 (by simp [hz])) with rfl | h1
   ·have:=b1 z hz; rw [lt_irrefl] at this; cases this
   ·exact h1
theorem Srt.nodup {a:List Nm} (h:Srt a):a.Nodup:=h.imp fun hab e=>by rw [e,lt_irrefl] at hab; cases hab
/-! ## Levels -/
def row (l:Sys) (o:List Nm) (n:Nat):List Nm:=o.filter fun c=>lv l c == n
def high (l:Sys) (o:List Nm):Nat:=mx (o.map fun c=>lv l c+1)
def rows (l:Sys) (o:List Nm):List (List Nm):=(List.range (high l o)).map (row l o)
def levels (l:Sys):List (List Nm):=(List.range (high l (nms l))).map fun n=>srt (row l (nms l) n)
/-! ## Least common ancestors -/
def common (l:Sys) (a b:Nm):List Nm:=(above l a).filter fun c=>has l b c
def lowest (l:Sys) (cs:List Nm) (c:Nm):Bool := !cs.any fun d=>d != c && has l d c
def least (l:Sys) (a b:Nm):List Nm:=srt ((common l a b).filter (lowest l (common l a b)))
end Go.Hr
namespace Go.Hr
open Go
variable {l:Sys}

/-! ## Shortest ways -/
def nexts (l:Sys) (to:Nm) (k:Nat) (c:Nm):List Nm:=(par l c).filter fun p=>dist l to p == some k
def short (l:Sys) (to:Nm):Nat→Nm→List Nm
 | 0,c=>[c]
 | k+1,c=>c::short l to k (minN (nexts l to k c))
theorem short_len (l:Sys) (to:Nm):∀ k c,(short l to k c).length=k+1
 | 0,_=>rfl
 | k+1,c=>by rw [short,List.length_cons,short_len l to k]
theorem nexts_ne {to c:Nm} {k:Nat} (h:dist l to c=some (k+1)):nexts l to k c≠[]:=by
 obtain ⟨h1,h2⟩:=dist_some.1 h
 obtain ⟨p,hp,h3⟩:=W_succ.1 h1
 refine List.ne_nil_of_mem (List.mem_filter.2 ⟨hp,?_⟩)
 simp only [beq_iff_eq]
 refine dist_some.2 ⟨h3,fun i hi=>?_⟩
 cases hw:W l to i p with
 | false=>rfl
 | true =>
  have:=h2 (i+1) (by omega)
  rw [W_succ.2 ⟨p,hp,hw⟩] at this; cases this
theorem next_spec {to c:Nm} {k:Nat} (h:dist l to c=some (k+1)):minN (nexts l to k c)∈par l c∧dist l to (minN (nexts l to k c))=some k:=by
 obtain ⟨h1,h2⟩:=List.mem_filter.1 (minN_mem (nexts_ne h))
 have h3:(dist l to (minN (nexts l to k c)) == some k)=true:=h2
 exact ⟨h1,beq_iff_eq.1 h3⟩
def Way (l:Sys) (to:Nm):List Nm→Nm→Prop
 | [],_=>False
 | [x],c=>x=c∧c=to
 | x::y::t,c=>x=c∧y∈par l c∧Way l to (y::t) y
theorem short_way (l : Sys) (to : Nm) : ∀ k c, dist l to c = some k → Way l to (short l to k c) c
 | 0,c,h=>by
  have:=(dist_some.1 h).1
  exact ⟨rfl,by simpa [W] using this⟩
 | k + 1, c, h => by
  obtain ⟨h1,h2⟩:=next_spec h
  have ih:=short_way l to k _ h2
  rw [short]
  cases hs:short l to k (minN (nexts l to k c)) with
  | nil=>have:=short_len l to k (minN (nexts l to k c)); rw [hs] at this; cases this
  | cons y t =>
   have hy:y=minN (nexts l to k c):=by
    cases k with
    | zero=>rw [short] at hs; cases hs; rfl
    | succ k=>rw [short] at hs; cases hs; rfl
   rw [hs,← hy] at ih
   exact ⟨rfl,hy ▸ h1,ih⟩
theorem way_W {to:Nm}:∀ {t:List Nm} {c:Nm},Way l to t c→∃ k,t.length=k+1∧W l to k c=true
 | [x],c,h=>⟨0,rfl,by simp [W]; exact h.2⟩
 | x::y::t,c,⟨_,h2,h3⟩=>by
  obtain ⟨k,h4,h5⟩:=way_W h3
  exact ⟨k+1,by simpa using h4,W_succ.2 ⟨y,h2,h5⟩⟩

/-! ## Rings -/
def lexLt:List Nm→List Nm→Bool
 | _,[]=>false
 | [],_::_=>true
 | a::x,b::y=>lt a b || (a == b && lexLt x y)
def ringLt (a b:List Nm):Bool:=decide (a.length<b.length) || (decide (a.length=b.length) && lexLt a b)
def better (b:Option (List Nm)) (r:List Nm):Option (List Nm):=
 match b with
 | none=>some r
 | some q=>if ringLt r q then some r else some q
def cand (l:Sys) (c p:Nm):Option (List Nm):=(dist l c p).map fun k=>c::(short l c k p).dropLast
def cands (l:Sys):List (List Nm):=(nms l).flatMap fun c=>(par l c).filterMap (cand l c)
def ring (l:Sys):Option (List Nm):=(cands l).foldl better none
theorem better_some : ∀ (rs : List (List Nm)) (b : Option (List Nm)), (rs.foldl better b = none ↔ b = none ∧ rs = []) ∧ ∀ r, rs.foldl better b = some r → b = some r ∨ r ∈ rs
 | [],b=>by simp
 | r :: t, b => by
  have hb:better b r≠none:=by cases b <;> simp [better]; split <;> simp
  obtain ⟨h1,h2⟩:=better_some t (better b r)
  rw [List.foldl_cons]
  refine ⟨by rw [h1]; simp [hb],fun q hq=>?_⟩
  rcases h2 q hq with h | h
  ·cases b with
   | none=>simp [better] at h; exact .inr (by simp [h])
   | some z =>
    simp only [better] at h
    split at h
    ·simp at h; exact .inr (by simp [h])
    ·exact .inl h
  ·exact .inr (by simp [h])
theorem cands_nil:cands l=[]↔Acyc l:=by
 unfold cands
 rw [List.flatMap_eq_nil_iff]
 constructor
 ·intro h c p hp
  have h1:=List.filterMap_eq_nil_iff.1 (h c (isC_iff.1 (par_of hp))) p hp
  unfold cand at h1
  unfold has
  cases hd:dist l c p with
  | none=>rfl
  | some k=>rw [hd] at h1; cases h1
 ·intro h c _
  refine List.filterMap_eq_nil_iff.2 fun p hp=>?_
  have:=h c p hp
  unfold has at this
  unfold cand
  cases hd:dist l c p with
  | none=>rfl
  | some k=>rw [hd] at this; cases this
theorem ring_none:ring l=none↔Acyc l:=by
 unfold ring
 rw [(better_some _ _).1,cands_nil]
 simp
theorem ring_mem {r:List Nm} (h:ring l=some r):r∈cands l:=((better_some _ _).2 r h).resolve_left (by simp)

/-! ## Right systems -/
def upper (b:UInt8):Bool:=decide (65≤b.toNat) && decide (b.toNat≤90)
def digit (b:UInt8):Bool:=decide (48≤b.toNat) && decide (b.toNat≤57)
def reserved : List Nm := ["INTEGER".toUTF8.data.toList, "BOOLEAN".toUTF8.data.toList, "ANY".toUTF8.data.toList, "NONE".toUTF8.data.toList]
def named (s:Nm):Bool:=match s with
 | []=>false
 | b::_=>decide (s.length≤20) && upper b && s.all (fun b=>upper b || digit b || b.toNat == 95) && !reserved.contains s
def idx (l:Sys) (c:Nm):Option Nat:=l.findIdx? fun x=>x.name == c
def alone (l:Sys) (i:Nat) (x:Cls):Int :=
 if 4<x.parents.length then 3 else if named x.name=false then 4 else if idx l x.name≠some i∨¬ x.parents.Nodup then 6 else 0
def lost (l:Sys) (x:Cls):Bool:=x.parents.any fun p => !isC l p
def check (l : Sys) : Int × Nm :=
 if 24<l.length then (3,[]) else
 match (l.zipIdx.map fun q=>(alone l q.2 q.1,q.1.name)).find? fun e=>e.1 != 0 with
 | some e=>e
 | none =>
  match List.find? (lost l) l with
  | some x=>(5,x.name)
  | none=>match ring l with
   | some r=>(7,r.headD [])
   | none=>(0,[])
structure Right (l:Sys):Prop where
 len:l.length≤24
 few:∀ x∈l,x.parents.length≤4
 nam:∀ x∈l,named x.name=true
 uniq:(nms l).Nodup
 once:∀ x∈l,x.parents.Nodup
 all:∀ x∈l,∀ p∈x.parents,isC l p=true
 acyc:Acyc l
theorem alone_zero {i : Nat} {x : Cls} : alone l i x = 0 ↔ x.parents.length ≤ 4 ∧ named x.name = true ∧ idx l x.name = some i ∧ x.parents.Nodup := by
 unfold alone
 split
 ·rename_i h; simp; omega
 ·rename_i h
  split
  ·rename_i h2; simp [h2]
  ·rename_i h2
   have h2:named x.name=true:=by simpa using h2
   split
   ·rename_i h3
    simp only [h2,true_and]
    constructor
    ·intro h; cases h
    ·rintro ⟨_,h4,h5⟩; exact absurd h3 (by simp [h4,h5])
   ·rename_i h3
    have h3:=not_or.1 h3
    exact ⟨fun _=>⟨by omega,h2,Classical.not_not.1 h3.1,Classical.not_not.1 h3.2⟩,fun _=>rfl⟩
theorem uniq_idx:(∀ (i:Nat) (x:Cls),l[i]? = some x→idx l x.name=some i)↔(nms l).Nodup:=by
 constructor
 ·intro h
  unfold nms
  rw [List.nodup_iff_pairwise_ne,List.pairwise_iff_getElem]
  intro i j hi hj hij
  simp only [List.length_map] at hi hj
  rw [List.getElem_map,List.getElem_map]
  intro e
  have h1:=h i _ (List.getElem?_eq_getElem hi)
  have h2:=h j _ (List.getElem?_eq_getElem hj)
  rw [e,h2] at h1
  cases h1; omega
 ·intro h i x hx
  obtain ⟨hi,he⟩:=List.getElem?_eq_some_iff.1 hx
  unfold idx
  rw [List.findIdx?_eq_some_iff_getElem]
  refine ⟨hi,by simp [he],fun j hj=>?_⟩
  have:=(List.pairwise_iff_getElem.1 (List.nodup_iff_pairwise_ne.1 h)) j i (by simp [nms]; omega) (by simp [nms]; omega) hj
  simp only [nms,List.getElem_map] at this
  simp only [beq_iff_eq,Bool.not_eq_true]
  simpa [he] using this
theorem check_zero : (check l).1 = 0 ↔ Right l := by
 unfold check
 split
 ·rename_i h
  exact ⟨fun h=>(by cases h),fun h'=>by have:=h'.len; omega⟩
 ·rename_i h
  split
  ·rename_i e he
   have h1:=List.find?_some he
   have h2:=List.mem_of_find?_eq_some he
   obtain ⟨⟨x,i⟩,hq,rfl⟩:=List.mem_map.1 h2
   simp only [bne_iff_ne,ne_eq] at h1
   refine ⟨fun h=>absurd h h1,fun hr=>absurd (alone_zero.2 ?_) h1⟩
   have hx:=List.mem_zipIdx_iff_getElem?.1 hq
   have hm:x∈l:=List.mem_of_getElem? hx
   exact ⟨hr.few x hm,hr.nam x hm,uniq_idx.2 hr.uniq i x hx,hr.once x hm⟩
  ·rename_i h1
   rw [List.find?_eq_none] at h1
   have h2:∀ (i:Nat) (x:Cls),l[i]? = some x→alone l i x=0:=fun i x hx=>by
    have:=h1 _ (List.mem_map.2 ⟨(x,i),List.mem_zipIdx_iff_getElem?.2 hx,rfl⟩)
    simpa using this
   split
   ·rename_i x hx
    refine ⟨fun h=>(by cases h),fun hr=>?_⟩
    have h3:=List.find?_some hx
    have h4:=List.mem_of_find?_eq_some hx
    obtain ⟨p,hp,h5⟩:=List.any_eq_true.1 h3
    rw [hr.all x h4 p hp] at h5; cases h5
   ·rename_i hx
    rw [List.find?_eq_none] at hx
    split
    ·rename_i r hr
     refine ⟨fun h=>(by cases h),fun h'=>?_⟩
     rw [ring_none.2 h'.acyc] at hr; cases hr
    ·rename_i hr
     refine ⟨fun _=>?_,fun _=>rfl⟩
     have h3:∀ x∈l,∃ i,l[i]? = some x:=fun x hx=>List.getElem?_of_mem hx
     refine ⟨by omega,fun x hx=>?_,fun x hx=>?_,uniq_idx.1 fun i x hi=>(alone_zero.1 (h2 i x hi)).2.2.1,fun x hx=>?_,fun x hxm p hp=>?_,ring_none.1 hr⟩
     ·obtain ⟨i,hi⟩:=h3 x hx; exact (alone_zero.1 (h2 i x hi)).1
     ·obtain ⟨i,hi⟩:=h3 x hx; exact (alone_zero.1 (h2 i x hi)).2.1
     ·obtain ⟨i,hi⟩:=h3 x hx; exact (alone_zero.1 (h2 i x hi)).2.2.2
     ·have:=hx x hxm
      unfold lost at this
      rw [List.any_eq_true] at this
      cases hc:isC l p with
      | true=>rfl
      | false=>exact absurd ⟨p,hp,by rw [hc]; rfl⟩ this
theorem find_mem (hu:(nms l).Nodup) {x:Cls} (hx:x∈l):find l x.name=some x:=by
 obtain ⟨i,hi⟩:=List.getElem?_of_mem hx
 have h1:=uniq_idx.2 hu i x hi
 unfold idx at h1
 obtain ⟨hil,h2,h3⟩:=List.findIdx?_eq_some_iff_getElem.1 h1
 have hx':l[i]=x:=by rw [List.getElem?_eq_getElem hil] at hi; exact Option.some.inj hi
 unfold find
 rw [List.find?_eq_some_iff_getElem]
 exact ⟨by simp,i,hil,hx',fun j hj=>by simpa using h3 j hj⟩
theorem Right.par_eq (h:Right l) {x:Cls} (hx:x∈l):par l x.name=x.parents:=by
 unfold par pars
 rw [find_mem h.uniq hx]
 exact List.filter_eq_self.2 (h.all x hx)
end Go.Hr
namespace Go.Hr
open Go
variable {l:Sys}

/-! ## Needless links -/
def spare (l:Sys) (c p:Nm):Bool:=(par l c).any fun q=>q != p && has l q p
def needless (l:Sys):List (Nm×Nm):=(nms l).flatMap fun c=>((par l c).filter (spare l c)).map fun p=>(c,p)
/-! ## Without some links -/
def cut (l:Sys) (gone:List (Nm×Nm)):Sys:=l.map fun x=>{ name:=x.name,parents:=x.parents.filter fun p => !gone.contains (x.name,p),feats:=0 }
theorem nms_cut (gone:List (Nm×Nm)):nms (cut l gone)=nms l:=by simp [nms,cut]
theorem isC_cut (gone:List (Nm×Nm)) (c:Nm):isC (cut l gone) c=isC l c:=by
 rw [Bool.eq_iff_iff,isC_iff,isC_iff,nms_cut]
theorem find_cut (gone:List (Nm×Nm)) (c:Nm):find (cut l gone) c=(find l c).map fun x=>{ name:=x.name,parents:=x.parents.filter fun p => !gone.contains (x.name,p),feats:=0 }:=by
 unfold find cut
 rw [List.find?_map]
 rfl
theorem mem_par_cut {gone:List (Nm×Nm)} {c p:Nm}:p∈par (cut l gone) c↔p∈par l c∧(c,p) ∉ gone:=by
 unfold par pars
 rw [find_cut]
 cases hf:find l c with
 | none=>simp
 | some x =>
  have hx:=(find_name hf).1
  subst hx
  simp only [Option.map_some,Option.getD_some,List.mem_filter,isC_cut]
  simp only [Bool.not_eq_true',List.contains_eq_mem,decide_eq_false_iff_not]
  exact ⟨fun ⟨⟨a,b⟩,d⟩=>⟨⟨a,d⟩,b⟩,fun ⟨⟨a,d⟩,b⟩=>⟨⟨a,b⟩,d⟩⟩
theorem W_cut {gone:List (Nm×Nm)} {to:Nm}:∀ {k:Nat} {c:Nm},W (cut l gone) to k c=true→W l to k c=true
 | 0,_,h=>h
 | k+1,c,h=>by
  obtain ⟨p,hp,h⟩:=W_succ.1 h
  exact W_succ.2 ⟨p,(mem_par_cut.1 hp).1,W_cut h⟩
theorem has_cut {gone:List (Nm×Nm)} {c a:Nm} (h:has (cut l gone) c a=true):has l c a=true:=by
 obtain ⟨k,h⟩:=has_iff.1 h
 exact has_iff.2 ⟨k,W_cut h⟩
theorem Right.cut (h : Right l) (gone : List (Nm × Nm)) : Right (cut l gone) where
 len:=by simp [Hr.cut]; exact h.len
 few x hx:=by
  obtain ⟨y,hy,rfl⟩:=List.mem_map.1 hx
  exact Nat.le_trans (List.length_filter_le _ _) (h.few y hy)
 nam x hx:=by
  obtain ⟨y,hy,rfl⟩:=List.mem_map.1 hx
  exact h.nam y hy
 uniq:=by rw [nms_cut]; exact h.uniq
 once x hx:=by
  obtain ⟨y,hy,rfl⟩:=List.mem_map.1 hx
  exact List.Nodup.sublist List.filter_sublist (h.once y hy)
 all x hx p hp:=by
  obtain ⟨y,hy,rfl⟩:=List.mem_map.1 hx
  rw [isC_cut]
  exact h.all y hy p (List.mem_filter.1 hp).1
 acyc c p hp:=by
  cases hh:has (Hr.cut l gone) p c with
  | false=>rfl
  | true =>
   have:=has_cut hh
   rw [h.acyc c p (mem_par_cut.1 hp).1] at this; cases this
/-! ## What is touched -/
def touched (l:Sys) (names:List Nm):List Nm:=(nms l).filter fun c=>names.any fun a=>has l c a
def below (l:Sys) (a:Nm):List Nm:=(nms l).filter fun c=>has l c a
end Go.Hr
namespace Go.Hr
open Go
variable {l:Sys}

/-! ## The order of lists -/
def lexLe (a b:List Nm):Prop:=lexLt b a=false
/-! ## Shortest ways are least -/
theorem way_head {to:Nm}:∀ {t:List Nm} {c:Nm},Way l to t c→∃ s,t=c::s
 | [x],c,h=>⟨[],by rw [h.1]⟩
 | x::y::t,c,h=>⟨y::t,by rw [h.1]⟩
theorem way_last {to:Nm}:∀ {t:List Nm} {c:Nm},Way l to t c→t.getLast? = some to
 | [x],c,h=>by simp [h.1,h.2]
 | x::y::t,c,⟨_,_,h⟩=>by rw [List.getLast?_cons_cons]; exact way_last h
/-! ## The specification's search -/
def lastN (w:List Nm):Nm:=w.getLastD []
def ins1:List (List Nm)→List Nm→List (List Nm)
 | [],one=>[one]
 | w::t,one=>if lastN w=lastN one then (if lexLt one w then one::t else w::t) else w::ins1 t one
def ext1 (l:Sys) (next:List (List Nm)) (w:List Nm):List (List Nm):=(par l (lastN w)).foldl (fun n p=>ins1 n (w++[p])) next
def expand (l:Sys) (lists:List (List Nm)):List (List Nm):=lists.foldl (ext1 l) []
def lsts (l:Sys) (c:Nm):Nat→List (List Nm)
 | 0=>[[c]]
 | k+1=>expand l (lsts l c k)
def hit (a:Nm) (lists:List (List Nm)):Option (List Nm):=lists.find? fun w=>lastN w == a
def further (l:Sys) (c a:Nm):List Nm:=(((List.range (l.length+1)).findSome? fun k=>hit a (lsts l c (k+1))).getD [])
def Ones (P:List Nm→Prop) (ls:List (List Nm)):Prop:=(∀ w∈ls,P w)∧(ls.map lastN).Nodup
def Cov (ls:List (List Nm)) (v:List Nm):Prop:=∃ w∈ls,lastN w=lastN v∧lexLe w v
end Go.Hr
namespace Go.Hr
open Go
variable {l:Sys}

/-! ## Ways by places -/
def Steps (l:Sys) (t:List Nm):Prop:=∀ (i:Nat) (a b:Nm),t[i]? = some a→t[i+1]? = some b→b∈par l a
theorem way_steps {to : Nm} : ∀ {t : List Nm} {c : Nm}, Way l to t c → Steps l t
 | [x],c,_,i,a,b,h1,h2=>by simp at h2
 | x::y::t,c,⟨h1,h2,h3⟩,i,a,b,g1,g2=>by
  cases i with
  | zero =>
   simp at g1 g2
   subst g1 g2 h1; exact h2
  | succ i=>exact way_steps h3 i a b (by simpa using g1) (by simpa using g2)
theorem steps_way {to:Nm}:∀ {t:List Nm} {c:Nm},Steps l t→t.head? = some c→t.getLast? = some to→Way l to t c
 | [],_,_,h,_=>by simp at h
 | [x],c,_,h1,h2=>by simp at h1 h2; exact ⟨h1,by rw [← h1]; exact h2⟩
 | x::y::t,c,hs,h1,h2=>by
  simp at h1
  subst h1
  exact ⟨rfl,hs 0 x y rfl rfl,steps_way (fun i a b g1 g2=>hs (i+1) a b (by simpa using g1) (by simpa using g2)) rfl (by rw [List.getLast?_cons_cons] at h2; exact h2)⟩

/-! ## Ways that are accepted -/
def wayOk (l:Sys) (c a:Nm) (t:List Nm):Bool :=
 t.head? == some c && t.getLast? == some a && (List.range (t.length - 1)).all fun i=>(par l (t.getD i [])).contains (t.getD (i+1) [])
theorem wayOk_iff {c a : Nm} {t : List Nm} : wayOk l c a t = true ↔ Way l a t c := by
 unfold wayOk
 simp only [Bool.and_eq_true,beq_iff_eq,List.all_eq_true,List.mem_range,List.contains_eq_mem,decide_eq_true_eq]
 constructor
 ·rintro ⟨⟨h1,h2⟩,h3⟩
  refine steps_way (fun i x y g1 g2=>?_) h1 h2
  have hlt:i+1<t.length:=(List.getElem?_eq_some_iff.1 g2).1
  have:=h3 i (by omega)
  rw [List.getD_eq_getElem?_getD,List.getD_eq_getElem?_getD,g1,g2] at this
  exact this
 ·intro h
  refine ⟨⟨?_,way_last h⟩,fun i hi=>?_⟩
  ·obtain ⟨s,rfl⟩:=way_head h; rfl
  ·have h1:t[i]? = some (t[i]'(by omega)):=List.getElem?_eq_getElem (by omega)
   have h2:t[i+1]? = some (t[i+1]'(by omega)):=List.getElem?_eq_getElem (by omega)
   rw [List.getD_eq_getElem?_getD,List.getD_eq_getElem?_getD,h1,h2]
   exact way_steps h i _ _ h1 h2
/-! ## Rings that are accepted -/
def ringOk (l:Sys) (r:List Nm):Bool :=
 !r.isEmpty && decide r.Nodup && (List.range r.length).all fun i=>(par l (r.getD i [])).contains (r.getD ((i+1) % r.length) [])
theorem getD_of {α : Type} {xs:List α} {i:Nat} (d : α) (h:i<xs.length):xs[i]? = some (xs.getD i d):=by
 rw [List.getD_eq_getElem?_getD,List.getElem?_eq_getElem h]; rfl
theorem ringOk_way {c : Nm} {s : List Nm} : ringOk l (c :: s) = true ↔ (c :: s).Nodup ∧ Way l c (c :: s ++ [c]) c := by
 unfold ringOk
 simp only [List.isEmpty_cons,Bool.not_false,Bool.true_and,Bool.and_eq_true,decide_eq_true_eq,List.all_eq_true,List.mem_range,List.contains_eq_mem]
 refine and_congr_right fun hn=>?_
 have hget:∀ i,i<(c::s).length→(c::s++[c])[i+1]? = some ((c::s).getD ((i+1) % (c::s).length) []):=fun i hi=>by
  rcases Nat.lt_or_ge (i+1) (c::s).length with h | h
  ·rw [Nat.mod_eq_of_lt h,List.getElem?_append_left h,getD_of [] h]
  ·have:i+1=(c::s).length:=by omega
   rw [this,Nat.mod_self,List.getElem?_append_right (Nat.le_refl _)]
   simp
 constructor
 ·intro h
  refine steps_way (fun i x y g1 g2=>?_) rfl List.getLast?_concat
  have hlt:i+1<(c::s++[c]).length:=(List.getElem?_eq_some_iff.1 g2).1
  have hi:i<(c::s).length:=by simp at hlt ⊢; omega
  rw [hget i hi] at g2
  rw [List.getElem?_append_left hi,getD_of [] hi] at g1
  cases g1; cases g2
  exact h i hi
 ·intro h i hi
  refine way_steps h i _ _ ?_ (hget i hi)
  rw [List.getElem?_append_left hi,getD_of [] hi]
theorem way_dropLast {to:Nm} {t:List Nm} {c:Nm} (h:Way l to t c):t=t.dropLast++[to]:=by
 have hne:t≠[]:=by obtain ⟨s,rfl⟩:=way_head h; simp
 have h1:=way_last h
 rw [List.getLast?_eq_some_getLast hne] at h1
 rw [← Option.some.inj h1]
 exact (List.dropLast_concat_getLast hne).symm
theorem way_path {to:Nm}:∀ {t:List Nm} {c:Nm},Way l to t c→Path l to t.dropLast c
 | [x],c,h=>by rw [← h.2]; rfl
 | x::y::t,c,⟨h1,h2,h3⟩=>by
  rw [List.dropLast_cons_cons]
  exact ⟨h1,y,h2,way_path h3⟩
theorem cand_ok {r : List Nm} (h : r ∈ cands l) : ringOk l r = true ∧ r.length ≤ l.length := by
 obtain ⟨c,_,h⟩:=List.mem_flatMap.1 h
 obtain ⟨p,hp,h⟩:=List.mem_filterMap.1 h
 unfold cand at h
 obtain ⟨k,hk,rfl⟩:=Option.map_eq_some_iff.1 h
 have hw:=short_way l c k p hk
 have hpath:=way_path hw
 have hlen:((short l c k p).dropLast).length=k:=by rw [List.length_dropLast,short_len]; omega
 have hmin:∀ j,j<((short l c k p).dropLast).length→W l c j p=false:=fun j hj=>(dist_some.1 hk).2 j (by omega)
 have hn1:=path_nodup hpath hmin
 have hc : c ∉ (short l c k p).dropLast := fun hm => by
  obtain ⟨i,hi,he⟩:=List.getElem_of_mem hm
  have : W l c i p = true := by
   have key:∀ (t:List Nm) (q:Nm) (i:Nat),Path l c t q→t[i]? = some c→W l c i q=true:=by
    intro t
    induction t with
    | nil=>intro q i _ h; simp at h
    | cons x t ih =>
     intro q i ⟨h1,p',h2,h3⟩ h4
     cases i with
     | zero=>simp at h4; simp [W,← h1,h4]
     | succ i=>exact W_succ.2 ⟨p',h2,ih p' i h3 (by simpa using h4)⟩
   exact key _ p i hpath (by rw [List.getElem?_eq_getElem hi,he])
  rw [hmin i hi] at this; cases this
 have hnd:(c::(short l c k p).dropLast).Nodup:=List.nodup_cons.2 ⟨hc,hn1⟩
 refine ⟨ringOk_way.2 ⟨hnd,?_⟩,?_⟩
 ·rw [List.cons_append,← way_dropLast hw]
  obtain ⟨s,hs⟩:=way_head hw
  rw [hs] at hw ⊢
  exact ⟨rfl,hp,hw⟩
 ·have:=length_le_of_nodup (b:=nms l) hnd fun x hx=>by
   rcases List.mem_cons.1 hx with rfl | hx
   ·exact isC_iff.1 (par_of hp)
   ·exact isC_iff.1 (path_isC hpath x hx)
  simpa [nms] using this
theorem ring_ok {r:List Nm} (h:ring l=some r):ringOk l r=true∧r.length≤l.length:=cand_ok (ring_mem h)
end Go.Hr
namespace Go.Hr
open Go
variable {l:Sys}
section
variable {α : Type}
def alook (F:List (Nm × α)) (k:Nm):Option α := (F.find? (·.1 == k)).map (·.2)
def aupd:List (Nm × α)→Nm → α → List (Nm × α)
 | [],k,v=>[(k,v)]
 | p::t,k,v=>if p.1=k then (k,v)::t else p::aupd t k v
theorem alook_cons {p:Nm × α} {t:List (Nm × α)} {k:Nm}:alook (p::t) k=if p.1=k then some p.2 else alook t k:=by
 by_cases h:p.1=k
 ·simp [alook,h]
 ·have:(p.1 == k)=false:=by simp [h]
  simp [alook,List.find?_cons,this,h]
theorem alook_upd (F : List (Nm × α)) (k k' : Nm) (v : α) : alook (aupd F k v) k' = if k' = k then some v else alook F k' := by
 induction F with
 | nil =>
  by_cases h:k'=k
  ·simp [aupd,alook_cons,h]
  ·have:¬ k=k':=fun e=>h e.symm
   simp [aupd,alook_cons,h,this]
 | cons p t ih =>
  unfold aupd
  by_cases hp:p.1=k
  ·rw [if_pos hp,alook_cons,alook_cons]
   by_cases h:k'=k
   ·simp [h]
   ·have:¬ k=k':=fun e=>h e.symm
    simp [h,this,hp]
  ·rw [if_neg hp,alook_cons,ih,alook_cons]
   by_cases h:p.1=k'
   ·have:¬ k'=k:=fun e=>hp (h.trans e)
    simp [h,this]
   ·simp [h]
theorem alook_mem {F:List (Nm × α)} {k:Nm} {v : α} (h:alook F k=some v):k∈F.map (·.1):=by
 unfold alook at h
 obtain ⟨p,hp,_⟩:=Option.map_eq_some_iff.1 h
 exact List.mem_map.2 ⟨p,List.mem_of_find?_eq_some hp,by simpa using List.find?_some hp⟩
theorem alook_none {F:List (Nm × α)} {k:Nm}:alook F k=none↔k ∉ F.map (·.1):=by
 simp only [alook,Option.map_eq_none_iff,List.find?_eq_none,List.mem_map,beq_iff_eq,not_exists,not_and]
theorem aupd_new {F : List (Nm × α)} {k : Nm} {v : α} (h : alook F k = none) : aupd F k v = F ++ [(k, v)] := by
 induction F with
 | nil=>rfl
 | cons p t ih =>
  rw [alook_cons] at h
  by_cases hp:p.1=k
  ·rw [if_pos hp] at h; cases h
  ·rw [if_neg hp] at h
   simp [aupd,hp,ih h]
theorem aupd_keys {F : List (Nm × α)} {k : Nm} {v v0 : α} (h : alook F k = some v0) : (aupd F k v).map (·.1) = F.map (·.1) := by
 induction F with
 | nil=>cases h
 | cons p t ih =>
  rw [alook_cons] at h
  unfold aupd
  by_cases hp:p.1=k
  ·rw [if_pos hp]; simp [hp]
  ·rw [if_neg hp] at h ⊢
   simp [ih h]
theorem aupd_sum {F : List (Nm × Nat)} {k : Nm} {v v0 : Nat} (h : alook F k = some v0) : ((aupd F k v).map (·.2)).sum + v0 = (F.map (·.2)).sum + v := by
 induction F with
 | nil=>cases h
 | cons p t ih =>
  rw [alook_cons] at h
  unfold aupd
  by_cases hp:p.1=k
  ·rw [if_pos hp] at h ⊢
   cases h
   simp only [List.map_cons,List.sum_cons]; omega
  ·rw [if_neg hp] at h ⊢
   have:=ih h
   simp only [List.map_cons,List.sum_cons]; omega
end
/-! ## Distances -/
structure FarI (l:Sys) (to:Nm) (F:List (Nm×Nat)):Prop where
 self:alook F to=some 0
 walk:∀ x n,alook F x=some n→W l to n x=true∧n<F.length
 keys:∀ x∈F.map (·.1),x=to∨x∈nms l
 nodup:(F.map (·.1)).Nodup
theorem FarI.init (l : Sys) (to : Nm) : FarI l to [(to, 0)] where
 self:=by simp [alook_cons]
 walk x n h:=by
  rw [alook_cons] at h
  split at h
  ·rename_i he
   cases h
   simp only at he
   exact ⟨by simp [W,he],by simp⟩
  ·cases h
 keys x h:=by simp at h; exact .inl h
 nodup:=by simp
theorem FarI.len {to:Nm} {F:List (Nm×Nat)} (h:FarI l to F):F.length≤l.length+1:=by
 have:=length_le_of_nodup (b:=to::nms l) h.nodup fun x hx=>by
  rcases h.keys x hx with rfl | h
  ·simp
  ·simp [h]
 simpa [nms] using this
def pot (l:Sys) (F:List (Nm×Nat)):Nat:=(l.length+1 - F.length) * (l.length+2)+(F.map (·.2)).sum
theorem FarI.better {to : Nm} {F : List (Nm × Nat)} (h : FarI l to F) {c p : Nm} {n : Nat} (hp : p ∈ par l c) (hn : alook F p = some n) (hb : ∀ n', alook F c = some n' → n + 1 < n') :
  FarI l to (aupd F c (n+1))∧pot l (aupd F c (n+1))<pot l F:=by
 obtain ⟨w1,w2⟩:=h.walk p n hn
 have hlen:=h.len
 have hcto:c≠to:=fun e=>by have:=hb 0 (by rw [e]; exact h.self); omega
 cases hc:alook F c with
 | none =>
  have he:=aupd_new (v:=n+1) hc
  have hk:c ∉ F.map (·.1):=alook_none.1 hc
  have hnd:((aupd F c (n+1)).map (·.1)).Nodup:=by
   rw [he,List.map_append]
   exact List.nodup_append.2 ⟨h.nodup,by simp,fun x hx y hy e=>by simp at hy; exact hk (hy ▸ e ▸ hx)⟩
  have hF : FarI l to (aupd F c (n + 1)) := {
   self:=by rw [alook_upd,if_neg (fun e=>hcto e.symm)]; exact h.self
   walk:=fun x m hx=>by
    rw [alook_upd] at hx
    have hl:(aupd F c (n+1)).length=F.length+1:=by rw [he]; simp
    split at hx
    ·rename_i hxc
     cases hx
     exact ⟨hxc ▸ W_succ.2 ⟨p,hp,w1⟩,by omega⟩
    ·have:=h.walk x m hx
     exact ⟨this.1,by omega⟩
   keys:=fun x hx=>by
    rw [he,List.map_append,List.mem_append] at hx
    rcases hx with hx | hx
    ·exact h.keys x hx
    ·simp at hx; rw [hx]; exact .inr (isC_iff.1 (par_of hp))
   nodup:=hnd }
  refine ⟨hF,?_⟩
  have h1:=hF.len
  unfold pot
  rw [he] at h1 ⊢
  simp only [List.length_append,List.length_singleton,List.map_append,List.map_cons,List.map_nil,List.sum_append,List.sum_cons,List.sum_nil] at h1 ⊢
  obtain ⟨d,hd⟩:∃ d,l.length+1 - F.length=d+1:=⟨l.length - F.length,by omega⟩
  rw [hd,show l.length+1 - (F.length+1)=d by omega,Nat.succ_mul]
  omega
 | some v0 =>
  have hk:=aupd_keys (v:=n+1) hc
  have hl:(aupd F c (n+1)).length=F.length:=by
   have:=congrArg List.length hk
   simpa using this
  have hlt:=hb v0 hc
  refine ⟨{
   self:=by rw [alook_upd,if_neg (fun e=>hcto e.symm)]; exact h.self
   walk:=fun x m hx=>by
    rw [alook_upd] at hx
    split at hx
    ·rename_i hxc
     cases hx
     have:=(h.walk c v0 hc).2
     exact ⟨hxc ▸ W_succ.2 ⟨p,hp,w1⟩,by omega⟩
    ·have:=h.walk x m hx
     exact ⟨this.1,by omega⟩
   keys:=fun x hx=>h.keys x (hk ▸ hx)
   nodup:=by rw [hk]; exact h.nodup },?_⟩
  have:=aupd_sum (v:=n+1) hc
  unfold pot
  rw [hl]
  omega
def Rel (F:List (Nm×Nat)) (c p:Nm):Prop:=∀ n,alook F p=some n→∃ n',alook F c=some n'∧n'≤n+1
theorem FarI.done {to : Nm} {F : List (Nm × Nat)} (h : FarI l to F) (hr : ∀ c p, p ∈ par l c → Rel F c p) (x : Nm) : alook F x = dist l to x := by
 have key:∀ k x,W l to k x=true→∃ n,n≤k∧alook F x=some n:=by
  intro k
  induction k with
  | zero=>intro x hx; exact ⟨0,Nat.le_refl _,by rw [show x=to by simpa [W] using hx]; exact h.self⟩
  | succ k ih =>
   intro x hx
   obtain ⟨p,hp,hw⟩:=W_succ.1 hx
   obtain ⟨n,h1,h2⟩:=ih p hw
   obtain ⟨n',h3,h4⟩:=hr x p hp n h2
   exact ⟨n',by omega,h3⟩
 cases hd:dist l to x with
 | none =>
  cases hx:alook F x with
  | none=>rfl
  | some n=>have:=(h.walk x n hx).1; rw [dist_none.1 hd n] at this; cases this
 | some k =>
  obtain ⟨h1,h2⟩:=dist_some.1 hd
  obtain ⟨n,h3,h4⟩:=key k x h1
  rw [h4]
  rcases Nat.lt_or_ge n k with h' | h'
  ·have:=(h.walk x n h4).1
   rw [h2 n h'] at this; cases this
  ·rw [show n=k by omega]
end Go.Hr
namespace Go.Hr
open Go
variable {l:Sys}
theorem check_limit (h:24<l.length):check l=(3,[]):=by unfold check; rw [if_pos h]
theorem check_alone (h:l.length≤24) {i:Nat} {x:Cls} (hx:l[i]? = some x) (hb:∀ (j:Nat) (y:Cls),j<i→l[j]? = some y→alone l j y=0) (hn:alone l i x≠0):check l=(alone l i x,x.name):=by
 have hf:(l.zipIdx.map fun q=>(alone l q.2 q.1,q.1.name)).find? (fun e=>e.1 != 0)=some (alone l i x,x.name):=by
  rw [List.find?_eq_some_iff_getElem]
  obtain ⟨hi,he⟩:=List.getElem?_eq_some_iff.1 hx
  refine ⟨by simpa using hn,i,by simpa using hi,by simp [he],fun j hj=>?_⟩
  have:=hb j _ hj (List.getElem?_eq_getElem (by omega))
  simp [this]
 unfold check
 rw [if_neg (by omega),hf]
theorem alone_all (hb:∀ (j:Nat) (y:Cls),l[j]? = some y→alone l j y=0):(l.zipIdx.map fun q=>(alone l q.2 q.1,q.1.name)).find? (fun e=>e.1 != 0)=none:=by
 rw [List.find?_eq_none]
 intro e he
 obtain ⟨⟨x,i⟩,hq,rfl⟩:=List.mem_map.1 he
 have:=hb i x (List.mem_zipIdx_iff_getElem?.1 hq)
 simp [this]
theorem check_lost (h:l.length≤24) (hb:∀ (j:Nat) (y:Cls),l[j]? = some y→alone l j y=0) {i:Nat} {x:Cls} (hx:l[i]? = some x) (hl:∀ (j:Nat) (y:Cls),j<i→l[j]? = some y→lost l y=false) (hn:lost l x=true):check l=(5,x.name):=by
 have hf:List.find? (lost l) l=some x:=by
  rw [List.find?_eq_some_iff_getElem]
  obtain ⟨hi,he⟩:=List.getElem?_eq_some_iff.1 hx
  exact ⟨hn,i,hi,he,fun j hj=>by rw [hl j _ hj (List.getElem?_eq_getElem (by omega))]; decide⟩
 unfold check
 rw [if_neg (by omega),alone_all hb]
 simp only [hf]
theorem lost_all (hl:∀ (j:Nat) (y:Cls),l[j]? = some y→lost l y=false):List.find? (lost l) l=none:=by
 rw [List.find?_eq_none]
 intro x hx
 obtain ⟨j,hj⟩:=List.getElem?_of_mem hx
 rw [hl j x hj]; decide
theorem check_ring (h:l.length≤24) (hb:∀ (j:Nat) (y:Cls),l[j]? = some y→alone l j y=0) (hl:∀ (j:Nat) (y:Cls),l[j]? = some y→lost l y=false) {r:List Nm} (hr:ring l=some r):check l=(7,r.headD []):=by
 unfold check
 rw [if_neg (by omega),alone_all hb]
 simp only [lost_all hl,hr]
theorem check_ok (h:l.length≤24) (hb:∀ (j:Nat) (y:Cls),l[j]? = some y→alone l j y=0) (hl:∀ (j:Nat) (y:Cls),l[j]? = some y→lost l y=false) (hr:ring l=none):check l=(0,[]):=by
 unfold check
 rw [if_neg (by omega),alone_all hb]
 simp only [lost_all hl,hr]
end Go.Hr
namespace Go.Hr
open Go
variable {l:Sys}
def nval (F:List (Nm×Nat)) (x:Nm):Nat:=(alook F x).getD 0
theorem nval_upd (F:List (Nm×Nat)) (k x:Nm) (n:Nat):nval (aupd F k n) x=if x=k then n else nval F x:=by
 unfold nval
 rw [alook_upd]
 split <;> rfl
def WaysI (l:Sys) (a:Nm) (o:List Nm) (F:List (Nm×Nat)):Prop:=∀ y,nval F y=if y∈o then ways l y a else if y=a then 1 else 0
def WaysK (l:Sys) (a:Nm) (o:List Nm) (x:Nm) (ps:List Nm) (F:List (Nm×Nat)):Prop:=∀ y,nval F y=if y=x then (if x=a then 1 else 0)+(ps.map fun p=>ways l p a).sum else if y∈o then ways l y a else if y=a then 1 else 0
theorem WaysI.init (l:Sys) (a:Nm):WaysI l a [] [(a,1)]:=fun y=>by
 unfold nval
 rw [alook_cons]
 by_cases h:a=y
 ·simp [h]
 ·rw [if_neg h]
  have:¬ y=a:=fun e=>h e.symm
  simp [this,alook]
theorem WaysK.next {a x p:Nm} {o ps:List Nm} {F:List (Nm×Nat)} (h:WaysK l a o x ps F) (hp:p∈o) (hx:x ∉ o):WaysK l a o x (ps++[p]) (aupd F x (nval F x+nval F p)):=fun y=>by
 have hpx:p≠x:=fun e=>hx (e ▸ hp)
 rw [nval_upd]
 by_cases hy:y=x
 ·subst hy
  rw [if_pos rfl,if_pos rfl,h y,if_pos rfl,h p,if_neg hpx,if_pos hp]
  simp; omega
 ·rw [if_neg hy,if_neg hy,h y,if_neg hy]
theorem WaysK.done (ha:Acyc l) {a x:Nm} {o:List Nm} {F:List (Nm×Nat)} (h:WaysK l a o x (par l x) F):WaysI l a (o++[x]) F:=fun y=>by
 rw [h y]
 by_cases hy:y=x
 ·subst hy
  rw [if_pos rfl,if_pos (show y∈o++[y] by simp),ways_rec ha]
 ·rw [if_neg hy]; simp [hy]
theorem WaysK.le (ha:Acyc l) {a x:Nm} {o ps:List Nm} {F:List (Nm×Nat)} (h:WaysK l a o x ps F) (hps:∀ p∈ps,p∈par l x) (hl:ps.length≤4) (h4:∀ c,(par l c).length≤4) (h24:l.length≤24) (y:Nm):nval F y≤1+4 * 4 ^ 24:=by
 have hb:∀ c,ways l c a≤4 ^ 24:=fun c=>Nat.le_trans (ways_le ha h4 a c) (Nat.pow_le_pow_right (by omega) (Nat.le_trans (rk_le l c) h24))
 rw [h y]
 split
 ·have h1:(ps.map fun p=>ways l p a).sum≤ps.length * 4 ^ 24:=sum_le fun p _=>hb p
  have h2:ps.length * 4 ^ 24≤4 * 4 ^ 24:=Nat.mul_le_mul_right _ hl
  split <;> omega
 ·split
  ·have:=hb y; omega
  ·split <;> omega
/-! ## Levels in a table -/
def LevI (l:Sys) (o:List Nm) (F:List (Nm×Nat)):Prop:=∀ y,nval F y=if y∈o then lv l y else 0
def LevK (l:Sys) (o:List Nm) (x:Nm) (ps:List Nm) (F:List (Nm×Nat)):Prop:=∀ y,nval F y=if y=x then mx (ps.map fun p=>lv l p+1) else if y∈o then lv l y else 0
theorem LevI.init (l:Sys):LevI l [] []:=fun y=>by simp [nval,alook]
theorem LevK.next {x p:Nm} {o ps:List Nm} {F:List (Nm×Nat)} (h:LevK l o x ps F) (hp:p∈o) (hx:x ∉ o):LevK l o x (ps++[p]) (aupd F x (max (nval F x) (nval F p+1))):=fun y=>by
 have hpx:p≠x:=fun e=>hx (e ▸ hp)
 rw [nval_upd]
 by_cases hy:y=x
 ·subst hy
  rw [if_pos rfl,if_pos rfl,h y,if_pos rfl,h p,if_neg hpx,if_pos hp,List.map_append,List.map_singleton,mx_snoc]
 ·rw [if_neg hy,if_neg hy,h y,if_neg hy]
theorem LevK.done (ha:Acyc l) {x:Nm} {o:List Nm} {F:List (Nm×Nat)} (h:LevK l o x (par l x) F):LevI l (o++[x]) F:=fun y=>by
 rw [h y]
 by_cases hy:y=x
 ·subst hy
  rw [if_pos rfl,if_pos (show y∈o++[y] by simp),lv_rec ha]
 ·rw [if_neg hy]; simp [hy]
theorem lv_24 (ha:Acyc l) (h24:l.length≤24) (c:Nm):lv l c≤24:=Nat.le_trans (lv_le ha c) (Nat.le_trans (rk_le l c) h24)
theorem LevK.le (ha : Acyc l) {x : Nm} {o ps : List Nm} {F : List (Nm × Nat)} (h : LevK l o x ps F) (h24 : l.length ≤ 24) (y : Nm) : nval F y ≤ 25 := by
 rw [h y]
 split
 ·exact mx_le fun z hz=>by
   obtain ⟨p,_,rfl⟩:=List.mem_map.1 hz
   have:=lv_24 ha h24 p
   omega
 ·split
  ·have:=lv_24 ha h24 y; omega
  ·omega
end Go.Hr
namespace Go.Hr
open Go
def addE (l:Sys) (x:Cls):Int:=if (check l).1=0 then (check (l++[x])).1 else (check l).1
def rest (l:Sys) (c:Nm):Sys:=l.filter fun x=>x.name != c
def used (l:Sys) (c:Nm):Bool:=l.any fun x=>x.parents.contains c
section
variable {l:Sys} {x:Cls} {c:Nm}
theorem Right.new (h:Right (l++[x])):x.name ∉ nms l:=by
 have:=h.uniq
 unfold nms at this
 rw [List.map_append,List.nodup_append] at this
 exact fun hx=>this.2.2 _ hx x.name (by simp) rfl
end
end Go.Hr
namespace Go.Hr
open Go
variable {l:Sys}
def ringLe (a b:List Nm):Prop:=ringLt b a=false
def fcand (l:Sys) (c:Nm):Option (List Nm):=if further l c c=[] then none else some (further l c c).dropLast
def ringF (l:Sys) (cs:List Nm):Option (List Nm):=(cs.filterMap (fcand l)).foldl better none
end Go.Hr
