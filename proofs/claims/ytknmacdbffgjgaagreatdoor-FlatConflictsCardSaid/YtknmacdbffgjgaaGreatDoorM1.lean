/-
  Systems of classes as plain data: places in an order,levels one behind the other. No program in sight.
-/
import Derived.ProofKit
set_option linter.unusedVariables false
set_option linter.unusedSimpArgs false
set_option maxRecDepth 100000
set_option maxHeartbeats 16000000
namespace Go.Hr
open Go
abbrev Nm:=List UInt8
structure Cls where
 name:Nm
 parents:List Nm
 feats:Nat
 deriving DecidableEq
abbrev Sys:=List Cls

/-! ## The order of names -/
abbrev lt (a b:Nm):Bool:=Op.bytesLess a b
theorem lt_irrefl:∀ a:Nm,lt a a=false
 | []=>rfl
 | a::t=>by
  have:=lt_irrefl t
  simp only [lt] at this
  simp [Op.bytesLess,this]
theorem lt_trans:∀ {a b c:Nm},lt a b=true→lt b c=true→lt a c=true
 | _,_,[],_,h2=>by simp [Op.bytesLess] at h2
 | _,[],_::_,h1,_=>by simp [Op.bytesLess] at h1
 | [],_::_,_::_,_,_=>rfl
 | a::x,b::y,c::z,h1,h2=>by
  simp only [lt,Op.bytesLess,Bool.or_eq_true,Bool.and_eq_true,decide_eq_true_eq,beq_iff_eq] at h1 h2 ⊢
  rcases h1 with h1 | ⟨h1,h3⟩ <;> rcases h2 with h2 | ⟨h2,h4⟩
  ·exact .inl (UInt8.lt_trans h1 h2)
  ·exact .inl (h2 ▸ h1)
  ·exact .inl (h1 ▸ h2)
  ·exact .inr ⟨h1.trans h2,lt_trans h3 h4⟩
theorem dP : ∀ a b : Nm, lt a b = true ∨ a = b ∨ lt b a = true
 | [],[]=>.inr (.inl rfl)
 | [],_::_=>.inl rfl
 | _::_,[]=>.inr (.inr rfl)
 | a::x,b::y=>by
  simp only [lt,Op.bytesLess,Bool.or_eq_true,Bool.and_eq_true,decide_eq_true_eq,beq_iff_eq]
  rcases Nat.lt_trichotomy a.toNat b.toNat with h | h | h
  ·exact .inl (.inl h)
  ·have hab:a=b:=UInt8.toNat_inj.1 h
   subst hab
   rcases dP x y with h | h | h
   ·exact .inl (.inr ⟨rfl,h⟩)
   ·exact .inr (.inl (by rw [h]))
   ·exact .inr (.inr (.inr ⟨rfl,h⟩))
  ·exact .inr (.inr (.inl h))
theorem iB {a b:Nm} (h:lt a b=true):lt b a=false:=by
 cases h2:lt b a with
 | false=>rfl
 | true=>have:=lt_trans h h2; rw [lt_irrefl] at this; cases this
theorem lt_eq {a b:Nm} (h1:lt a b=false) (h2:lt b a=false):a=b:=by
 rcases dP a b with h | h | h
 ·rw [h1] at h; cases h
 ·exact h
 ·rw [h2] at h; cases h
def jc:List Nm→Nm
 | []=>[]
 | [a]=>a
 | a::b::t=>if lt (jc (b::t)) a then jc (b::t) else a
theorem um:∀ {l:List Nm},l≠[]→jc l∈l
 | [a],_=>by simp [jc]
 | a::b::t,_=>by
  unfold jc
  split
  ·exact List.mem_cons_of_mem _ (um (by simp))
  ·simp
theorem Jf : ∀ {l : List Nm} {x : Nm}, x ∈ l → lt x (jc l) = false
 | [a],x,h=>by simp at h; subst h; exact lt_irrefl _
 | a :: b :: t, x, h => by
  unfold jc
  have ih:=fun x => @Jf (b::t) x
  split
  ·rename_i hm
   rcases List.mem_cons.1 h with rfl | h
   ·exact iB hm
   ·exact ih x h
  ·rename_i hm
   rcases List.mem_cons.1 h with rfl | h
   ·exact lt_irrefl _
   ·cases hx:lt x a with
    | false=>rfl
    | true =>
     have h1:=ih x h
     have hm':lt (jc (b::t)) a=false:=by simpa using hm
     rcases dP x (jc (b::t)) with h2 | h2 | h2
     ·rw [h1] at h2; cases h2
     ·rw [h2] at hx; rw [hm'] at hx; cases hx
     ·rw [lt_trans h2 hx] at hm'; cases hm'
theorem Ko {l:List Nm} {x:Nm} (h1:x∈l) (h2:∀ y∈l,lt y x=false):jc l=x :=
 lt_eq (h2 _ (um (List.ne_nil_of_mem h1))) (Jf h1)

/-! ## Classes and parents -/
def find (l:Sys) (c:Nm):Option Cls:=List.find? (fun x=>x.name == c) l
def isC (l:Sys) (c:Nm):Bool:=(find l c).isSome
def pars (l:Sys) (c:Nm):List Nm:=((find l c).map (·.parents)).getD []
def par (l:Sys) (c:Nm):List Nm:=(pars l c).filter (isC l)
def nms (l:Sys):List Nm:=l.map (·.name)
theorem rf {l:Sys} {c:Nm} {x:Cls} (h:find l c=some x):x.name=c∧x∈l:=⟨by simpa using List.find?_some h,List.mem_of_find?_eq_some h⟩
theorem fD {l:Sys} {c:Nm}:isC l c=true↔c∈nms l:=by
 unfold isC find nms
 rw [List.find?_isSome,List.mem_map]
 exact ⟨fun ⟨x,h1,h2⟩=>⟨x,h1,by simpa using h2⟩,fun ⟨x,h1,h2⟩=>⟨x,h1,by simpa using h2⟩⟩
theorem lW {l:Sys} {c p:Nm} (h:p∈par l c):isC l p=true:=(List.mem_filter.1 h).2
theorem r9 {l:Sys} {c p:Nm} (h:p∈par l c):isC l c=true:=by
 have h1:=(List.mem_filter.1 h).1
 unfold pars at h1
 unfold isC
 cases hf:find l c with
 | none=>rw [hf] at h1; simp at h1
 | some x=>rfl

/-! ## Walks -/
def W (l:Sys) (to:Nm):Nat→Nm→Bool
 | 0,c=>c == to
 | k+1,c=>(par l c).any (W l to k)
theorem gF {l:Sys} {to c:Nm} {k:Nat}:W l to (k+1) c=true↔∃ p∈par l c,W l to k p=true:=by
 simp [W]
theorem W_add {l:Sys} {a b c:Nm}:∀ {j k:Nat},W l b j c=true→W l a k b=true→W l a (j+k) c=true
 | 0,k,h1,h2=>by
  have:c=b:=by simpa [W] using h1
  rw [this,Nat.zero_add]; exact h2
 | j+1,k,h1,h2=>by
  obtain ⟨p,hp,h3⟩:=gF.1 h1
  rw [show j+1+k=(j+k)+1 by omega]
  exact gF.2 ⟨p,hp,W_add h3 h2⟩
def Path (l:Sys) (to:Nm):List Nm→Nm→Prop
 | [],c=>c=to
 | x::t,c=>x=c∧∃ p∈par l c,Path l to t p
theorem Md {l:Sys} {to:Nm}:∀ {t:List Nm} {c:Nm},Path l to t c→W l to t.length c=true
 | [],c,h=>by have:c=to:=h; simp [W,this]
 | x::t,c,h=>by
  obtain ⟨_,p,hp,h⟩:=h
  exact gF.2 ⟨p,hp,Md h⟩
theorem Me {l:Sys} {to:Nm}:∀ {k:Nat} {c:Nm},W l to k c=true→∃ t,t.length=k∧Path l to t c
 | 0,c,h=>⟨[],rfl,(by simpa [W] using h:c=to)⟩
 | k+1,c,h=>by
  obtain ⟨p,hp,h⟩:=gF.1 h
  obtain ⟨t,h1,h2⟩:=Me h
  exact ⟨c::t,by simp [h1],rfl,p,hp,h2⟩
theorem zw {l:Sys} {to:Nm}:∀ {t:List Nm} {c:Nm},Path l to t c→∀ x∈t,isC l x=true
 | x::t,c,⟨h1,p,hp,h⟩,y,hy=>by
  rcases List.mem_cons.1 hy with rfl | hy
  ·rw [h1]; exact r9 hp
  ·exact zw h y hy
theorem Eu {l : Sys} {to : Nm} : ∀ {t : List Nm} {c : Nm}, Path l to t c → ∀ x ∈ t, ∃ k, k ≤ t.length ∧ 1 ≤ k ∧ W l to k x = true ∧ (x = c ∨ k < t.length)
 | x::t,c,h,y,hy=>by
  rcases List.mem_cons.1 hy with rfl | hy
  ·exact ⟨t.length+1,by simp,by omega,by have:=Md h; obtain ⟨h1,_⟩:=h; rw [h1]; simpa using this,.inl h.1⟩
  ·obtain ⟨h1,p,hp,h⟩:=h
   obtain ⟨k,h2,h3,h4,_⟩:=Eu h y hy
   exact ⟨k,by simp; omega,h3,h4,.inr (by simp; omega)⟩
theorem aP {α : Type} [DecidableEq α]:∀ {a b:List α},a.Nodup→(∀ x∈a,x∈b)→a.length≤b.length
 | [],_,_,_=>by simp
 | x::t,b,h,hs=>by
  rw [List.nodup_cons] at h
  have h1:x∈b:=hs x (by simp)
  have h2:=aP (a:=t) (b:=b.erase x) h.2 fun y hy=>(List.mem_erase_of_ne (fun e=>h.1 (by rw [← e]; exact hy))).2 (hs y (by simp [hy]))
  rw [List.length_erase_of_mem h1] at h2
  have:=List.length_pos_of_mem h1
  simp; omega
theorem si {l : Sys} {to : Nm} : ∀ {t : List Nm} {c : Nm}, Path l to t c → (∀ j, j < t.length → W l to j c = false) → t.Nodup
 | [],_,_,_=>List.nodup_nil
 | x :: t, c, h, hm => by
  obtain ⟨rfl,p,hp,h⟩:=id h
  refine List.nodup_cons.2 ⟨fun hx=>?_,si h fun j hj=>?_⟩
  ·obtain ⟨k,h1,h2,h3,h4⟩:=Eu h x hx
   have:=hm k (by simp; omega)
   rw [h3] at this; cases this
  ·cases hw:W l to j p with
   | false=>rfl
   | true =>
    have:=hm (j+1) (by simp; omega)
    rw [gF.2 ⟨p,hp,hw⟩] at this; cases this
theorem Jg {l:Sys} {to c:Nm}:∀ {k:Nat},W l to k c=true→∃ j,j≤k∧j≤l.length∧W l to j c=true∧∀ i,i<j→W l to i c=false:=by
 intro k
 induction k using Nat.strongRecOn with
 | _ k ih =>
  intro h
  by_cases hm:∀ i,i<k→W l to i c=false
  ·obtain ⟨t,h1,h2⟩:=Me h
   have h3:=si h2 (by rw [h1]; exact hm)
   have h4:=aP (b:=nms l) h3 fun x hx=>fD.1 (zw h2 x hx)
   refine ⟨k,Nat.le_refl _,?_,h,hm⟩
   rw [← h1]; simpa [nms] using h4
  ·have : ∃ i, i < k ∧ W l to i c = true := by
    apply Classical.byContradiction
    intro hn
    exact hm fun i hi=>by
     cases hw:W l to i c with
     | false=>rfl
     | true=>exact absurd ⟨i,hi,hw⟩ hn
   obtain ⟨i,hi,hw⟩:=this
   obtain ⟨j,h1,h2,h3⟩:=ih i hi hw
   exact ⟨j,by omega,h2,h3⟩
def gP (l:Sys) (to c:Nm):Option Nat:=(List.range (l.length+1)).find? fun k=>W l to k c
theorem ic {l:Sys} {to c:Nm} {k:Nat}:gP l to c=some k↔W l to k c=true∧∀ i,i<k→W l to i c=false:=by
 unfold gP
 constructor
 ·intro h
  rw [List.find?_range_eq_some] at h
  exact ⟨h.1,fun i hi=>by simpa using h.2.2 i hi⟩
 ·rintro ⟨h1,h2⟩
  obtain ⟨j,h3,h4,h5,h6⟩:=Jg h1
  have:j=k:=by
   rcases Nat.lt_or_ge j k with h | h
   ·rw [h2 j h] at h5; cases h5
   ·omega
  subst this
  rw [List.find?_range_eq_some]
  exact ⟨h1,by simp; omega,fun i hi=>by simpa using h2 i hi⟩
theorem Bz {l:Sys} {to c:Nm}:gP l to c=none↔∀ k,W l to k c=false:=by
 constructor
 ·intro h k
  cases hw:W l to k c with
  | false=>rfl
  | true =>
   obtain ⟨j,_,_,h3,h4⟩:=Jg hw
   rw [ic.2 ⟨h3,h4⟩] at h; cases h
 ·intro h
  cases hd:gP l to c with
  | none=>rfl
  | some k=>have:=(ic.1 hd).1; rw [h k] at this; cases this
def has (l:Sys) (c a:Nm):Bool:=(gP l a c).isSome
theorem fU {l:Sys} {c a:Nm}:has l c a=true↔∃ k,W l a k c=true:=by
 unfold has
 cases hd:gP l a c with
 | none=>simp [Bz.1 hd]
 | some k=>simp; exact ⟨k,(ic.1 hd).1⟩
theorem mX (l:Sys) (c:Nm):has l c c=true:=fU.2 ⟨0,by simp [W]⟩
theorem mY {l:Sys} {a b c:Nm} (h1:has l a b=true) (h2:has l b c=true):has l a c=true:=by
 obtain ⟨j,h1⟩:=fU.1 h1
 obtain ⟨k,h2⟩:=fU.1 h2
 exact fU.2 ⟨j+k,W_add h1 h2⟩
theorem rq {l:Sys} {c p:Nm} (h:p∈par l c):has l c p=true:=fU.2 ⟨1,gF.2 ⟨p,h,by simp [W]⟩⟩
theorem wL {l:Sys} {c a:Nm} (h:has l c a=true):c=a∨∃ p∈par l c,has l p a=true:=by
 obtain ⟨k,h⟩:=fU.1 h
 cases k with
 | zero=>exact .inl (by simpa [W] using h)
 | succ k =>
  obtain ⟨p,hp,h⟩:=gF.1 h
  exact .inr ⟨p,hp,fU.2 ⟨k,h⟩⟩
theorem W_isC {l:Sys} {a:Nm}:∀ {k:Nat} {c:Nm},isC l c=true→W l a k c=true→isC l a=true
 | 0,c,hc,h=>by
  have:c=a:=by simpa [W] using h
  rw [← this]; exact hc
 | k+1,c,_,h=>by
  obtain ⟨p,hp,h⟩:=gF.1 h
  exact W_isC (lW hp) h
theorem uq {l:Sys} {c a:Nm} (hc:isC l c=true) (h:has l c a=true):isC l a=true:=by
 obtain ⟨k,h⟩:=fU.1 h
 exact W_isC hc h

/-! ## Without rings -/
def gz (l:Sys):Prop:=∀ c p,p∈par l c→has l p c=false
def rk (l:Sys) (c:Nm):Nat:=(nms l).countP fun a=>has l c a
theorem qh (l:Sys) (c:Nm):rk l c≤l.length:=by
 have:=List.countP_le_length (p:=fun a=>has l c a) (l:=nms l)
 simpa [rk,nms] using this
theorem BA {α : Type} {p q : α → Bool} : ∀ {l : List α} {x : α}, x ∈ l → (∀ y, p y = true → q y = true) → p x = false → q x = true → l.countP p < l.countP q
 | y::t,x,hx,hpq,h1,h2=>by
  have hle:t.countP p≤t.countP q:=List.countP_mono_left fun z _ hz=>hpq z hz
  rcases List.mem_cons.1 hx with rfl | hx
  ·rw [List.countP_cons,List.countP_cons,h1,h2]; simp; omega
  ·have ih:=BA hx hpq h1 h2
   rw [List.countP_cons,List.countP_cons]
   cases hy:p y with
   | false=>simp; cases q y <;> simp <;> omega
   | true=>rw [hpq y hy]; simp; omega
theorem il {l:Sys} (ha:gz l) {c p:Nm} (h:p∈par l c):rk l p<rk l c :=
 BA (fD.1 (r9 h)) (fun _ hy=>mY (rq h) hy) (ha c p h) (mX l c)
theorem W_rk {l:Sys} (ha:gz l) {a:Nm}:∀ {k:Nat} {c:Nm},W l a k c=true→c=a∨rk l a<rk l c
 | 0,c,h=>.inl (by simpa [W] using h)
 | k+1,c,h=>by
  obtain ⟨p,hp,h⟩:=gF.1 h
  have:=il ha hp
  rcases W_rk ha h with rfl | h
  ·exact .inr this
  ·exact .inr (by omega)
theorem has_rk {l:Sys} (ha:gz l) {c a:Nm} (h:has l c a=true):c=a∨rk l a<rk l c:=by
 obtain ⟨k,h⟩:=fU.1 h
 exact W_rk ha h
variable {l:Sys}

/-! ## Lists without doubles -/
def step (o:List Nm) (x:Nm):List Nm:=if o.contains x then o else o++[x]
def dd (o xs:List Nm):List Nm:=xs.foldl step o
theorem Mf {o:List Nm} {x y:Nm}:y∈step o x↔y∈o∨y=x:=by
 unfold step
 split
 ·rename_i h
  have h:x∈o:=by simpa using h
  exact ⟨.inl,fun h'=>h'.elim id (fun e=>e ▸ h)⟩
 ·simp
theorem zx:∀ {xs o:List Nm} {y:Nm},y∈dd o xs↔y∈o∨y∈xs
 | [],o,y=>by simp [dd]
 | x::t,o,y=>by
  show y∈dd (step o x) t↔_
  rw [zx,Mf,List.mem_cons,or_assoc]
theorem kX {o:List Nm} {x:Nm} (h:x∈o):step o x=o:=by simp [step,h]
theorem mZ {o:List Nm} {x:Nm} (h:x ∉ o):step o x=o++[x]:=by simp [step,h]
theorem ru (o xs:List Nm) (x:Nm):dd o (xs++[x])=step (dd o xs) x:=by simp [dd]
theorem Mg {o:List Nm}:∀ {xs:List Nm},(∀ x∈xs,x∈o)→dd o xs=o
 | [],_=>rfl
 | x::t,h=>by
  show dd (step o x) t=o
  rw [kX (h x (by simp))]
  exact Mg fun y hy=>h y (by simp [hy])
theorem Ev (a b:List Nm):∀ (n:Nat) (c:List Nm),c.length=n→dd (dd a b) c=dd a (dd b c)
 | 0,c,h=>by rw [List.eq_nil_of_length_eq_zero h]; rfl
 | n+1,c,h=>by
  have hne:c≠[]:=by intro e; rw [e] at h; cases h
  obtain ⟨d,x,rfl⟩:∃ d x,c=d++[x]:=⟨c.dropLast,c.getLast hne,(List.dropLast_concat_getLast hne).symm⟩
  have ih:=Ev a b n d (by simpa using h)
  rw [ru,ru,ih]
  by_cases hx:x∈dd b d
  ·rw [kX hx,kX (zx.2 (.inr hx))]
  ·rw [mZ hx,ru]
/-! ## Each behind its own ancestors -/
inductive Tp (l:Sys):List Nm→Prop
 | nil:Tp l []
 | snoc {o:List Nm} {c:Nm}:Tp l o→c ∉ o→(∀ p∈par l c,p∈o)→Tp l (o++[c])
theorem Tp.nodup {o:List Nm} (h:Tp l o):o.Nodup:=by
 induction h with
 | nil=>exact List.nodup_nil
 | snoc _ hn _ ih=>exact List.nodup_append.2 ⟨ih,by simp,fun x hx y hy e=>by simp at hy; exact hn (hy ▸ e ▸ hx)⟩
theorem Tp.par {o:List Nm} (h:Tp l o) {c p:Nm} (hc:c∈o) (hp:p∈Hr.par l c):p∈o:=by
 induction h with
 | nil=>cases hc
 | snoc _ _ hs ih =>
  rcases List.mem_append.1 hc with hc | hc
  ·exact List.mem_append_left _ (ih hc)
  ·simp at hc
   subst hc
   exact List.mem_append_left _ (hs p hp)
theorem Tp.has {o:List Nm} (h:Tp l o) {c a:Nm} (hc:c∈o) (ha:Hr.has l c a=true):a∈o:=by
  obtain ⟨k,ha⟩:=fU.1 ha
  induction k generalizing c with
  | zero => have : c = a := by simpa [W] using ha
            exact this ▸ hc
  | succ k ih =>
    obtain ⟨p,hp,h'⟩:=gF.1 ha
    exact ih (h.par hc hp) (fU.2 ⟨k,h'⟩) h'
theorem Tp.ahead {o:List Nm} (h:Tp l o):∀ (i j:Nat) (hi:i<j) (hj:j<o.length),Hr.has l (o[i]'(by omega)) o[j]=false:=by
 induction h with
 | nil=>intro i j hi hj; simp at hj
 | @snoc o c ht hn _ ih =>
  intro i j hi hj
  simp only [List.length_append,List.length_singleton] at hj
  rcases Nat.lt_or_ge j o.length with hjo | hjo
  ·have:=ih i j hi hjo
   rw [List.getElem_append_left (by omega),List.getElem_append_left hjo]
   exact this
  ·have hje:j=o.length:=by omega
   subst hje
   rw [List.getElem_append_left (by omega),List.getElem_append_right (Nat.le_refl _)]
   simp only [Nat.sub_self,List.getElem_singleton]
   cases hh:Hr.has l o[i] c with
   | false=>rfl
   | true=>exact absurd (ht.has (List.getElem_mem _) hh) hn

/-! ## The search -/
def vis (l:Sys):Nat→List Nm→Nm→List Nm
 | 0,o,_=>o
 | f+1,o,c=>if o.contains c then o else (par l c).foldl (vis l f) o++[c]
def above (l:Sys) (c:Nm):List Nm:=vis l (l.length+1) [] c
theorem jO (ha : gz l) : ∀ (f : Nat) (c : Nm) (o : List Nm), rk l c < f → Tp l o → Tp l (vis l f o c) ∧ ∀ x, x ∈ vis l f o c ↔ x ∈ o ∨ has l c x = true
 | 0,c,o,h,_=>by omega
 | f + 1, c, o, h, ho => by
  unfold vis
  split
  ·rename_i hc
   have hc:c∈o:=by simpa using hc
   exact ⟨ho,fun x=>⟨.inl,fun hx=>hx.elim id fun hx=>ho.has hc hx⟩⟩
  ·rename_i hc
   have hc:c ∉ o:=by simpa using hc
   have key:∀ (ps:List Nm) (o:List Nm),(∀ p∈ps,p∈par l c)→Tp l o→Tp l (ps.foldl (vis l f) o)∧∀ x,x∈ps.foldl (vis l f) o↔x∈o∨∃ p∈ps,has l p x=true:=by
    intro ps
    induction ps with
    | nil=>intro o _ ho; exact ⟨ho,fun x=>by simp⟩
    | cons p t ih =>
     intro o hp ho
     obtain ⟨h1,h2⟩:=jO ha f p o (by have:=il ha (hp p (by simp)); omega) ho
     obtain ⟨h3,h4⟩:=ih (vis l f o p) (fun q hq=>hp q (by simp [hq])) h1
     refine ⟨h3,fun x=>?_⟩
     rw [List.foldl_cons,h4,h2]
     simp only [List.mem_cons,exists_eq_or_imp,or_assoc]
   obtain ⟨h1,h2⟩:=key (par l c) o (fun _ h=>h) ho
   refine ⟨h1.snoc (fun hm=>?_) fun p hp=>(h2 p).2 (.inr ⟨p,hp,mX l p⟩),fun x=>?_⟩
   ·rcases (h2 c).1 hm with hm | ⟨p,hp,hm⟩
    ·exact hc hm
    ·rw [ha c p hp] at hm; cases hm
   ·rw [List.mem_append, h2]
    constructor
    ·rintro ((h | ⟨p,hp,h⟩) | h)
     ·exact .inl h
     ·exact .inr (mY (rq hp) h)
     ·simp at h; rw [h]; exact .inr (mX l c)
    ·rintro (h | h)
     ·exact .inl (.inl h)
     ·rcases wL h with rfl | ⟨p,hp,h⟩
      ·exact .inr (by simp)
      ·exact .inl (.inr ⟨p,hp,h⟩)
theorem Ew (ha : gz l) : ∀ (f g : Nat) (c : Nm) (o : List Nm), rk l c < f → rk l c < g → vis l f o c = vis l g o c
 | 0,_,_,_,h,_=>by omega
 | _,0,_,_,_,h=>by omega
 | f + 1, g + 1, c, o, hf, hg => by
  unfold vis
  split
  ·rfl
  ·have key : ∀ (ps : List Nm) (o : List Nm), (∀ p ∈ ps, p ∈ par l c) → ps.foldl (vis l f) o = ps.foldl (vis l g) o := by
    intro ps
    induction ps with
    | nil=>intros; rfl
    | cons p t ih =>
     intro o hp
     have:=il ha (hp p (by simp))
     rw [List.foldl_cons,List.foldl_cons,Ew ha f g p o (by omega) (by omega)]
     exact ih _ fun q hq=>hp q (by simp [hq])
   rw [key _ o fun _ h=>h]
theorem Mh (ha : gz l) : ∀ (f : Nat) (c : Nm) (o : List Nm), rk l c < f → Tp l o → vis l f o c = dd o (vis l f [] c)
 | 0,c,o,h,_=>by omega
 | f + 1, c, o, h, ho => by
  by_cases hc:c∈o
  ·have h1:vis l (f+1) o c=o:=by unfold vis; rw [if_pos (by simpa using hc)]
   rw [h1,Mg]
   intro x hx
   have:=((jO ha (f+1) c [] h .nil).2 x).1 hx
   exact ho.has hc (this.elim (fun h=>by cases h) id)
  ·have key : ∀ (ps : List Nm) (o : List Nm), (∀ p ∈ ps, p ∈ par l c) → Tp l o → ps.foldl (vis l f) o = dd o (ps.foldl (vis l f) []) := by
    intro ps
    induction ps with
    | nil=>intro o _ _; rfl
    | cons p t ih =>
     intro o hp ho
     have hr:rk l p<f:=by have:=il ha (hp p (by simp)); omega
     have ht:∀ q∈t,q∈par l c:=fun q hq=>hp q (by simp [hq])
     have s1:=(jO ha f p o hr ho).1
     have s2:=(jO ha f p [] hr .nil).1
     rw [List.foldl_cons,List.foldl_cons,ih _ ht s1,ih _ ht s2,← Ev _ _ _ _ rfl,← Mh ha f p o hr ho]
   have k1:=key (par l c) o (fun _ h=>h) ho
   have h1:vis l (f+1) o c=(par l c).foldl (vis l f) o++[c]:=by rw [vis,if_neg (by simpa using hc)]
   have h2:vis l (f+1) [] c=(par l c).foldl (vis l f) []++[c]:=by rw [vis,if_neg (by simp)]
   rw [h1,h2,ru,← k1,mZ]
   intro hm
   have hn:=(jO ha (f+1) c o h ho).1.nodup
   rw [h1] at hn
   exact (List.nodup_append.1 hn).2.2 c hm c (by simp) rfl
theorem ut (l:Sys) (c:Nm):rk l c<l.length+1:=by have:=qh l c; omega
theorem iI (ha:gz l) (c:Nm):Tp l (above l c)∧∀ x,x∈above l c↔has l c x=true:=by
 obtain ⟨h1,h2⟩:=jO ha (l.length+1) c [] (ut l c) .nil
 exact ⟨h1,fun x=>by rw [above,h2]; simp⟩
theorem wM (ha:gz l) (c:Nm):above l c=(par l c).foldl (fun o p=>dd o (above l p)) []++[c]:=by
 have h2:above l c=(par l c).foldl (vis l l.length) []++[c]:=by
  unfold above
  rw [vis,if_neg (by simp)]
 have key:∀ (ps:List Nm) (o:List Nm),(∀ p∈ps,p∈par l c)→Tp l o→ps.foldl (vis l l.length) o=ps.foldl (fun o p=>dd o (above l p)) o:=by
  intro ps
  induction ps with
  | nil=>intros; rfl
  | cons p t ih =>
   intro o hp ho
   have hr:rk l p<l.length:=by have:=il ha (hp p (by simp)); have:=qh l c; omega
   have e1:vis l l.length o p=dd o (above l p):=by rw [Mh ha _ _ _ hr ho,Ew ha l.length (l.length+1) p [] hr (ut l p)]; rfl
   rw [List.foldl_cons,List.foldl_cons,ih _ (fun q hq=>hp q (by simp [hq])) (jO ha _ p o hr ho).1,e1]
 rw [h2,key _ _ (fun _ h=>h) .nil]
theorem GU (ha:gz l) (c:Nm):∃ o,above l c=o++[c]:=⟨_,wM ha c⟩
variable {l:Sys}

/-! ## How many ways -/
def nW (l:Sys) (a:Nm):Nat→Nm→Nat
 | 0,_=>0
 | f+1,c=>(if c=a then 1 else 0)+((par l c).map (nW l a f)).sum
def ways (l:Sys) (c a:Nm):Nat:=nW l a (l.length+1) c
theorem Jh (ha:gz l) (a:Nm):∀ (f g:Nat) (c:Nm),rk l c<f→rk l c<g→nW l a f c=nW l a g c
 | 0,_,_,h,_=>by omega
 | _,0,_,_,h=>by omega
 | f+1,g+1,c,hf,hg=>by
  unfold nW
  rw [List.map_congr_left fun p hp=>Jh ha a f g p (by have:=il ha hp; omega) (by have:=il ha hp; omega)]
theorem uu (ha:gz l) (c a:Nm):ways l c a=(if c=a then 1 else 0)+((par l c).map fun p=>ways l p a).sum:=by
 unfold ways
 rw [nW,List.map_congr_left fun p hp=>Jh ha a l.length (l.length+1) p (by have:=il ha hp; have:=qh l c; omega) (ut l p)]
theorem yZ {α : Type} {f : α → Nat}:∀ {xs:List α},0<(xs.map f).sum↔∃ x∈xs,0<f x
 | []=>by simp
 | x::t=>by
  rw [List.map_cons,List.sum_cons]
  simp only [List.mem_cons,exists_eq_or_imp]
  rw [← yZ (xs:=t)]
  omega
theorem nZ (ha:gz l) {P:Nm→Prop} (h:∀ c,(∀ p∈par l c,P p)→P c):∀ c,P c:=by
 have key:∀ n c,rk l c<n→P c:=by
  intro n
  induction n with
  | zero=>intro c hc; omega
  | succ n ih=>intro c hc; exact h c fun p hp=>ih p (by have:=il ha hp; omega)
 exact fun c=>key _ c (Nat.lt_succ_self _)
theorem Mi (ha : gz l) (a : Nm) : ∀ c, 0 < ways l c a ↔ has l c a = true :=
 nZ ha fun c ih => by
  rw [uu ha]
  constructor
  ·intro h
   by_cases hc:c=a
   ·rw [hc]; exact mX l a
   ·rw [if_neg hc,Nat.zero_add,yZ] at h
    obtain ⟨p,hp,h⟩:=h
    exact mY (rq hp) ((ih p hp).1 h)
  ·intro h
   rcases wL h with rfl | ⟨p,hp,h⟩
   ·rw [if_pos rfl]; omega
   ·have:0<((par l c).map fun p=>ways l p a).sum:=yZ.2 ⟨p,hp,(ih p hp).2 h⟩
    omega
theorem Kq (ha:gz l) (a:Nm):ways l a a=1:=by
 rw [uu ha,if_pos rfl]
 have:¬ 0<((par l a).map fun p=>ways l p a).sum:=fun h=>by
  obtain ⟨p,hp,h⟩:=yZ.1 h
  have:=(Mi ha a p).1 h
  rw [ha a p hp] at this; cases this
 omega
theorem GV {α : Type} {f : α → Nat} {k:Nat}:∀ {xs:List α},(∀ x∈xs,f x≤k)→(xs.map f).sum≤xs.length * k
 | [],_=>by simp
 | x::t,h=>by
  have:=GV (f:=f) (xs:=t) fun y hy=>h y (by simp [hy])
  have:=h x (by simp)
  rw [List.map_cons,List.sum_cons,List.length_cons,Nat.succ_mul]
  omega
theorem ways_le (ha : gz l) (hp : ∀ c, (par l c).length ≤ 4) (a : Nm) : ∀ c, ways l c a ≤ 4 ^ rk l c :=
 nZ ha fun c ih => by
  by_cases hc:c=a
  ·rw [hc,Kq ha]; exact Nat.pow_pos (by omega)
  ·rw [uu ha,if_neg hc,Nat.zero_add]
   cases hr:rk l c with
   | zero =>
    have:par l c=[]:=List.eq_nil_iff_forall_not_mem.2 fun p hp=>by have:=il ha hp; omega
    rw [this]; simp
   | succ n =>
    have h1:=GV (f:=fun p=>ways l p a) (k:=4 ^ n) (xs:=par l c) fun p hp=>Nat.le_trans (ih p hp) (Nat.pow_le_pow_right (by omega) (by have:=il ha hp; omega))
    have h2:=Nat.mul_le_mul_right (4 ^ n) (hp c)
    rw [Nat.pow_succ]
    omega

/-! ## Levels -/
def mx (xs:List Nat):Nat:=xs.foldl max 0
theorem Kr (a:Nat):∀ xs:List Nat,xs.foldl max a=max a (mx xs):=by
 intro xs
 unfold mx
 induction xs generalizing a with
 | nil=>simp
 | cons x t ih=>rw [List.foldl_cons,ih,List.foldl_cons,ih (max 0 x)]; omega
theorem mx_snoc (xs:List Nat) (x:Nat):mx (xs++[x])=max (mx xs) x:=by simp [mx,List.foldl_append]
theorem mx_cons (xs:List Nat) (x:Nat):mx (x::xs)=max x (mx xs):=by rw [mx,List.foldl_cons,Kr]; omega
theorem Mj:∀ {xs:List Nat},0<mx xs→mx xs∈xs
 | [],h=>by simp [mx] at h
 | y::t,h=>by
  rw [mx_cons] at h ⊢
  by_cases hy:mx t≤y
  ·rw [Nat.max_eq_left hy]; simp
  ·rw [Nat.max_eq_right (by omega)]; exact List.mem_cons_of_mem _ (Mj (by omega))
theorem mx_le {xs:List Nat} {k:Nat} (h:∀ x∈xs,x≤k):mx xs≤k:=by
 rcases Nat.eq_zero_or_pos (mx xs) with h0 | h0
 ·omega
 ·exact h _ (Mj h0)
def lvf (l:Sys):Nat→Nm→Nat
 | 0,_=>0
 | f+1,c=>mx ((par l c).map fun p=>lvf l f p+1)
def lv (l:Sys) (c:Nm):Nat:=lvf l (l.length+1) c
theorem Ey (ha:gz l):∀ (f g:Nat) (c:Nm),rk l c<f→rk l c<g→lvf l f c=lvf l g c
 | 0,_,_,h,_=>by omega
 | _,0,_,_,h=>by omega
 | f+1,g+1,c,hf,hg=>by
  unfold lvf
  rw [List.map_congr_left fun p hp=>by rw [Ey ha f g p (by have:=il ha hp; omega) (by have:=il ha hp; omega)]]
theorem Mk (ha:gz l) (c:Nm):lv l c=mx ((par l c).map fun p=>lv l p+1):=by
 unfold lv
 rw [lvf,List.map_congr_left fun p hp=>by rw [Ey ha l.length (l.length+1) p (by have:=il ha hp; have:=qh l c; omega) (ut l p)]]
theorem lv_le (ha:gz l):∀ c,lv l c≤rk l c :=
 nZ ha fun c ih=>by
  rw [Mk ha c]
  refine mx_le fun x hx=>?_
  obtain ⟨p,hp,rfl⟩:=List.mem_map.1 hx
  have:=ih p hp
  have:=il ha hp
  omega
/-! ## The order of all -/
def opn (l:Sys) (o:List Nm) (c:Nm):Bool := !o.contains c && (par l c).all o.contains
def jA (l:Sys):Nat→List Nm
 | 0=>[]
 | k+1=>jA l k++[jc ((nms l).filter (opn l (jA l k)))]
def order (l:Sys):List Nm:=jA l l.length
theorem Ji {o:List Nm} {c:Nm}:opn l o c=true↔c ∉ o∧∀ p∈par l c,p∈o:=by simp [opn]
theorem qi (l:Sys):∀ k,(jA l k).length=k
 | 0=>rfl
 | k+1=>by simp [jA,qi l k]
theorem Ez (ha : gz l) {o : List Nm} : ∀ c, isC l c = true → c ∉ o → ∃ x ∈ nms l, opn l o x = true :=
 nZ ha fun c ih=>by
 intro hc hn
 by_cases h:∀ p∈par l c,p∈o
 ·exact ⟨c,fD.1 hc,Ji.2 ⟨hn,h⟩⟩
 ·obtain ⟨p,hp,h⟩:∃ p,p∈par l c∧p ∉ o:=by
   apply Classical.byContradiction
   intro hh
   exact h fun p hp=>Classical.byContradiction fun hq=>hh ⟨p,hp,hq⟩
  exact ih p hp (lW hp) h
theorem wN (ha : gz l) (hu : (nms l).Nodup) : ∀ k, k ≤ l.length → Tp l (jA l k) ∧ ∀ x ∈ jA l k, x ∈ nms l
 | 0,_=>⟨.nil,fun x h=>by simp [jA] at h⟩
 | k+1,hk=>by
  obtain ⟨h1,h2⟩:=wN ha hu k (by omega)
  have hex:∃ c,c∈nms l∧c ∉ jA l k:=by
   apply Classical.byContradiction
   intro hh
   have:=aP (b:=jA l k) hu fun x hx=>Classical.byContradiction fun hq=>hh ⟨x,hx,hq⟩
   rw [qi] at this
   simp [nms] at this
   omega
  obtain ⟨c,hc,hn⟩:=hex
  obtain ⟨x,hx,hox⟩:=Ez ha c (fD.2 hc) hn
  have hm:=um (l:=(nms l).filter (opn l (jA l k))) (List.ne_nil_of_mem (List.mem_filter.2 ⟨hx,hox⟩))
  obtain ⟨m1,m2⟩:=List.mem_filter.1 hm
  obtain ⟨m3,m4⟩:=Ji.1 m2
  refine ⟨h1.snoc m3 m4,fun y hy=>?_⟩
  rcases List.mem_append.1 hy with hy | hy
  ·exact h2 y hy
  ·simp at hy; rw [hy]; exact m1
theorem Ku (ha:gz l) (hu:(nms l).Nodup) {k:Nat} (hk:k<l.length):(nms l).filter (opn l (jA l k))≠[]:=by
 have h2:=(wN ha hu k (by omega)).2
 have hex:∃ c,c∈nms l∧c ∉ jA l k:=by
  apply Classical.byContradiction
  intro hh
  have:=aP (b:=jA l k) hu fun x hx=>Classical.byContradiction fun hq=>hh ⟨x,hx,hq⟩
  rw [qi] at this
  simp [nms] at this
  omega
 obtain ⟨c,hc,hn⟩:=hex
 obtain ⟨x,hx,hox⟩:=Ez ha c (fD.2 hc) hn
 exact List.ne_nil_of_mem (List.mem_filter.2 ⟨hx,hox⟩)
theorem wO {α : Type} [DecidableEq α] {a b:List α} (ha:a.Nodup) (hs:∀ x∈a,x∈b) (hl:b.length≤a.length):∀ x∈b,x∈a:=by
 intro x hx
 apply Classical.byContradiction
 intro hn
 have:=aP (a:=x::a) (b:=b) (List.nodup_cons.2 ⟨hn,ha⟩) fun y hy=>by
  rcases List.mem_cons.1 hy with rfl | hy
  ·exact hx
  ·exact hs y hy
 simp at this
 omega
theorem iJ (ha:gz l) (hu:(nms l).Nodup):Tp l (order l)∧∀ x,x∈order l↔x∈nms l:=by
 obtain ⟨h1,h2⟩:=wN ha hu l.length (Nat.le_refl _)
 exact ⟨h1,fun x=>⟨h2 x,wO h1.nodup h2 (by rw [qi]; simp [nms]) x⟩⟩
variable {l:Sys}

/-! ## Names in order, each once -/
def Srt (xs:List Nm):Prop:=xs.Pairwise fun a b=>lt a b=true
def put:List Nm→Nm→List Nm
 | [],x=>[x]
 | y::t,x=>if lt y x then y::put t x else if y=x then y::t else x::y::t
def srt (xs:List Nm):List Nm:=xs.foldl put []
theorem Dh : ∀ {o : List Nm} {x y : Nm}, y ∈ put o x ↔ y ∈ o ∨ y = x
 | [],x,y=>by simp [put]
 | z :: t, x, y => by
  unfold put
  split
  ·rw [List.mem_cons,Dh,List.mem_cons,or_assoc]
  ·split
   ·rename_i h; subst h
    exact ⟨.inl,fun h=>h.elim id fun h=>h ▸ List.mem_cons_self⟩
   ·simp only [List.mem_cons]
    exact ⟨fun h=>h.elim .inr .inl,fun h=>h.elim .inr .inl⟩
theorem Jj : ∀ {o : List Nm} {x : Nm}, Srt o → Srt (put o x)
 | [],x,_=>by simp [put,Srt]
 | z :: t, x, h => by
  obtain ⟨h1,h2⟩:=List.pairwise_cons.1 h
  unfold put
  split
  ·rename_i hz
   refine List.pairwise_cons.2 ⟨fun y hy=>?_,Jj h2⟩
   rcases Dh.1 hy with hy | rfl
   ·exact h1 y hy
   ·exact hz
  ·rename_i hz
   split
   ·exact h
   ·rename_i hne
    have hx:lt x z=true:=by
     rcases dP x z with h | h | h
     ·exact h
     ·exact absurd h.symm hne
     ·exact absurd h hz
    refine List.pairwise_cons.2 ⟨fun y hy=>?_,h⟩
    rcases List.mem_cons.1 hy with rfl | hy
    ·exact hx
    ·exact lt_trans hx (h1 y hy)
theorem iC (xs:List Nm):Srt (srt xs)∧∀ y,y∈srt xs↔y∈xs:=by
 have key:∀ (xs o:List Nm),Srt o→Srt (xs.foldl put o)∧∀ y,y∈xs.foldl put o↔y∈o∨y∈xs:=by
  intro xs
  induction xs with
  | nil=>intro o h; exact ⟨h,fun y=>by simp⟩
  | cons x t ih =>
   intro o h
   obtain ⟨h1,h2⟩:=ih (put o x) (Jj h)
   refine ⟨h1,fun y=>?_⟩
   rw [List.foldl_cons,h2,Dh,List.mem_cons,or_assoc]
 obtain ⟨h1,h2⟩:=key xs [] List.Pairwise.nil
 exact ⟨h1,fun y=>by rw [srt,h2]; simp⟩
theorem Srt.ext : ∀ {a b : List Nm}, Srt a → Srt b → (∀ x, x ∈ a ↔ x ∈ b) → a = b
 | [],[],_,_,_=>rfl
 | [],y::t,_,_,h=>by have:=(h y).2 (by simp); simp at this
 | x::s,[],_,_,h=>by have:=(h x).1 (by simp); simp at this
 | x :: s, y :: t, ha, hb, h => by
  obtain ⟨a1,a2⟩:=List.pairwise_cons.1 ha
  obtain ⟨b1,b2⟩:=List.pairwise_cons.1 hb
  have hxy:x=y:=by
   rcases List.mem_cons.1 ((h x).1 (by simp)) with h1 | h1
   ·exact h1
   ·rcases List.mem_cons.1 ((h y).2 (by simp)) with h2 | h2
    ·exact h2.symm
    ·have:=lt_trans (a1 y h2) (b1 x h1); rw [lt_irrefl] at this; cases this
  subst hxy
  rw [Srt.ext a2 b2 fun z=>?_]
  constructor
  ·intro hz
   rcases List.mem_cons.1 ((h z).1 (by simp [hz])) with rfl | h1
   ·have:=a1 z hz; rw [lt_irrefl] at this; cases this
   ·exact h1
  ·intro hz
   rcases List.mem_cons.1 ((h z).2 (by simp [hz])) with rfl | h1
   ·have:=b1 z hz; rw [lt_irrefl] at this; cases this
   ·exact h1
theorem Srt.nodup {a:List Nm} (h:Srt a):a.Nodup:=h.imp fun hab e=>by rw [e,lt_irrefl] at hab; cases hab
theorem srt_eq {a b:List Nm} (hn:a.Nodup) (h:a.Pairwise fun x y=>lt y x=false) (hm:∀ x,x∈a↔x∈b):a=srt b:=by
 have hs:Srt a:=by
  clear hm
  induction a with
  | nil=>exact List.Pairwise.nil
  | cons x t ih =>
   obtain ⟨h1,h2⟩:=List.pairwise_cons.1 h
   obtain ⟨n1,n2⟩:=List.nodup_cons.1 hn
   refine List.pairwise_cons.2 ⟨fun y hy=>?_,ih n2 h2⟩
   rcases dP x y with h | h | h
   ·exact h
   ·exact absurd (h ▸ hy) n1
   ·rw [h1 y hy] at h; cases h
 exact hs.ext (iC b).1 fun x=>by rw [hm,(iC b).2]

/-! ## Levels -/
def row (l:Sys) (o:List Nm) (n:Nat):List Nm:=o.filter fun c=>lv l c == n
def high (l:Sys) (o:List Nm):Nat:=mx (o.map fun c=>lv l c+1)
def rows (l:Sys) (o:List Nm):List (List Nm):=(List.range (high l o)).map (row l o)
def levels (l:Sys):List (List Nm):=(List.range (high l (nms l))).map fun n=>srt (row l (nms l) n)
/-! ## Least common ancestors -/
def common (l:Sys) (a b:Nm):List Nm:=(above l a).filter fun c=>has l b c
def lowest (l:Sys) (cs:List Nm) (c:Nm):Bool := !cs.any fun d=>d != c && has l d c
def least (l:Sys) (a b:Nm):List Nm:=srt ((common l a b).filter (lowest l (common l a b)))
variable {l:Sys}

/-! ## Shortest ways -/
def nexts (l:Sys) (to:Nm) (k:Nat) (c:Nm):List Nm:=(par l c).filter fun p=>gP l to p == some k
def short (l:Sys) (to:Nm):Nat→Nm→List Nm
 | 0,c=>[c]
 | k+1,c=>c::short l to k (jc (nexts l to k c))
theorem fE (l:Sys) (to:Nm):∀ k c,(short l to k c).length=k+1
 | 0,_=>rfl
 | k+1,c=>by rw [short,List.length_cons,fE l to k]
theorem EA {to c:Nm} {k:Nat} (h:gP l to c=some (k+1)):nexts l to k c≠[]:=by
 obtain ⟨h1,h2⟩:=ic.1 h
 obtain ⟨p,hp,h3⟩:=gF.1 h1
 refine List.ne_nil_of_mem (List.mem_filter.2 ⟨hp,?_⟩)
 simp only [beq_iff_eq]
 refine ic.2 ⟨h3,fun i hi=>?_⟩
 cases hw:W l to i p with
 | false=>rfl
 | true =>
  have:=h2 (i+1) (by omega)
  rw [gF.2 ⟨p,hp,hw⟩] at this; cases this
theorem BB {to c:Nm} {k:Nat} (h:gP l to c=some (k+1)):jc (nexts l to k c)∈par l c∧gP l to (jc (nexts l to k c))=some k:=by
 obtain ⟨h1,h2⟩:=List.mem_filter.1 (um (EA h))
 have h3:(gP l to (jc (nexts l to k c)) == some k)=true:=h2
 exact ⟨h1,beq_iff_eq.1 h3⟩
def Way (l:Sys) (to:Nm):List Nm→Nm→Prop
 | [],_=>False
 | [x],c=>x=c∧c=to
 | x::y::t,c=>x=c∧y∈par l c∧Way l to (y::t) y
theorem BC (l : Sys) (to : Nm) : ∀ k c, gP l to c = some k → Way l to (short l to k c) c
 | 0,c,h=>by
  have:=(ic.1 h).1
  exact ⟨rfl,by simpa [W] using this⟩
 | k + 1, c, h => by
  obtain ⟨h1,h2⟩:=BB h
  have ih:=BC l to k _ h2
  rw [short]
  cases hs:short l to k (jc (nexts l to k c)) with
  | nil=>have:=fE l to k (jc (nexts l to k c)); rw [hs] at this; cases this
  | cons y t =>
   have hy:y=jc (nexts l to k c):=by
    cases k with
    | zero=>rw [short] at hs; cases hs; rfl
    | succ k=>rw [short] at hs; cases hs; rfl
   rw [hs,← hy] at ih
   exact ⟨rfl,hy ▸ h1,ih⟩
/-! ## Rings -/
def BD:List Nm→List Nm→Bool
 | _,[]=>false
 | [],_::_=>true
 | a::x,b::y=>lt a b || (a == b && BD x y)
def zz (a b:List Nm):Bool:=decide (a.length<b.length) || (decide (a.length=b.length) && BD a b)
def better (b:Option (List Nm)) (r:List Nm):Option (List Nm):=
 match b with
 | none=>some r
 | some q=>if zz r q then some r else some q
def pV (l:Sys) (c p:Nm):Option (List Nm):=(gP l c p).map fun k=>c::(short l c k p).dropLast
def zA (l:Sys):List (List Nm):=(nms l).flatMap fun c=>(par l c).filterMap (pV l c)
def ring (l:Sys):Option (List Nm):=(zA l).foldl better none
theorem lX : ∀ (rs : List (List Nm)) (b : Option (List Nm)), (rs.foldl better b = none ↔ b = none ∧ rs = []) ∧ ∀ r, rs.foldl better b = some r → b = some r ∨ r ∈ rs
 | [],b=>by simp
 | r :: t, b => by
  have hb:better b r≠none:=by cases b <;> simp [better]; split <;> simp
  obtain ⟨h1,h2⟩:=lX t (better b r)
  rw [List.foldl_cons]
  refine ⟨by rw [h1]; simp [hb],fun q hq=>?_⟩
  rcases h2 q hq with h | h
  ·cases b with
   | none=>simp [better] at h; exact .inr (by simp [h])
   | some z =>
    simp only [better] at h
    split at h
    ·simp at h; exact .inr (by simp [h])
    ·exact .inl h
  ·exact .inr (by simp [h])
theorem Kv:zA l=[]↔gz l:=by
 unfold zA
 rw [List.flatMap_eq_nil_iff]
 constructor
 ·intro h c p hp
  have h1:=List.filterMap_eq_nil_iff.1 (h c (fD.1 (r9 hp))) p hp
  unfold pV at h1
  unfold has
  cases hd:gP l c p with
  | none=>rfl
  | some k=>rw [hd] at h1; cases h1
 ·intro h c _
  refine List.filterMap_eq_nil_iff.2 fun p hp=>?_
  have:=h c p hp
  unfold has at this
  unfold pV
  cases hd:gP l c p with
  | none=>rfl
  | some k=>rw [hd] at this; cases this
theorem BF:ring l=none↔gz l:=by
 unfold ring
 rw [(lX _ _).1,Kv]
 simp
theorem Ml {r:List Nm} (h:ring l=some r):r∈zA l:=((lX _ _).2 r h).resolve_left (by simp)

/-! ## Right systems -/
def upper (b:UInt8):Bool:=decide (65≤b.toNat) && decide (b.toNat≤90)
def digit (b:UInt8):Bool:=decide (48≤b.toNat) && decide (b.toNat≤57)
def reserved : List Nm := ["INTEGER".toUTF8.data.toList, "BOOLEAN".toUTF8.data.toList, "ANY".toUTF8.data.toList, "NONE".toUTF8.data.toList]
def named (s:Nm):Bool:=match s with
 | []=>false
 | b::_=>decide (s.length≤20) && upper b && s.all (fun b=>upper b || digit b || b.toNat == 95) && !reserved.contains s
def idx (l:Sys) (c:Nm):Option Nat:=l.findIdx? fun x=>x.name == c
def alone (l:Sys) (i:Nat) (x:Cls):Int :=
 if 4<x.parents.length then 3 else if named x.name=false then 4 else if idx l x.name≠some i∨¬ x.parents.Nodup then 6 else 0
def lost (l:Sys) (x:Cls):Bool:=x.parents.any fun p => !isC l p
def check (l : Sys) : Int × Nm :=
 if 24<l.length then (3,[]) else
 match (l.zipIdx.map fun q=>(alone l q.2 q.1,q.1.name)).find? fun e=>e.1 != 0 with
 | some e=>e
 | none =>
  match List.find? (lost l) l with
  | some x=>(5,x.name)
  | none=>match ring l with
   | some r=>(7,r.headD [])
   | none=>(0,[])
structure Right (l:Sys):Prop where
 len:l.length≤24
 few:∀ x∈l,x.parents.length≤4
 nam:∀ x∈l,named x.name=true
 uniq:(nms l).Nodup
 once:∀ x∈l,x.parents.Nodup
 all:∀ x∈l,∀ p∈x.parents,isC l p=true
 acyc:gz l
theorem gQ {i:Nat} {x:Cls}:alone l i x=0↔x.parents.length≤4∧named x.name=true∧idx l x.name=some i∧x.parents.Nodup:=by
 unfold alone
 split
 ·rename_i h; simp; omega
 ·rename_i h
  split
  ·rename_i h2; simp [h2]
  ·rename_i h2
   have h2:named x.name=true:=by simpa using h2
   split
   ·rename_i h3
    simp only [h2,true_and]
    constructor
    ·intro h; cases h
    ·rintro ⟨_,h4,h5⟩; exact absurd h3 (by simp [h4,h5])
   ·rename_i h3
    have h3:=not_or.1 h3
    exact ⟨fun _=>⟨by omega,h2,Classical.not_not.1 h3.1,Classical.not_not.1 h3.2⟩,fun _=>rfl⟩
theorem EB:(∀ (i:Nat) (x:Cls),l[i]? = some x→idx l x.name=some i)↔(nms l).Nodup:=by
 constructor
 ·intro h
  unfold nms
  rw [List.nodup_iff_pairwise_ne,List.pairwise_iff_getElem]
  intro i j hi hj hij
  simp only [List.length_map] at hi hj
  rw [List.getElem_map,List.getElem_map]
  intro e
  have h1:=h i _ (List.getElem?_eq_getElem hi)
  have h2:=h j _ (List.getElem?_eq_getElem hj)
  rw [e,h2] at h1
  cases h1; omega
 ·intro h i x hx
  obtain ⟨hi,he⟩:=List.getElem?_eq_some_iff.1 hx
  unfold idx
  rw [List.findIdx?_eq_some_iff_getElem]
  refine ⟨hi,by simp [he],fun j hj=>?_⟩
  have:=(List.pairwise_iff_getElem.1 (List.nodup_iff_pairwise_ne.1 h)) j i (by simp [nms]; omega) (by simp [nms]; omega) hj
  simp only [nms,List.getElem_map] at this
  simp only [beq_iff_eq,Bool.not_eq_true]
  simpa [he] using this
theorem oh:(check l).1=0↔Right l:=by
 unfold check
 split
 ·rename_i h
  exact ⟨fun h=>(by cases h),fun h'=>by have:=h'.len; omega⟩
 ·rename_i h
  split
  ·rename_i e he
   have h1:=List.find?_some he
   have h2:=List.mem_of_find?_eq_some he
   obtain ⟨⟨x,i⟩,hq,rfl⟩:=List.mem_map.1 h2
   simp only [bne_iff_ne,ne_eq] at h1
   refine ⟨fun h=>absurd h h1,fun hr=>absurd (gQ.2 ?_) h1⟩
   have hx:=List.mem_zipIdx_iff_getElem?.1 hq
   have hm:x∈l:=List.mem_of_getElem? hx
   exact ⟨hr.few x hm,hr.nam x hm,EB.2 hr.uniq i x hx,hr.once x hm⟩
  ·rename_i h1
   rw [List.find?_eq_none] at h1
   have h2:∀ (i:Nat) (x:Cls),l[i]? = some x→alone l i x=0:=fun i x hx=>by
    have:=h1 _ (List.mem_map.2 ⟨(x,i),List.mem_zipIdx_iff_getElem?.2 hx,rfl⟩)
    simpa using this
   split
   ·rename_i x hx
    refine ⟨fun h=>(by cases h),fun hr=>?_⟩
    have h3:=List.find?_some hx
    have h4:=List.mem_of_find?_eq_some hx
    obtain ⟨p,hp,h5⟩:=List.any_eq_true.1 h3
    rw [hr.all x h4 p hp] at h5; cases h5
   ·rename_i hx
    rw [List.find?_eq_none] at hx
    split
    ·rename_i r hr
     refine ⟨fun h=>(by cases h),fun h'=>?_⟩
     rw [BF.2 h'.acyc] at hr; cases hr
    ·rename_i hr
     refine ⟨fun _=>?_,fun _=>rfl⟩
     have h3:∀ x∈l,∃ i,l[i]? = some x:=fun x hx=>List.getElem?_of_mem hx
     refine ⟨by omega,fun x hx=>?_,fun x hx=>?_,EB.1 fun i x hi=>(gQ.1 (h2 i x hi)).2.2.1,fun x hx=>?_,fun x hxm p hp=>?_,BF.1 hr⟩
     ·obtain ⟨i,hi⟩:=h3 x hx; exact (gQ.1 (h2 i x hi)).1
     ·obtain ⟨i,hi⟩:=h3 x hx; exact (gQ.1 (h2 i x hi)).2.1
     ·obtain ⟨i,hi⟩:=h3 x hx; exact (gQ.1 (h2 i x hi)).2.2.2
     ·have:=hx x hxm
      unfold lost at this
      rw [List.any_eq_true] at this
      cases hc:isC l p with
      | true=>rfl
      | false=>exact absurd ⟨p,hp,by rw [hc]; rfl⟩ this
theorem Right.pars_eq (h:Right l) (c:Nm):pars l c=par l c:=by
 unfold par
 symm
 rw [List.filter_eq_self]
 intro p hp
 unfold pars at hp
 cases hf:find l c with
 | none=>rw [hf] at hp; simp at hp
 | some x=>rw [hf] at hp; exact h.all x (rf hf).2 p hp
variable {l:Sys}

/-! ## Needless links -/
def spare (l:Sys) (c p:Nm):Bool:=(par l c).any fun q=>q != p && has l q p
def Mm (l:Sys):List (Nm×Nm):=(nms l).flatMap fun c=>((par l c).filter (spare l c)).map fun p=>(c,p)
/-! ## Without some links -/
def cut (l:Sys) (gone:List (Nm×Nm)):Sys:=l.map fun x=>{ name:=x.name,parents:=x.parents.filter fun p => !gone.contains (x.name,p),feats:=0 }
theorem Jk (gone:List (Nm×Nm)):nms (cut l gone)=nms l:=by simp [nms,cut]
theorem Jl (gone:List (Nm×Nm)) (c:Nm):isC (cut l gone) c=isC l c:=by
 rw [Bool.eq_iff_iff,fD,fD,Jk]
theorem Mo (gone:List (Nm×Nm)) (c:Nm):find (cut l gone) c=(find l c).map fun x=>{ name:=x.name,parents:=x.parents.filter fun p => !gone.contains (x.name,p),feats:=0 }:=by
 unfold find cut
 rw [List.find?_map]
 rfl
theorem yg {gone:List (Nm×Nm)} {c p:Nm}:p∈par (cut l gone) c↔p∈par l c∧(c,p) ∉ gone:=by
 unfold par pars
 rw [Mo]
 cases hf:find l c with
 | none=>simp
 | some x =>
  have hx:=(rf hf).1
  subst hx
  simp only [Option.map_some,Option.getD_some,List.mem_filter,Jl]
  simp only [Bool.not_eq_true',List.contains_eq_mem,decide_eq_false_iff_not]
  exact ⟨fun ⟨⟨a,b⟩,d⟩=>⟨⟨a,d⟩,b⟩,fun ⟨⟨a,d⟩,b⟩=>⟨⟨a,b⟩,d⟩⟩
theorem W_cut {gone:List (Nm×Nm)} {to:Nm}:∀ {k:Nat} {c:Nm},W (cut l gone) to k c=true→W l to k c=true
 | 0,_,h=>h
 | k+1,c,h=>by
  obtain ⟨p,hp,h⟩:=gF.1 h
  exact gF.2 ⟨p,(yg.1 hp).1,W_cut h⟩
theorem has_cut {gone:List (Nm×Nm)} {c a:Nm} (h:has (cut l gone) c a=true):has l c a=true:=by
 obtain ⟨k,h⟩:=fU.1 h
 exact fU.2 ⟨k,W_cut h⟩
theorem Right.cut (h : Right l) (gone : List (Nm × Nm)) : Right (cut l gone) where
 len:=by simp [Hr.cut]; exact h.len
 few x hx:=by
  obtain ⟨y,hy,rfl⟩:=List.mem_map.1 hx
  exact Nat.le_trans (List.length_filter_le _ _) (h.few y hy)
 nam x hx:=by
  obtain ⟨y,hy,rfl⟩:=List.mem_map.1 hx
  exact h.nam y hy
 uniq:=by rw [Jk]; exact h.uniq
 once x hx:=by
  obtain ⟨y,hy,rfl⟩:=List.mem_map.1 hx
  exact List.Nodup.sublist List.filter_sublist (h.once y hy)
 all x hx p hp:=by
  obtain ⟨y,hy,rfl⟩:=List.mem_map.1 hx
  rw [Jl]
  exact h.all y hy p (List.mem_filter.1 hp).1
 acyc c p hp:=by
  cases hh:has (Hr.cut l gone) p c with
  | false=>rfl
  | true =>
   have:=has_cut hh
   rw [h.acyc c p (yg.1 hp).1] at this; cases this
/-! ## What is touched -/
def touched (l:Sys) (names:List Nm):List Nm:=(nms l).filter fun c=>names.any fun a=>has l c a
def below (l:Sys) (a:Nm):List Nm:=(nms l).filter fun c=>has l c a
variable {l:Sys}

/-! ## The order of lists -/
def lexLe (a b:List Nm):Prop:=BD b a=false
/-! ## Shortest ways are least -/
theorem EC {to:Nm}:∀ {t:List Nm} {c:Nm},Way l to t c→∃ s,t=c::s
 | [x],c,h=>⟨[],by rw [h.1]⟩
 | x::y::t,c,h=>⟨y::t,by rw [h.1]⟩
theorem ED {to:Nm}:∀ {t:List Nm} {c:Nm},Way l to t c→t.getLast? = some to
 | [x],c,h=>by simp [h.1,h.2]
 | x::y::t,c,⟨_,_,h⟩=>by rw [List.getLast?_cons_cons]; exact ED h
/-! ## The specification's search -/
def zB (w:List Nm):Nm:=w.getLastD []
def ins1:List (List Nm)→List Nm→List (List Nm)
 | [],one=>[one]
 | w::t,one=>if zB w=zB one then (if BD one w then one::t else w::t) else w::ins1 t one
def ext1 (l:Sys) (next:List (List Nm)) (w:List Nm):List (List Nm):=(par l (zB w)).foldl (fun n p=>ins1 n (w++[p])) next
def expand (l:Sys) (lists:List (List Nm)):List (List Nm):=lists.foldl (ext1 l) []
def lsts (l:Sys) (c:Nm):Nat→List (List Nm)
 | 0=>[[c]]
 | k+1=>expand l (lsts l c k)
def hit (a:Nm) (lists:List (List Nm)):Option (List Nm):=lists.find? fun w=>zB w == a
def further (l:Sys) (c a:Nm):List Nm:=(((List.range (l.length+1)).findSome? fun k=>hit a (lsts l c (k+1))).getD [])
def Ones (P:List Nm→Prop) (ls:List (List Nm)):Prop:=(∀ w∈ls,P w)∧(ls.map zB).Nodup
def Cov (ls:List (List Nm)) (v:List Nm):Prop:=∃ w∈ls,zB w=zB v∧lexLe w v
variable {l:Sys}

/-! ## Ways by places -/
def Steps (l:Sys) (t:List Nm):Prop:=∀ (i:Nat) (a b:Nm),t[i]? = some a→t[i+1]? = some b→b∈par l a
theorem BG {to : Nm} : ∀ {t : List Nm} {c : Nm}, Way l to t c → Steps l t
 | [x],c,_,i,a,b,h1,h2=>by simp at h2
 | x::y::t,c,⟨h1,h2,h3⟩,i,a,b,g1,g2=>by
  cases i with
  | zero =>
   simp at g1 g2
   subst g1 g2 h1; exact h2
  | succ i=>exact BG h3 i a b (by simpa using g1) (by simpa using g2)
theorem BH {to:Nm}:∀ {t:List Nm} {c:Nm},Steps l t→t.head? = some c→t.getLast? = some to→Way l to t c
 | [],_,_,h,_=>by simp at h
 | [x],c,_,h1,h2=>by simp at h1 h2; exact ⟨h1,by rw [← h1]; exact h2⟩
 | x::y::t,c,hs,h1,h2=>by
  simp at h1
  subst h1
  exact ⟨rfl,hs 0 x y rfl rfl,BH (fun i a b g1 g2=>hs (i+1) a b (by simpa using g1) (by simpa using g2)) rfl (by rw [List.getLast?_cons_cons] at h2; exact h2)⟩

/-! ## Ways that are accepted -/
def wayOk (l:Sys) (c a:Nm) (t:List Nm):Bool :=
 t.head? == some c && t.getLast? == some a && (List.range (t.length - 1)).all fun i=>(par l (t.getD i [])).contains (t.getD (i+1) [])
/-! ## Rings that are accepted -/
def zC (l:Sys) (r:List Nm):Bool :=
 !r.isEmpty && decide r.Nodup && (List.range r.length).all fun i=>(par l (r.getD i [])).contains (r.getD ((i+1) % r.length) [])
theorem Di {α : Type} {xs:List α} {i:Nat} (d : α) (h:i<xs.length):xs[i]? = some (xs.getD i d):=by
 rw [List.getD_eq_getElem?_getD,List.getElem?_eq_getElem h]; rfl
theorem GX {c:Nm} {s:List Nm}:zC l (c::s)=true↔(c::s).Nodup∧Way l c (c::s++[c]) c:=by
 unfold zC
 simp only [List.isEmpty_cons,Bool.not_false,Bool.true_and,Bool.and_eq_true,decide_eq_true_eq,List.all_eq_true,List.mem_range,List.contains_eq_mem]
 refine and_congr_right fun hn=>?_
 have hget:∀ i,i<(c::s).length→(c::s++[c])[i+1]? = some ((c::s).getD ((i+1) % (c::s).length) []):=fun i hi=>by
  rcases Nat.lt_or_ge (i+1) (c::s).length with h | h
  ·rw [Nat.mod_eq_of_lt h,List.getElem?_append_left h,Di [] h]
  ·have:i+1=(c::s).length:=by omega
   rw [this,Nat.mod_self,List.getElem?_append_right (Nat.le_refl _)]
   simp
 constructor
 ·intro h
  refine BH (fun i x y g1 g2=>?_) rfl List.getLast?_concat
  have hlt:i+1<(c::s++[c]).length:=(List.getElem?_eq_some_iff.1 g2).1
  have hi:i<(c::s).length:=by simp at hlt ⊢; omega
  rw [hget i hi] at g2
  rw [List.getElem?_append_left hi,Di [] hi] at g1
  cases g1; cases g2
  exact h i hi
 ·intro h i hi
  refine BG h i _ _ ?_ (hget i hi)
  rw [List.getElem?_append_left hi,Di [] hi]
theorem Dj {to:Nm} {t:List Nm} {c:Nm} (h:Way l to t c):t=t.dropLast++[to]:=by
 have hne:t≠[]:=by obtain ⟨s,rfl⟩:=EC h; simp
 have h1:=ED h
 rw [List.getLast?_eq_some_getLast hne] at h1
 rw [← Option.some.inj h1]
 exact (List.dropLast_concat_getLast hne).symm
theorem EE {to:Nm}:∀ {t:List Nm} {c:Nm},Way l to t c→Path l to t.dropLast c
 | [x],c,h=>by rw [← h.2]; rfl
 | x::y::t,c,⟨h1,h2,h3⟩=>by
  rw [List.dropLast_cons_cons]
  exact ⟨h1,y,h2,EE h3⟩
theorem cand_ok {r:List Nm} (h:r∈zA l):zC l r=true∧r.length≤l.length:=by
 obtain ⟨c,_,h⟩:=List.mem_flatMap.1 h
 obtain ⟨p,hp,h⟩:=List.mem_filterMap.1 h
 unfold pV at h
 obtain ⟨k,hk,rfl⟩:=Option.map_eq_some_iff.1 h
 have hw:=BC l c k p hk
 have hpath:=EE hw
 have hlen:((short l c k p).dropLast).length=k:=by rw [List.length_dropLast,fE]; omega
 have hmin:∀ j,j<((short l c k p).dropLast).length→W l c j p=false:=fun j hj=>(ic.1 hk).2 j (by omega)
 have hn1:=si hpath hmin
 have hc : c ∉ (short l c k p).dropLast := fun hm => by
  obtain ⟨i,hi,he⟩:=List.getElem_of_mem hm
  have : W l c i p = true := by
   have key:∀ (t:List Nm) (q:Nm) (i:Nat),Path l c t q→t[i]? = some c→W l c i q=true:=by
    intro t
    induction t with
    | nil=>intro q i _ h; simp at h
    | cons x t ih =>
     intro q i ⟨h1,p',h2,h3⟩ h4
     cases i with
     | zero=>simp at h4; simp [W,← h1,h4]
     | succ i=>exact gF.2 ⟨p',h2,ih p' i h3 (by simpa using h4)⟩
   exact key _ p i hpath (by rw [List.getElem?_eq_getElem hi,he])
  rw [hmin i hi] at this; cases this
 have hnd:(c::(short l c k p).dropLast).Nodup:=List.nodup_cons.2 ⟨hc,hn1⟩
 refine ⟨GX.2 ⟨hnd,?_⟩,?_⟩
 ·rw [List.cons_append,← Dj hw]
  obtain ⟨s,hs⟩:=EC hw
  rw [hs] at hw ⊢
  exact ⟨rfl,hp,hw⟩
 ·have:=aP (b:=nms l) hnd fun x hx=>by
   rcases List.mem_cons.1 hx with rfl | hx
   ·exact fD.1 (r9 hp)
   ·exact fD.1 (zw hpath x hx)
  simpa [nms] using this
theorem ring_ok {r:List Nm} (h:ring l=some r):zC l r=true∧r.length≤l.length:=cand_ok (Ml h)
variable {l:Sys}
section
variable {α : Type}
def dQ (F:List (Nm × α)) (k:Nm):Option α := (F.find? (·.1 == k)).map (·.2)
def fP:List (Nm × α)→Nm → α → List (Nm × α)
 | [],k,v=>[(k,v)]
 | p::t,k,v=>if p.1=k then (k,v)::t else p::fP t k v
theorem dG {p:Nm × α} {t:List (Nm × α)} {k:Nm}:dQ (p::t) k=if p.1=k then some p.2 else dQ t k:=by
 by_cases h:p.1=k
 ·simp [dQ,h]
 ·have:(p.1 == k)=false:=by simp [h]
  simp [dQ,List.find?_cons,this,h]
theorem kM (F:List (Nm × α)) (k k':Nm) (v : α):dQ (fP F k v) k'=if k'=k then some v else dQ F k':=by
 induction F with
 | nil =>
  by_cases h:k'=k
  ·simp [fP,dG,h]
  ·have:¬ k=k':=fun e=>h e.symm
   simp [fP,dG,h,this]
 | cons p t ih =>
  unfold fP
  by_cases hp:p.1=k
  ·rw [if_pos hp,dG,dG]
   by_cases h:k'=k
   ·simp [h]
   ·have:¬ k=k':=fun e=>h e.symm
    simp [h,this,hp]
  ·rw [if_neg hp,dG,ih,dG]
   by_cases h:p.1=k'
   ·have:¬ k'=k:=fun e=>hp (h.trans e)
    simp [h,this]
   ·simp [h]
theorem Kw {F:List (Nm × α)} {k:Nm} {v : α} (h:dQ F k=some v):k∈F.map (·.1):=by
 unfold dQ at h
 obtain ⟨p,hp,_⟩:=Option.map_eq_some_iff.1 h
 exact List.mem_map.2 ⟨p,List.mem_of_find?_eq_some hp,by simpa using List.find?_some hp⟩
theorem zD {F:List (Nm × α)} {k:Nm}:dQ F k=none↔k ∉ F.map (·.1):=by
 simp only [dQ,Option.map_eq_none_iff,List.find?_eq_none,List.mem_map,beq_iff_eq,not_exists,not_and]
theorem EF {F:List (Nm × α)} {k:Nm} {v : α} (h:dQ F k=none):fP F k v=F++[(k,v)]:=by
 induction F with
 | nil=>rfl
 | cons p t ih =>
  rw [dG] at h
  by_cases hp:p.1=k
  ·rw [if_pos hp] at h; cases h
  ·rw [if_neg hp] at h
   simp [fP,hp,ih h]
theorem BI {F:List (Nm × α)} {k:Nm} {v v0 : α} (h:dQ F k=some v0):(fP F k v).map (·.1)=F.map (·.1):=by
 induction F with
 | nil=>cases h
 | cons p t ih =>
  rw [dG] at h
  unfold fP
  by_cases hp:p.1=k
  ·rw [if_pos hp]; simp [hp]
  ·rw [if_neg hp] at h ⊢
   simp [ih h]
theorem Mq {F:List (Nm×Nat)} {k:Nm} {v v0:Nat} (h:dQ F k=some v0):((fP F k v).map (·.2)).sum+v0=(F.map (·.2)).sum+v:=by
 induction F with
 | nil=>cases h
 | cons p t ih =>
  rw [dG] at h
  unfold fP
  by_cases hp:p.1=k
  ·rw [if_pos hp] at h ⊢
   cases h
   simp only [List.map_cons,List.sum_cons]; omega
  ·rw [if_neg hp] at h ⊢
   have:=ih h
   simp only [List.map_cons,List.sum_cons]; omega
end
/-! ## Distances -/
structure FarI (l:Sys) (to:Nm) (F:List (Nm×Nat)):Prop where
 self:dQ F to=some 0
 walk:∀ x n,dQ F x=some n→W l to n x=true∧n<F.length
 keys:∀ x∈F.map (·.1),x=to∨x∈nms l
 nodup:(F.map (·.1)).Nodup
theorem FarI.init (l : Sys) (to : Nm) : FarI l to [(to, 0)] where
 self:=by simp [dG]
 walk x n h:=by
  rw [dG] at h
  split at h
  ·rename_i he
   cases h
   simp only at he
   exact ⟨by simp [W,he],by simp⟩
  ·cases h
 keys x h:=by simp at h; exact .inl h
 nodup:=by simp
theorem FarI.len {to:Nm} {F:List (Nm×Nat)} (h:FarI l to F):F.length≤l.length+1:=by
 have:=aP (b:=to::nms l) h.nodup fun x hx=>by
  rcases h.keys x hx with rfl | h
  ·simp
  ·simp [h]
 simpa [nms] using this
def pot (l:Sys) (F:List (Nm×Nat)):Nat:=(l.length+1 - F.length) * (l.length+2)+(F.map (·.2)).sum
theorem FarI.better {to : Nm} {F : List (Nm × Nat)} (h : FarI l to F) {c p : Nm} {n : Nat} (hp : p ∈ par l c) (hn : dQ F p = some n) (hb : ∀ n', dQ F c = some n' → n + 1 < n') :
  FarI l to (fP F c (n+1))∧pot l (fP F c (n+1))<pot l F:=by
 obtain ⟨w1,w2⟩:=h.walk p n hn
 have hlen:=h.len
 have hcto:c≠to:=fun e=>by have:=hb 0 (by rw [e]; exact h.self); omega
 cases hc:dQ F c with
 | none =>
  have he:=EF (v:=n+1) hc
  have hk:c ∉ F.map (·.1):=zD.1 hc
  have hnd:((fP F c (n+1)).map (·.1)).Nodup:=by
   rw [he,List.map_append]
   exact List.nodup_append.2 ⟨h.nodup,by simp,fun x hx y hy e=>by simp at hy; exact hk (hy ▸ e ▸ hx)⟩
  have hF : FarI l to (fP F c (n + 1)) := {
   self:=by rw [kM,if_neg (fun e=>hcto e.symm)]; exact h.self
   walk:=fun x m hx=>by
    rw [kM] at hx
    have hl:(fP F c (n+1)).length=F.length+1:=by rw [he]; simp
    split at hx
    ·rename_i hxc
     cases hx
     exact ⟨hxc ▸ gF.2 ⟨p,hp,w1⟩,by omega⟩
    ·have:=h.walk x m hx
     exact ⟨this.1,by omega⟩
   keys:=fun x hx=>by
    rw [he,List.map_append,List.mem_append] at hx
    rcases hx with hx | hx
    ·exact h.keys x hx
    ·simp at hx; rw [hx]; exact .inr (fD.1 (r9 hp))
   nodup:=hnd }
  refine ⟨hF,?_⟩
  have h1:=hF.len
  unfold pot
  rw [he] at h1 ⊢
  simp only [List.length_append,List.length_singleton,List.map_append,List.map_cons,List.map_nil,List.sum_append,List.sum_cons,List.sum_nil] at h1 ⊢
  obtain ⟨d,hd⟩:∃ d,l.length+1 - F.length=d+1:=⟨l.length - F.length,by omega⟩
  rw [hd,show l.length+1 - (F.length+1)=d by omega,Nat.succ_mul]
  omega
 | some v0 =>
  have hk:=BI (v:=n+1) hc
  have hl:(fP F c (n+1)).length=F.length:=by
   have:=congrArg List.length hk
   simpa using this
  have hlt:=hb v0 hc
  refine ⟨{
   self:=by rw [kM,if_neg (fun e=>hcto e.symm)]; exact h.self
   walk:=fun x m hx=>by
    rw [kM] at hx
    split at hx
    ·rename_i hxc
     cases hx
     have:=(h.walk c v0 hc).2
     exact ⟨hxc ▸ gF.2 ⟨p,hp,w1⟩,by omega⟩
    ·have:=h.walk x m hx
     exact ⟨this.1,by omega⟩
   keys:=fun x hx=>h.keys x (hk ▸ hx)
   nodup:=by rw [hk]; exact h.nodup },?_⟩
  have:=Mq (v:=n+1) hc
  unfold pot
  rw [hl]
  omega
def Rel (F:List (Nm×Nat)) (c p:Nm):Prop:=∀ n,dQ F p=some n→∃ n',dQ F c=some n'∧n'≤n+1
theorem FarI.done {to:Nm} {F:List (Nm×Nat)} (h:FarI l to F) (hr:∀ c p,p∈par l c→Rel F c p) (x:Nm):dQ F x=gP l to x:=by
 have key:∀ k x,W l to k x=true→∃ n,n≤k∧dQ F x=some n:=by
  intro k
  induction k with
  | zero=>intro x hx; exact ⟨0,Nat.le_refl _,by rw [show x=to by simpa [W] using hx]; exact h.self⟩
  | succ k ih =>
   intro x hx
   obtain ⟨p,hp,hw⟩:=gF.1 hx
   obtain ⟨n,h1,h2⟩:=ih p hw
   obtain ⟨n',h3,h4⟩:=hr x p hp n h2
   exact ⟨n',by omega,h3⟩
 cases hd:gP l to x with
 | none =>
  cases hx:dQ F x with
  | none=>rfl
  | some n=>have:=(h.walk x n hx).1; rw [Bz.1 hd n] at this; cases this
 | some k =>
  obtain ⟨h1,h2⟩:=ic.1 hd
  obtain ⟨n,h3,h4⟩:=key k x h1
  rw [h4]
  rcases Nat.lt_or_ge n k with h' | h'
  ·have:=(h.walk x n h4).1
   rw [h2 n h'] at this; cases this
  ·rw [show n=k by omega]
variable {l:Sys}
theorem EG (h:24<l.length):check l=(3,[]):=by unfold check; rw [if_pos h]
theorem lY (h:l.length≤24) {i:Nat} {x:Cls} (hx:l[i]? = some x) (hb:∀ (j:Nat) (y:Cls),j<i→l[j]? = some y→alone l j y=0) (hn:alone l i x≠0):check l=(alone l i x,x.name):=by
 have hf:(l.zipIdx.map fun q=>(alone l q.2 q.1,q.1.name)).find? (fun e=>e.1 != 0)=some (alone l i x,x.name):=by
  rw [List.find?_eq_some_iff_getElem]
  obtain ⟨hi,he⟩:=List.getElem?_eq_some_iff.1 hx
  refine ⟨by simpa using hn,i,by simpa using hi,by simp [he],fun j hj=>?_⟩
  have:=hb j _ hj (List.getElem?_eq_getElem (by omega))
  simp [this]
 unfold check
 rw [if_neg (by omega),hf]
theorem wP (hb:∀ (j:Nat) (y:Cls),l[j]? = some y→alone l j y=0):(l.zipIdx.map fun q=>(alone l q.2 q.1,q.1.name)).find? (fun e=>e.1 != 0)=none:=by
 rw [List.find?_eq_none]
 intro e he
 obtain ⟨⟨x,i⟩,hq,rfl⟩:=List.mem_map.1 he
 have:=hb i x (List.mem_zipIdx_iff_getElem?.1 hq)
 simp [this]
theorem GY (h:l.length≤24) (hb:∀ (j:Nat) (y:Cls),l[j]? = some y→alone l j y=0) {i:Nat} {x:Cls} (hx:l[i]? = some x) (hl:∀ (j:Nat) (y:Cls),j<i→l[j]? = some y→lost l y=false) (hn:lost l x=true):check l=(5,x.name):=by
 have hf:List.find? (lost l) l=some x:=by
  rw [List.find?_eq_some_iff_getElem]
  obtain ⟨hi,he⟩:=List.getElem?_eq_some_iff.1 hx
  exact ⟨hn,i,hi,he,fun j hj=>by rw [hl j _ hj (List.getElem?_eq_getElem (by omega))]; decide⟩
 unfold check
 rw [if_neg (by omega),wP hb]
 simp only [hf]
theorem EH (hl:∀ (j:Nat) (y:Cls),l[j]? = some y→lost l y=false):List.find? (lost l) l=none:=by
 rw [List.find?_eq_none]
 intro x hx
 obtain ⟨j,hj⟩:=List.getElem?_of_mem hx
 rw [hl j x hj]; decide
theorem GZ (h:l.length≤24) (hb:∀ (j:Nat) (y:Cls),l[j]? = some y→alone l j y=0) (hl:∀ (j:Nat) (y:Cls),l[j]? = some y→lost l y=false) {r:List Nm} (hr:ring l=some r):check l=(7,r.headD []):=by
 unfold check
 rw [if_neg (by omega),wP hb]
 simp only [EH hl,hr]
theorem Mr (h:l.length≤24) (hb:∀ (j:Nat) (y:Cls),l[j]? = some y→alone l j y=0) (hl:∀ (j:Nat) (y:Cls),l[j]? = some y→lost l y=false) (hr:ring l=none):check l=(0,[]):=by
 unfold check
 rw [if_neg (by omega),wP hb]
 simp only [EH hl,hr]
variable {l:Sys}
def qj (F:List (Nm×Nat)) (x:Nm):Nat:=(dQ F x).getD 0
theorem zF (F:List (Nm×Nat)) (k x:Nm) (n:Nat):qj (fP F k n) x=if x=k then n else qj F x:=by
 unfold qj
 rw [kM]
 split <;> rfl
def WaysI (l:Sys) (a:Nm) (o:List Nm) (F:List (Nm×Nat)):Prop:=∀ y,qj F y=if y∈o then ways l y a else if y=a then 1 else 0
def zG (l:Sys) (a:Nm) (o:List Nm) (x:Nm) (ps:List Nm) (F:List (Nm×Nat)):Prop:=∀ y,qj F y=if y=x then (if x=a then 1 else 0)+(ps.map fun p=>ways l p a).sum else if y∈o then ways l y a else if y=a then 1 else 0
theorem WaysI.init (l:Sys) (a:Nm):WaysI l a [] [(a,1)]:=fun y=>by
 unfold qj
 rw [dG]
 by_cases h:a=y
 ·simp [h]
 ·rw [if_neg h]
  have:¬ y=a:=fun e=>h e.symm
  simp [this,dQ]
theorem zG.next {a x p:Nm} {o ps:List Nm} {F:List (Nm×Nat)} (h:zG l a o x ps F) (hp:p∈o) (hx:x ∉ o):zG l a o x (ps++[p]) (fP F x (qj F x+qj F p)):=fun y=>by
 have hpx:p≠x:=fun e=>hx (e ▸ hp)
 rw [zF]
 by_cases hy:y=x
 ·subst hy
  rw [if_pos rfl,if_pos rfl,h y,if_pos rfl,h p,if_neg hpx,if_pos hp]
  simp; omega
 ·rw [if_neg hy,if_neg hy,h y,if_neg hy]
theorem zG.done (ha:gz l) {a x:Nm} {o:List Nm} {F:List (Nm×Nat)} (h:zG l a o x (par l x) F):WaysI l a (o++[x]) F:=fun y=>by
 rw [h y]
 by_cases hy:y=x
 ·subst hy
  rw [if_pos rfl,if_pos (show y∈o++[y] by simp),uu ha]
 ·rw [if_neg hy]; simp [hy]
theorem zG.le (ha:gz l) {a x:Nm} {o ps:List Nm} {F:List (Nm×Nat)} (h:zG l a o x ps F) (hps:∀ p∈ps,p∈par l x) (hl:ps.length≤4) (h4:∀ c,(par l c).length≤4) (h24:l.length≤24) (y:Nm):qj F y≤1+4 * 4 ^ 24:=by
 have hb:∀ c,ways l c a≤4 ^ 24:=fun c=>Nat.le_trans (ways_le ha h4 a c) (Nat.pow_le_pow_right (by omega) (Nat.le_trans (qh l c) h24))
 rw [h y]
 split
 ·have h1:(ps.map fun p=>ways l p a).sum≤ps.length * 4 ^ 24:=GV fun p _=>hb p
  have h2:ps.length * 4 ^ 24≤4 * 4 ^ 24:=Nat.mul_le_mul_right _ hl
  split <;> omega
 ·split
  ·have:=hb y; omega
  ·split <;> omega
/-! ## Levels in a table -/
def LevI (l:Sys) (o:List Nm) (F:List (Nm×Nat)):Prop:=∀ y,qj F y=if y∈o then lv l y else 0
def LevK (l:Sys) (o:List Nm) (x:Nm) (ps:List Nm) (F:List (Nm×Nat)):Prop:=∀ y,qj F y=if y=x then mx (ps.map fun p=>lv l p+1) else if y∈o then lv l y else 0
theorem LevI.init (l:Sys):LevI l [] []:=fun y=>by simp [qj,dQ]
theorem LevK.next {x p:Nm} {o ps:List Nm} {F:List (Nm×Nat)} (h:LevK l o x ps F) (hp:p∈o) (hx:x ∉ o):LevK l o x (ps++[p]) (fP F x (max (qj F x) (qj F p+1))):=fun y=>by
 have hpx:p≠x:=fun e=>hx (e ▸ hp)
 rw [zF]
 by_cases hy:y=x
 ·subst hy
  rw [if_pos rfl,if_pos rfl,h y,if_pos rfl,h p,if_neg hpx,if_pos hp,List.map_append,List.map_singleton,mx_snoc]
 ·rw [if_neg hy,if_neg hy,h y,if_neg hy]
theorem LevK.done (ha:gz l) {x:Nm} {o:List Nm} {F:List (Nm×Nat)} (h:LevK l o x (par l x) F):LevI l (o++[x]) F:=fun y=>by
 rw [h y]
 by_cases hy:y=x
 ·subst hy
  rw [if_pos rfl,if_pos (show y∈o++[y] by simp),Mk ha]
 ·rw [if_neg hy]; simp [hy]
theorem lv_24 (ha:gz l) (h24:l.length≤24) (c:Nm):lv l c≤24:=Nat.le_trans (lv_le ha c) (Nat.le_trans (qh l c) h24)
theorem LevK.le (ha:gz l) {x:Nm} {o ps:List Nm} {F:List (Nm×Nat)} (h:LevK l o x ps F) (h24:l.length≤24) (y:Nm):qj F y≤25:=by
 rw [h y]
 split
 ·exact mx_le fun z hz=>by
   obtain ⟨p,_,rfl⟩:=List.mem_map.1 hz
   have:=lv_24 ha h24 p
   omega
 ·split
  ·have:=lv_24 ha h24 y; omega
  ·omega
variable {l:Sys}
def LvI (l:Sys) (done:List Nm) (F:List (Nm×Nat)):Prop:=∀ n,qj F n=if n∈done then lv l n+1 else 0
theorem LvI.init:LvI l [] []:=fun n=>by simp [qj,dQ]
theorem LvI.next {done:List Nm} {F:List (Nm×Nat)} (h:LvI l done F) {n:Nm} {x:Nat} (hx:lv l n=x):LvI l (done++[n]) (fP F n (x+1)):=fun m=>by
 rw [zF,h m]
 by_cases hm:m=n
 ·subst hm; simp [hx]
 ·simp [hm]
def most (l:Sys) (ps:List Nm):Nat:=mx (ps.map fun p=>lv l p+1)
end Go.Hr
