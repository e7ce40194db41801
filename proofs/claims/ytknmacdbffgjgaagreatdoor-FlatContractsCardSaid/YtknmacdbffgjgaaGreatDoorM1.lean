/-
  A small separation logic over the kit's fenced walk (at the wide fence,so that a range over a function is served as well): what is known of a frame,of the heap,contracts of functions,rules on code.
 Generic: nothing of the program is named here. No condition.
-/
import Derived.ProofKit
import Derived.RangeFuncLeaves
import Derived.RangeFuncRecord
import Derived.OrdersIn
import Derived.TacticsIn
import Derived.WalkKit
import Derived.WalkSpells
set_option linter.unusedVariables false
set_option linter.unusedSimpArgs false
set_option maxRecDepth 100000
set_option maxHeartbeats 16000000
namespace Go.Hr
open Go
abbrev Nm:=List UInt8
structure Cls where
 name:Nm
 parents:List Nm
 feats:Nat
 deriving DecidableEq
abbrev Sys:=List Cls

/-! ## The order of names -/
abbrev lt (a b:Nm):Bool:=Op.bytesLess a b
theorem lt_irrefl:∀ a:Nm,lt a a=false
 | []=>rfl
 | a::t=>by
  have:=lt_irrefl t
  simp only [lt] at this
  simp [Op.bytesLess,this]
theorem lt_trans:∀ {a b c:Nm},lt a b=true->lt b c=true->lt a c=true
 | _,_,[],_,h2=>by simp [Op.bytesLess] at h2
 | _,[],_::_,h1,_=>by simp [Op.bytesLess] at h1
 | [],_::_,_::_,_,_=>rfl
 | a::x,b::y,c::z,h1,h2=>by
  simp only [lt,Op.bytesLess,Bool.or_eq_true,Bool.and_eq_true,decide_eq_true_eq,beq_iff_eq] at h1 h2 ⊢
  rcases h1 with h1 | ⟨h1,h3⟩ <;> rcases h2 with h2 | ⟨h2,h4⟩
  ·exact .inl<|UInt8.lt_trans h1 h2
  ·exact .inl (h2 ▸ h1)
  ·exact .inl (h1 ▸ h2)
  ·exact .inr ⟨h1.trans h2,lt_trans h3 h4⟩
theorem dU : ∀ a b : Nm, lt a b = true ∨ a = b ∨ lt b a = true
 | [],[]=>.inr (.inl rfl)
 | [],_::_=>.inl rfl
 | _::_,[]=>.inr (.inr rfl)
 | a::x,b::y=>by
  simp only [lt,Op.bytesLess,Bool.or_eq_true,Bool.and_eq_true,decide_eq_true_eq,beq_iff_eq]
  rcases Nat.lt_trichotomy a.toNat b.toNat with h | h | h
  ·exact .inl<|.inl h
  ·have hab:a=b:=UInt8.toNat_inj.1 h
   subst hab
   rcases dU x y with h | h | h
   ·exact .inl<|.inr ⟨rfl,h⟩
   ·exact .inr<|.inl<|by rw [h]
   ·exact .inr<|.inr<|.inr ⟨rfl,h⟩
  ·exact .inr<|.inr<|.inl h
theorem iF {a b:Nm} (h:lt a b=true):lt b a=false:=by
 cases h2:lt b a with
 | false=>rfl
 | true=>have:=lt_trans h h2; rw [lt_irrefl] at this; cases this
theorem lt_eq {a b:Nm} (h1:lt a b=false) (h2:lt b a=false):a=b:=by
 rcases dU a b with h | h | h
 ·rw [h1] at h; cases h
 ·exact h
 ·rw [h2] at h; cases h
def jh:List Nm->Nm
 | []=>[]
 | [a]=>a
 | a::b::t=>if lt (jh (b::t)) a then jh (b::t) else a
theorem uJ:∀ {l:List Nm},l≠[]->jh l∈l
 | [a],_=>by simp [jh]
 | a::b::t,_=>by
  unfold jh
  split
  ·exact List.mem_cons_of_mem _<|uJ<|by simp
  ·simp
theorem JA : ∀ {l : List Nm} {x : Nm}, x ∈ l -> lt x (jh l) = false
 | [a],x,h=>by simp at h; subst h; exact lt_irrefl _
 | a :: b :: t, x, h => by
  unfold jh
  have ih:=λx => @JA (b::t) x
  split
  ·rename_i hm
   rcases List.mem_cons.1 h with rfl | h
   ·exact iF hm
   ·exact ih x h
  ·rename_i hm
   rcases List.mem_cons.1 h with rfl | h
   ·exact lt_irrefl _
   ·cases hx:lt x a with
    | false=>rfl
    | true =>
     have h1:=ih x h
     have hm':lt (jh (b::t)) a=false:=by simpa using hm
     rcases dU x (jh (b::t)) with h2 | h2 | h2
     ·rw [h1] at h2; cases h2
     ·rw [h2] at hx; rw [hm'] at hx; cases hx
     ·rw [lt_trans h2 hx] at hm'; cases hm'
theorem KF {l:List Nm} {x:Nm} (h1:x∈l) (h2:∀ y∈l,lt y x=false):jh l=x :=
 lt_eq (h2 _<|uJ<|List.ne_nil_of_mem h1) (JA h1)

/-! ## Classes and parents -/
def find (l:Sys) (c:Nm):Option Cls:=List.find? (λx=>x.name == c) l
def isC (l:Sys) (c:Nm):Bool:=(find l c).isSome
def pars (l:Sys) (c:Nm):List Nm:=((find l c).map (·.parents)).getD []
def par (l:Sys) (c:Nm):List Nm:=(pars l c).filter (isC l)
def nms (l:Sys):List Nm:=l.map (·.name)
theorem rJ {l:Sys} {c:Nm} {x:Cls} (h:find l c=some x):x.name=c/\x∈l:=⟨by simpa using List.find?_some h,List.mem_of_find?_eq_some h⟩
theorem fD {l:Sys} {c:Nm}:isC l c=true↔c∈nms l:=by
 unfold isC find nms
 rw [List.find?_isSome,List.mem_map]
 exact ⟨λ⟨x,h1,h2⟩=>⟨x,h1,by simpa using h2⟩,λ⟨x,h1,h2⟩=>⟨x,h1,by simpa using h2⟩⟩
theorem kK {l:Sys} {c p:Nm} (h:p∈par l c):isC l p=true:=(List.mem_filter.1 h).2
theorem sU {l:Sys} {c p:Nm} (h:p∈par l c):isC l c=true:=by
 have h1:=(List.mem_filter.1 h).1
 unfold pars at h1
 unfold isC
 cases hf:find l c with
 | none=>rw [hf] at h1; simp at h1
 | some x=>rfl

/-! ## Walks -/
def W (l:Sys) (to:Nm):Nat->Nm->Bool
 | 0,c=>c == to
 | k+1,c=>(par l c).any (W l to k)
theorem gD {l:Sys} {to c:Nm} {k:Nat}:W l to (k+1) c=true↔∃ p∈par l c,W l to k p=true:=by
 simp [W]
theorem W_add {l:Sys} {a b c:Nm}:∀ {j k:Nat},W l b j c=true->W l a k b=true->W l a (j+k) c=true
 | 0,k,h1,h2=>by
  have:c=b:=by simpa [W] using h1
  rw [this,Nat.zero_add]; exact h2
 | j+1,k,h1,h2=>by
  obtain ⟨p,hp,h3⟩:=gD.1 h1
  rw [show j+1+k=(j+k)+1 by omega]
  exact gD.2 ⟨p,hp,W_add h3 h2⟩
def Path (l:Sys) (to:Nm):List Nm->Nm->Prop
 | [],c=>c=to
 | x::t,c=>x=c/\∃ p∈par l c,Path l to t p
theorem Mq {l:Sys} {to:Nm}:∀ {t:List Nm} {c:Nm},Path l to t c->W l to t.length c=true
 | [],c,h=>by have:c=to:=h; simp [W,this]
 | x::t,c,h=>by
  obtain ⟨_,p,hp,h⟩:=h
  exact gD.2 ⟨p,hp,Mq h⟩
theorem Mr {l:Sys} {to:Nm}:∀ {k:Nat} {c:Nm},W l to k c=true->∃ t,t.length=k/\Path l to t c
 | 0,c,h=>⟨[],rfl,(by simpa [W] using h:c=to)⟩
 | k+1,c,h=>by
  obtain ⟨p,hp,h⟩:=gD.1 h
  obtain ⟨t,h1,h2⟩:=Mr h
  exact ⟨c::t,by simp [h1],rfl,p,hp,h2⟩
theorem zG {l:Sys} {to:Nm}:∀ {t:List Nm} {c:Nm},Path l to t c->∀ x∈t,isC l x=true
 | x::t,c,⟨h1,p,hp,h⟩,y,hy=>by
  rcases List.mem_cons.1 hy with rfl | hy
  ·rw [h1]; exact sU hp
  ·exact zG h y hy
theorem EJ {l : Sys} {to : Nm} : ∀ {t : List Nm} {c : Nm}, Path l to t c -> ∀ x ∈ t, ∃ k, k ≤ t.length /\ 1 ≤ k /\ W l to k x = true /\ (x = c ∨ k < t.length)
 | x::t,c,h,y,hy=>by
  rcases List.mem_cons.1 hy with rfl | hy
  ·exact ⟨t.length+1,by simp,by omega,by have:=Mq h; obtain ⟨h1,_⟩:=h; rw [h1]; simpa using this,.inl h.1⟩
  ·obtain ⟨h1,p,hp,h⟩:=h
   obtain ⟨k,h2,h3,h4,_⟩:=EJ h y hy
   exact ⟨k,by simp; omega,h3,h4,.inr (by simp; omega)⟩
theorem aT {α : Type} [DecidableEq α]:∀ {a b:List α},a.Nodup->(∀ x∈a,x∈b)->a.length≤b.length
 | [],_,_,_=>by simp
 | x::t,b,h,hs=>by
  rw [List.nodup_cons] at h
  have h1:x∈b:=hs x<|by simp
  have h2:=aT (a:=t) (b:=b.erase x) h.2 λy hy=>(List.mem_erase_of_ne<|λe=>h.1 (by rw [<- e]; exact hy)).2 (hs y<|by simp [hy])
  rw [List.length_erase_of_mem h1] at h2
  have:=List.length_pos_of_mem h1
  simp; omega
theorem sW {l : Sys} {to : Nm} : ∀ {t : List Nm} {c : Nm}, Path l to t c -> (∀ j, j < t.length -> W l to j c = false) -> t.Nodup
 | [],_,_,_=>List.nodup_nil
 | x :: t, c, h, hm => by
  obtain ⟨rfl,p,hp,h⟩:=id h
  refine List.nodup_cons.2 ⟨λhx=>?_,sW h λj hj=>?_⟩
  ·obtain ⟨k,h1,h2,h3,h4⟩:=EJ h x hx
   have:=hm k (by simp; omega)
   rw [h3] at this; cases this
  ·cases hw:W l to j p with
   | false=>rfl
   | true =>
    have:=hm (j+1) (by simp; omega)
    rw [gD.2 ⟨p,hp,hw⟩] at this; cases this
theorem JB {l:Sys} {to c:Nm}:∀ {k:Nat},W l to k c=true->∃ j,j≤k/\j≤l.length/\W l to j c=true/\∀ i,i<j->W l to i c=false:=by
 intro k
 induction k using Nat.strongRecOn with
 | _ k ih =>
  intro h
  by_cases hm:∀ i,i<k->W l to i c=false
  ·obtain ⟨t,h1,h2⟩:=Mr h
   have h3:=sW h2 (by rw [h1]; exact hm)
   have h4:=aT (b:=nms l) h3 λx hx=>fD.1<|zG h2 x hx
   refine ⟨k,Nat.le_refl _,?_,h,hm⟩
   rw [<- h1]; simpa [nms] using h4
  ·have : ∃ i, i < k /\ W l to i c = true := by
    apply Classical.byContradiction
    intro hn
    exact hm λi hi=>by
     cases hw:W l to i c with
     | false=>rfl
     | true=>exact absurd ⟨i,hi,hw⟩ hn
   obtain ⟨i,hi,hw⟩:=this
   obtain ⟨j,h1,h2,h3⟩:=ih i hi hw
   exact ⟨j,by omega,h2,h3⟩
def gQ (l:Sys) (to c:Nm):Option Nat:=(List.range (l.length+1)).find? λk=>W l to k c
theorem ig {l:Sys} {to c:Nm} {k:Nat}:gQ l to c=some k↔W l to k c=true/\∀ i,i<k->W l to i c=false:=by
 unfold gQ
 constructor
 ·intro h
  rw [List.find?_range_eq_some] at h
  exact ⟨h.1,λi hi=>by simpa using h.2.2 i hi⟩
 ·rintro ⟨h1,h2⟩
  obtain ⟨j,h3,h4,h5,h6⟩:=JB h1
  have:j=k:=by
   rcases Nat.lt_or_ge j k with h | h
   ·rw [h2 j h] at h5; cases h5
   ·omega
  subst this
  rw [List.find?_range_eq_some]
  exact ⟨h1,by simp; omega,λi hi=>by simpa using h2 i hi⟩
theorem BM {l:Sys} {to c:Nm}:gQ l to c=none↔∀ k,W l to k c=false:=by
 constructor
 ·intro h k
  cases hw:W l to k c with
  | false=>rfl
  | true =>
   obtain ⟨j,_,_,h3,h4⟩:=JB hw
   rw [ig.2 ⟨h3,h4⟩] at h; cases h
 ·intro h
  cases hd:gQ l to c with
  | none=>rfl
  | some k=>have:=(ig.1 hd).1; rw [h k] at this; cases this
def has (l:Sys) (c a:Nm):Bool:=(gQ l a c).isSome
theorem fV {l:Sys} {c a:Nm}:has l c a=true↔∃ k,W l a k c=true:=by
 unfold has
 cases hd:gQ l a c with
 | none=>simp [BM.1 hd]
 | some k=>simp; exact ⟨k,(ig.1 hd).1⟩
theorem nz (l:Sys) (c:Nm):has l c c=true:=fV.2 ⟨0,by simp [W]⟩
theorem kW {l:Sys} {a b c:Nm} (h1:has l a b=true) (h2:has l b c=true):has l a c=true:=by
 obtain ⟨j,h1⟩:=fV.1 h1
 obtain ⟨k,h2⟩:=fV.1 h2
 exact fV.2 ⟨j+k,W_add h1 h2⟩
theorem rM {l:Sys} {c p:Nm} (h:p∈par l c):has l c p=true:=fV.2 ⟨1,gD.2 ⟨p,h,by simp [W]⟩⟩
theorem rO {l:Sys} {c a:Nm} (h:has l c a=true):c=a∨∃ p∈par l c,has l p a=true:=by
 obtain ⟨k,h⟩:=fV.1 h
 cases k with
 | zero=>exact .inl (by simpa [W] using h)
 | succ k =>
  obtain ⟨p,hp,h⟩:=gD.1 h
  exact .inr ⟨p,hp,fV.2 ⟨k,h⟩⟩
theorem W_isC {l:Sys} {a:Nm}:∀ {k:Nat} {c:Nm},isC l c=true->W l a k c=true->isC l a=true
 | 0,c,hc,h=>by
  have:c=a:=by simpa [W] using h
  rw [<- this]; exact hc
 | k+1,c,_,h=>by
  obtain ⟨p,hp,h⟩:=gD.1 h
  exact W_isC (kK hp) h
theorem uL {l:Sys} {c a:Nm} (hc:isC l c=true) (h:has l c a=true):isC l a=true:=by
 obtain ⟨k,h⟩:=fV.1 h
 exact W_isC hc h

/-! ## Without rings -/
def gF (l:Sys):Prop:=∀ c p,p∈par l c->has l p c=false
def rk (l:Sys) (c:Nm):Nat:=(nms l).countP λa=>has l c a
theorem qz (l:Sys) (c:Nm):rk l c≤l.length:=by
 have:=List.countP_le_length (p:=λa=>has l c a) (l:=nms l)
 simpa [rk,nms] using this
theorem BP {α : Type} {p q : α -> Bool} : ∀ {l : List α} {x : α}, x ∈ l -> (∀ y, p y = true -> q y = true) -> p x = false -> q x = true -> l.countP p < l.countP q
 | y::t,x,hx,hpq,h1,h2=>by
  have hle:t.countP p≤t.countP q:=List.countP_mono_left λz _ hz=>hpq z hz
  rcases List.mem_cons.1 hx with rfl | hx
  ·rw [List.countP_cons,List.countP_cons,h1,h2]; simp; omega
  ·have ih:=BP hx hpq h1 h2
   rw [List.countP_cons,List.countP_cons]
   cases hy:p y with
   | false=>simp; cases q y <;> simp <;> omega
   | true=>rw [hpq y hy]; simp; omega
theorem iC {l:Sys} (ha:gF l) {c p:Nm} (h:p∈par l c):rk l p<rk l c :=
 BP (fD.1<|sU h) (λ_ hy=>kW (rM h) hy) (ha c p h) (nz l c)
theorem W_rk {l:Sys} (ha:gF l) {a:Nm}:∀ {k:Nat} {c:Nm},W l a k c=true->c=a∨rk l a<rk l c
 | 0,c,h=>.inl (by simpa [W] using h)
 | k+1,c,h=>by
  obtain ⟨p,hp,h⟩:=gD.1 h
  have:=iC ha hp
  rcases W_rk ha h with rfl | h
  ·exact .inr this
  ·exact .inr<|by omega
theorem has_rk {l:Sys} (ha:gF l) {c a:Nm} (h:has l c a=true):c=a∨rk l a<rk l c:=by
 obtain ⟨k,h⟩:=fV.1 h
 exact W_rk ha h
variable {l:Sys}

/-! ## Lists without doubles -/
def step (o:List Nm) (x:Nm):List Nm:=if o.contains x then o else o++[x]
def dd (o xs:List Nm):List Nm:=xs.foldl step o
theorem Ms {o:List Nm} {x y:Nm}:y∈step o x↔y∈o∨y=x:=by
 unfold step
 split
 ·rename_i h
  have h:x∈o:=by simpa using h
  exact ⟨.inl,λh'=>h'.elim id<|λe=>e ▸ h⟩
 ·simp
theorem zH:∀ {xs o:List Nm} {y:Nm},y∈dd o xs↔y∈o∨y∈xs
 | [],o,y=>by simp [dd]
 | x::t,o,y=>by
  show y∈dd (step o x) t↔_
  rw [zH,Ms,List.mem_cons,or_assoc]
theorem lq {o:List Nm} {x:Nm} (h:x∈o):step o x=o:=by simp [step,h]
theorem nD {o:List Nm} {x:Nm} (h:x ∉ o):step o x=o++[x]:=by simp [step,h]
theorem rP (o xs:List Nm) (x:Nm):dd o (xs++[x])=step (dd o xs) x:=by simp [dd]
theorem Mt {o:List Nm}:∀ {xs:List Nm},(∀ x∈xs,x∈o)->dd o xs=o
 | [],_=>rfl
 | x::t,h=>by
  show dd (step o x) t=o
  rw [lq (h x<|by simp)]
  exact Mt λy hy=>h y<|by simp [hy]
theorem EK (a b:List Nm):∀ (n:Nat) (c:List Nm),c.length=n->dd (dd a b) c=dd a (dd b c)
 | 0,c,h=>by rw [List.eq_nil_of_length_eq_zero h]; rfl
 | n+1,c,h=>by
  have hne:c≠[]:=by intro e; rw [e] at h; cases h
  obtain ⟨d,x,rfl⟩:∃ d x,c=d++[x]:=⟨c.dropLast,c.getLast hne,(List.dropLast_concat_getLast hne).symm⟩
  have ih:=EK a b n d<|by simpa using h
  rw [rP,rP,ih]
  by_cases hx:x∈dd b d
  ·rw [lq hx,lq (zH.2<|.inr hx)]
  ·rw [nD hx,rP]
/-! ## Each behind its own ancestors -/
inductive Tp (l:Sys):List Nm->Prop
 | nil:Tp l []
 | snoc {o:List Nm} {c:Nm}:Tp l o->c ∉ o->(∀ p∈par l c,p∈o)->Tp l (o++[c])
theorem Tp.nodup {o:List Nm} (h:Tp l o):o.Nodup:=by
 induction h with
 | nil=>exact List.nodup_nil
 | snoc _ hn _ ih=>exact List.nodup_append.2 ⟨ih,by simp,λx hx y hy e=>by simp at hy; exact hn (hy ▸ e ▸ hx)⟩
theorem Tp.par {o:List Nm} (h:Tp l o) {c p:Nm} (hc:c∈o) (hp:p∈Hr.par l c):p∈o:=by
 induction h with
 | nil=>cases hc
 | snoc _ _ hs ih =>
  rcases List.mem_append.1 hc with hc | hc
  ·exact List.mem_append_left _<|ih hc
  ·simp at hc
   subst hc
   exact List.mem_append_left _<|hs p hp
theorem Tp.has {o:List Nm} (h:Tp l o) {c a:Nm} (hc:c∈o) (ha:Hr.has l c a=true):a∈o:=by
  obtain ⟨k,ha⟩:=fV.1 ha
  induction k generalizing c with
  | zero => have : c = a := by simpa [W] using ha
            exact this ▸ hc
  | succ k ih =>
    obtain ⟨p,hp,h'⟩:=gD.1 ha
    exact ih (h.par hc hp) (fV.2 ⟨k,h'⟩) h'
theorem Tp.ahead {o:List Nm} (h:Tp l o):∀ (i j:Nat) (hi:i<j) (hj:j<o.length),Hr.has l (o[i]'(by omega)) o[j]=false:=by
 induction h with
 | nil=>intro i j hi hj; simp at hj
 | @snoc o c ht hn _ ih =>
  intro i j hi hj
  simp only [List.length_append,List.length_singleton] at hj
  rcases Nat.lt_or_ge j o.length with hjo | hjo
  ·have:=ih i j hi hjo
   rw [List.getElem_append_left (by omega),List.getElem_append_left hjo]
   exact this
  ·have hje:j=o.length:=by omega
   subst hje
   rw [List.getElem_append_left (by omega),List.getElem_append_right (Nat.le_refl _)]
   simp only [Nat.sub_self,List.getElem_singleton]
   cases hh:Hr.has l o[i] c with
   | false=>rfl
   | true=>exact absurd (ht.has (List.getElem_mem _) hh) hn

/-! ## The search -/
def vis (l:Sys):Nat->List Nm->Nm->List Nm
 | 0,o,_=>o
 | f+1,o,c=>if o.contains c then o else (par l c).foldl (vis l f) o++[c]
def above (l:Sys) (c:Nm):List Nm:=vis l (l.length+1) [] c
theorem jP (ha : gF l) : ∀ (f : Nat) (c : Nm) (o : List Nm), rk l c < f -> Tp l o -> Tp l (vis l f o c) /\ ∀ x, x ∈ vis l f o c ↔ x ∈ o ∨ has l c x = true
 | 0,c,o,h,_=>by omega
 | f + 1, c, o, h, ho => by
  unfold vis
  split
  ·rename_i hc
   have hc:c∈o:=by simpa using hc
   exact ⟨ho,λx=>⟨.inl,λhx=>hx.elim id λhx=>ho.has hc hx⟩⟩
  ·rename_i hc
   have hc:c ∉ o:=by simpa using hc
   have key:∀ (ps:List Nm) (o:List Nm),(∀ p∈ps,p∈par l c)->Tp l o->Tp l (ps.foldl (vis l f) o)/\∀ x,x∈ps.foldl (vis l f) o↔x∈o∨∃ p∈ps,has l p x=true:=by
    intro ps
    induction ps with
    | nil=>intro o _ ho; exact ⟨ho,λx=>by simp⟩
    | cons p t ih =>
     intro o hp ho
     obtain ⟨h1,h2⟩:=jP ha f p o (by have:=iC ha (hp p<|by simp); omega) ho
     obtain ⟨h3,h4⟩:=ih (vis l f o p) (λq hq=>hp q<|by simp [hq]) h1
     refine ⟨h3,λx=>?_⟩
     rw [List.foldl_cons,h4,h2]
     simp only [List.mem_cons,exists_eq_or_imp,or_assoc]
   obtain ⟨h1,h2⟩:=key (par l c) o (λ_ h=>h) ho
   refine ⟨h1.snoc (λhm=>?_) λp hp=>(h2 p).2 (.inr ⟨p,hp,nz l p⟩),λx=>?_⟩
   ·rcases (h2 c).1 hm with hm | ⟨p,hp,hm⟩
    ·exact hc hm
    ·rw [ha c p hp] at hm; cases hm
   ·rw [List.mem_append, h2]
    constructor
    ·rintro ((h | ⟨p,hp,h⟩) | h)
     ·exact .inl h
     ·exact .inr<|kW (rM hp) h
     ·simp at h; rw [h]; exact .inr (nz l c)
    ·rintro (h | h)
     ·exact .inl<|.inl h
     ·rcases rO h with rfl | ⟨p,hp,h⟩
      ·exact .inr<|by simp
      ·exact .inl<|.inr ⟨p,hp,h⟩
theorem EL (ha : gF l) : ∀ (f g : Nat) (c : Nm) (o : List Nm), rk l c < f -> rk l c < g -> vis l f o c = vis l g o c
 | 0,_,_,_,h,_=>by omega
 | _,0,_,_,_,h=>by omega
 | f + 1, g + 1, c, o, hf, hg => by
  unfold vis
  split
  ·rfl
  ·have key : ∀ (ps : List Nm) (o : List Nm), (∀ p ∈ ps, p ∈ par l c) -> ps.foldl (vis l f) o = ps.foldl (vis l g) o := by
    intro ps
    induction ps with
    | nil=>intros; rfl
    | cons p t ih =>
     intro o hp
     have:=iC ha<|hp p<|by simp
     rw [List.foldl_cons,List.foldl_cons,EL ha f g p o (by omega) (by omega)]
     exact ih _ λq hq=>hp q<|by simp [hq]
   rw [key _ o λ_ h=>h]
theorem Mv (ha : gF l) : ∀ (f : Nat) (c : Nm) (o : List Nm), rk l c < f -> Tp l o -> vis l f o c = dd o (vis l f [] c)
 | 0,c,o,h,_=>by omega
 | f + 1, c, o, h, ho => by
  by_cases hc:c∈o
  ·have h1:vis l (f+1) o c=o:=by unfold vis; rw [if_pos (by simpa using hc)]
   rw [h1,Mt]
   intro x hx
   have:=((jP ha (f+1) c [] h .nil).2 x).1 hx
   exact ho.has hc<|this.elim (λh=>by cases h) id
  ·have key : ∀ (ps : List Nm) (o : List Nm), (∀ p ∈ ps, p ∈ par l c) -> Tp l o -> ps.foldl (vis l f) o = dd o (ps.foldl (vis l f) []) := by
    intro ps
    induction ps with
    | nil=>intro o _ _; rfl
    | cons p t ih =>
     intro o hp ho
     have hr:rk l p<f:=by have:=iC ha (hp p<|by simp); omega
     have ht:∀ q∈t,q∈par l c:=λq hq=>hp q<|by simp [hq]
     have s1:=(jP ha f p o hr ho).1
     have s2:=(jP ha f p [] hr .nil).1
     rw [List.foldl_cons,List.foldl_cons,ih _ ht s1,ih _ ht s2,<- EK _ _ _ _ rfl,<- Mv ha f p o hr ho]
   have k1:=key (par l c) o (λ_ h=>h) ho
   have h1:vis l (f+1) o c=(par l c).foldl (vis l f) o++[c]:=by rw [vis,if_neg (by simpa using hc)]
   have h2:vis l (f+1) [] c=(par l c).foldl (vis l f) []++[c]:=by rw [vis,if_neg (by simp)]
   rw [h1,h2,rP,<- k1,nD]
   intro hm
   have hn:=(jP ha (f+1) c o h ho).1.nodup
   rw [h1] at hn
   exact (List.nodup_append.1 hn).2.2 c hm c (by simp) rfl
theorem uM (l:Sys) (c:Nm):rk l c<l.length+1:=by have:=qz l c; omega
theorem iM (ha:gF l) (c:Nm):Tp l (above l c)/\∀ x,x∈above l c↔has l c x=true:=by
 obtain ⟨h1,h2⟩:=jP ha (l.length+1) c [] (uM l c) .nil
 exact ⟨h1,λx=>by rw [above,h2]; simp⟩
theorem BQ (ha:gF l) (c:Nm):above l c=(par l c).foldl (λo p=>dd o (above l p)) []++[c]:=by
 have h2:above l c=(par l c).foldl (vis l l.length) []++[c]:=by
  unfold above
  rw [vis,if_neg (by simp)]
 have key:∀ (ps:List Nm) (o:List Nm),(∀ p∈ps,p∈par l c)->Tp l o->ps.foldl (vis l l.length) o=ps.foldl (λo p=>dd o<|above l p) o:=by
  intro ps
  induction ps with
  | nil=>intros; rfl
  | cons p t ih =>
   intro o hp ho
   have hr:rk l p<l.length:=by have:=iC ha (hp p<|by simp); have:=qz l c; omega
   have e1:vis l l.length o p=dd o (above l p):=by rw [Mv ha _ _ _ hr ho,EL ha l.length (l.length+1) p [] hr (uM l p)]; rfl
   rw [List.foldl_cons,List.foldl_cons,ih _ (λq hq=>hp q<|by simp [hq]) (jP ha _ p o hr ho).1,e1]
 rw [h2,key _ _ (λ_ h=>h) .nil]
variable {l:Sys}

/-! ## How many ways -/
def nW (l:Sys) (a:Nm):Nat->Nm->Nat
 | 0,_=>0
 | f+1,c=>(if c=a then 1 else 0)+((par l c).map (nW l a f)).sum
def ways (l:Sys) (c a:Nm):Nat:=nW l a (l.length+1) c
theorem JC (ha:gF l) (a:Nm):∀ (f g:Nat) (c:Nm),rk l c<f->rk l c<g->nW l a f c=nW l a g c
 | 0,_,_,h,_=>by omega
 | _,0,_,_,h=>by omega
 | f+1,g+1,c,hf,hg=>by
  unfold nW
  rw [List.map_congr_left λp hp=>JC ha a f g p (by have:=iC ha hp; omega) (by have:=iC ha hp; omega)]
theorem uN (ha:gF l) (c a:Nm):ways l c a=(if c=a then 1 else 0)+((par l c).map λp=>ways l p a).sum:=by
 unfold ways
 rw [nW,List.map_congr_left λp hp=>JC ha a l.length (l.length+1) p (by have:=iC ha hp; have:=qz l c; omega) (uM l p)]
theorem zb {α : Type} {f : α -> Nat}:∀ {xs:List α},0<(xs.map f).sum↔∃ x∈xs,0<f x
 | []=>by simp
 | x::t=>by
  rw [List.map_cons,List.sum_cons]
  simp only [List.mem_cons,exists_eq_or_imp]
  rw [<- zb (xs:=t)]
  omega
theorem mQ (ha:gF l) {P:Nm->Prop} (h:∀ c,(∀ p∈par l c,P p)->P c):∀ c,P c:=by
 have key:∀ n c,rk l c<n->P c:=by
  intro n
  induction n with
  | zero=>intro c hc; omega
  | succ n ih=>intro c hc; exact h c λp hp=>ih p (by have:=iC ha hp; omega)
 exact λc=>key _ c<|Nat.lt_succ_self _
theorem Mw (ha : gF l) (a : Nm) : ∀ c, 0 < ways l c a ↔ has l c a = true :=
 mQ ha λc ih => by
  rw [uN ha]
  constructor
  ·intro h
   by_cases hc:c=a
   ·rw [hc]; exact nz l a
   ·rw [if_neg hc,Nat.zero_add,zb] at h
    obtain ⟨p,hp,h⟩:=h
    exact kW (rM hp) ((ih p hp).1 h)
  ·intro h
   rcases rO h with rfl | ⟨p,hp,h⟩
   ·rw [if_pos rfl]; omega
   ·have:0<((par l c).map λp=>ways l p a).sum:=zb.2 ⟨p,hp,(ih p hp).2 h⟩
    omega
theorem KG (ha:gF l) (a:Nm):ways l a a=1:=by
 rw [uN ha,if_pos rfl]
 have:¬ 0<((par l a).map λp=>ways l p a).sum:=λh=>by
  obtain ⟨p,hp,h⟩:=zb.1 h
  have:=(Mw ha a p).1 h
  rw [ha a p hp] at this; cases this
 omega
theorem HY {α : Type} {f : α -> Nat} {k:Nat}:∀ {xs:List α},(∀ x∈xs,f x≤k)->(xs.map f).sum≤xs.length * k
 | [],_=>by simp
 | x::t,h=>by
  have:=HY (f:=f) (xs:=t) λy hy=>h y<|by simp [hy]
  have:=h x<|by simp
  rw [List.map_cons,List.sum_cons,List.length_cons,Nat.succ_mul]
  omega
theorem ways_le (ha : gF l) (hp : ∀ c, (par l c).length ≤ 4) (a : Nm) : ∀ c, ways l c a ≤ 4 ^ rk l c :=
 mQ ha λc ih => by
  by_cases hc:c=a
  ·rw [hc,KG ha]; exact Nat.pow_pos (by omega)
  ·rw [uN ha,if_neg hc,Nat.zero_add]
   cases hr:rk l c with
   | zero =>
    have:par l c=[]:=List.eq_nil_iff_forall_not_mem.2 λp hp=>by have:=iC ha hp; omega
    rw [this]; simp
   | succ n =>
    have h1:=HY (f:=λp=>ways l p a) (k:=4 ^ n) (xs:=par l c) λp hp=>Nat.le_trans (ih p hp)<|Nat.pow_le_pow_right (by omega) (by have:=iC ha hp; omega)
    have h2:=Nat.mul_le_mul_right (4 ^ n)<|hp c
    rw [Nat.pow_succ]
    omega

/-! ## Levels -/
def mx (xs:List Nat):Nat:=xs.foldl max 0
theorem KH (a:Nat):∀ xs:List Nat,xs.foldl max a=max a (mx xs):=by
 intro xs
 unfold mx
 induction xs generalizing a with
 | nil=>simp
 | cons x t ih=>rw [List.foldl_cons,ih,List.foldl_cons,ih (max 0 x)]; omega
theorem mx_snoc (xs:List Nat) (x:Nat):mx (xs++[x])=max (mx xs) x:=by simp [mx,List.foldl_append]
theorem mx_cons (xs:List Nat) (x:Nat):mx (x::xs)=max x (mx xs):=by rw [mx,List.foldl_cons,KH]; omega
theorem Mx:∀ {xs:List Nat},0<mx xs->mx xs∈xs
 | [],h=>by simp [mx] at h
 | y::t,h=>by
  rw [mx_cons] at h ⊢
  by_cases hy:mx t≤y
  ·rw [Nat.max_eq_left hy]; simp
  ·rw [Nat.max_eq_right (by omega)]; exact List.mem_cons_of_mem _ (Mx<|by omega)
theorem mx_le {xs:List Nat} {k:Nat} (h:∀ x∈xs,x≤k):mx xs≤k:=by
 rcases Nat.eq_zero_or_pos (mx xs) with h0 | h0
 ·omega
 ·exact h _<|Mx h0
def lvf (l:Sys):Nat->Nm->Nat
 | 0,_=>0
 | f+1,c=>mx ((par l c).map λp=>lvf l f p+1)
def lv (l:Sys) (c:Nm):Nat:=lvf l (l.length+1) c
theorem EM (ha:gF l):∀ (f g:Nat) (c:Nm),rk l c<f->rk l c<g->lvf l f c=lvf l g c
 | 0,_,_,h,_=>by omega
 | _,0,_,_,h=>by omega
 | f+1,g+1,c,hf,hg=>by
  unfold lvf
  rw [List.map_congr_left λp hp=>by rw [EM ha f g p (by have:=iC ha hp; omega) (by have:=iC ha hp; omega)]]
theorem MB (ha:gF l) (c:Nm):lv l c=mx ((par l c).map λp=>lv l p+1):=by
 unfold lv
 rw [lvf,List.map_congr_left λp hp=>by rw [EM ha l.length (l.length+1) p (by have:=iC ha hp; have:=qz l c; omega) (uM l p)]]
theorem lv_le (ha:gF l):∀ c,lv l c≤rk l c :=
 mQ ha λc ih=>by
  rw [MB ha c]
  refine mx_le λx hx=>?_
  obtain ⟨p,hp,rfl⟩:=List.mem_map.1 hx
  have:=ih p hp
  have:=iC ha hp
  omega
/-! ## The order of all -/
def opn (l:Sys) (o:List Nm) (c:Nm):Bool := !o.contains c && (par l c).all o.contains
def jD (l:Sys):Nat->List Nm
 | 0=>[]
 | k+1=>jD l k++[jh ((nms l).filter (opn l (jD l k)))]
def order (l:Sys):List Nm:=jD l l.length
theorem JD {o:List Nm} {c:Nm}:opn l o c=true↔c ∉ o/\∀ p∈par l c,p∈o:=by simp [opn]
theorem qB (l:Sys):∀ k,(jD l k).length=k
 | 0=>rfl
 | k+1=>by simp [jD,qB l k]
theorem EN (ha : gF l) {o : List Nm} : ∀ c, isC l c = true -> c ∉ o -> ∃ x ∈ nms l, opn l o x = true :=
 mQ ha λc ih=>by
 intro hc hn
 by_cases h:∀ p∈par l c,p∈o
 ·exact ⟨c,fD.1 hc,JD.2 ⟨hn,h⟩⟩
 ·obtain ⟨p,hp,h⟩:∃ p,p∈par l c/\p ∉ o:=by
   apply Classical.byContradiction
   intro hh
   exact h λp hp=>Classical.byContradiction λhq=>hh ⟨p,hp,hq⟩
  exact ih p hp (kK hp) h
theorem wS (ha : gF l) (hu : (nms l).Nodup) : ∀ k, k ≤ l.length -> Tp l (jD l k) /\ ∀ x ∈ jD l k, x ∈ nms l
 | 0,_=>⟨.nil,λx h=>by simp [jD] at h⟩
 | k+1,hk=>by
  obtain ⟨h1,h2⟩:=wS ha hu k<|by omega
  have hex:∃ c,c∈nms l/\c ∉ jD l k:=by
   apply Classical.byContradiction
   intro hh
   have:=aT (b:=jD l k) hu λx hx=>Classical.byContradiction λhq=>hh ⟨x,hx,hq⟩
   rw [qB] at this
   simp [nms] at this
   omega
  obtain ⟨c,hc,hn⟩:=hex
  obtain ⟨x,hx,hox⟩:=EN ha c (fD.2 hc) hn
  have hm:=uJ (l:=(nms l).filter<|opn l<|jD l k)<|List.ne_nil_of_mem<|List.mem_filter.2 ⟨hx,hox⟩
  obtain ⟨m1,m2⟩:=List.mem_filter.1 hm
  obtain ⟨m3,m4⟩:=JD.1 m2
  refine ⟨h1.snoc m3 m4,λy hy=>?_⟩
  rcases List.mem_append.1 hy with hy | hy
  ·exact h2 y hy
  ·simp at hy; rw [hy]; exact m1
theorem KI (ha:gF l) (hu:(nms l).Nodup) {k:Nat} (hk:k<l.length):(nms l).filter (opn l (jD l k))≠[]:=by
 have h2:=(wS ha hu k<|by omega).2
 have hex:∃ c,c∈nms l/\c ∉ jD l k:=by
  apply Classical.byContradiction
  intro hh
  have:=aT (b:=jD l k) hu λx hx=>Classical.byContradiction λhq=>hh ⟨x,hx,hq⟩
  rw [qB] at this
  simp [nms] at this
  omega
 obtain ⟨c,hc,hn⟩:=hex
 obtain ⟨x,hx,hox⟩:=EN ha c (fD.2 hc) hn
 exact List.ne_nil_of_mem<|List.mem_filter.2 ⟨hx,hox⟩
theorem wT {α : Type} [DecidableEq α] {a b:List α} (ha:a.Nodup) (hs:∀ x∈a,x∈b) (hl:b.length≤a.length):∀ x∈b,x∈a:=by
 intro x hx
 apply Classical.byContradiction
 intro hn
 have:=aT (a:=x::a) (b:=b) (List.nodup_cons.2 ⟨hn,ha⟩) λy hy=>by
  rcases List.mem_cons.1 hy with rfl | hy
  ·exact hx
  ·exact hs y hy
 simp at this
 omega
theorem jE (ha:gF l) (hu:(nms l).Nodup):Tp l (order l)/\∀ x,x∈order l↔x∈nms l:=by
 obtain ⟨h1,h2⟩:=wS ha hu l.length<|Nat.le_refl _
 exact ⟨h1,λx=>⟨h2 x,wT h1.nodup h2 (by rw [qB]; simp [nms]) x⟩⟩
variable {l:Sys}

/-! ## Names in order, each once -/
def Srt (xs:List Nm):Prop:=xs.Pairwise λa b=>lt a b=true
def put:List Nm->Nm->List Nm
 | [],x=>[x]
 | y::t,x=>if lt y x then y::put t x else if y=x then y::t else x::y::t
def srt (xs:List Nm):List Nm:=xs.foldl put []
theorem Dy : ∀ {o : List Nm} {x y : Nm}, y ∈ put o x ↔ y ∈ o ∨ y = x
 | [],x,y=>by simp [put]
 | z :: t, x, y => by
  unfold put
  split
  ·rw [List.mem_cons,Dy,List.mem_cons,or_assoc]
  ·split
   ·rename_i h; subst h
    exact ⟨.inl,λh=>h.elim id λh=>h ▸ List.mem_cons_self⟩
   ·simp only [List.mem_cons]
    exact ⟨λh=>h.elim .inr .inl,λh=>h.elim .inr .inl⟩
theorem JE : ∀ {o : List Nm} {x : Nm}, Srt o -> Srt (put o x)
 | [],x,_=>by simp [put,Srt]
 | z :: t, x, h => by
  obtain ⟨h1,h2⟩:=List.pairwise_cons.1 h
  unfold put
  split
  ·rename_i hz
   refine List.pairwise_cons.2 ⟨λy hy=>?_,JE h2⟩
   rcases Dy.1 hy with hy | rfl
   ·exact h1 y hy
   ·exact hz
  ·rename_i hz
   split
   ·exact h
   ·rename_i hne
    have hx:lt x z=true:=by
     rcases dU x z with h | h | h
     ·exact h
     ·exact absurd h.symm hne
     ·exact absurd h hz
    refine List.pairwise_cons.2 ⟨λy hy=>?_,h⟩
    rcases List.mem_cons.1 hy with rfl | hy
    ·exact hx
    ·exact lt_trans hx<|h1 y hy
theorem iG (xs:List Nm):Srt (srt xs)/\∀ y,y∈srt xs↔y∈xs:=by
 have key:∀ (xs o:List Nm),Srt o->Srt (xs.foldl put o)/\∀ y,y∈xs.foldl put o↔y∈o∨y∈xs:=by
  intro xs
  induction xs with
  | nil=>intro o h; exact ⟨h,λy=>by simp⟩
  | cons x t ih =>
   intro o h
   obtain ⟨h1,h2⟩:=ih (put o x)<|JE h
   refine ⟨h1,λy=>?_⟩
   rw [List.foldl_cons,h2,Dy,List.mem_cons,or_assoc]
 obtain ⟨h1,h2⟩:=key xs [] List.Pairwise.nil
 exact ⟨h1,λy=>by rw [srt,h2]; simp⟩
theorem Srt.ext : ∀ {a b : List Nm}, Srt a -> Srt b -> (∀ x, x ∈ a ↔ x ∈ b) -> a = b
 | [],[],_,_,_=>rfl
 | [],y::t,_,_,h=>by have:=(h y).2 (by simp); simp at this
 | x::s,[],_,_,h=>by have:=(h x).1 (by simp); simp at this
 | x :: s, y :: t, ha, hb, h => by
  obtain ⟨a1,a2⟩:=List.pairwise_cons.1 ha
  obtain ⟨b1,b2⟩:=List.pairwise_cons.1 hb
  have hxy:x=y:=by
   rcases List.mem_cons.1 ((h x).1 (by simp)) with h1 | h1
   ·exact h1
   ·rcases List.mem_cons.1 ((h y).2 (by simp)) with h2 | h2
    ·exact h2.symm
    ·have:=lt_trans (a1 y h2) (b1 x h1); rw [lt_irrefl] at this; cases this
  subst hxy
  rw [Srt.ext a2 b2 λz=>?_]
  constructor
  ·intro hz
   rcases List.mem_cons.1 ((h z).1 (by simp [hz])) with rfl | h1
   ·have:=a1 z hz; rw [lt_irrefl] at this; cases this
   ·exact h1
  ·intro hz
   rcases List.mem_cons.1 ((h z).2 (by simp [hz])) with rfl | h1
   ·have:=b1 z hz; rw [lt_irrefl] at this; cases this
   ·exact h1
theorem Srt.nodup {a:List Nm} (h:Srt a):a.Nodup:=h.imp λhab e=>by rw [e,lt_irrefl] at hab; cases hab
theorem srt_eq {a b:List Nm} (hn:a.Nodup) (h:a.Pairwise λx y=>lt y x=false) (hm:∀ x,x∈a↔x∈b):a=srt b:=by
 have hs:Srt a:=by
  clear hm
  induction a with
  | nil=>exact List.Pairwise.nil
  | cons x t ih =>
   obtain ⟨h1,h2⟩:=List.pairwise_cons.1 h
   obtain ⟨n1,n2⟩:=List.nodup_cons.1 hn
   refine List.pairwise_cons.2 ⟨λy hy=>?_,ih n2 h2⟩
   rcases dU x y with h | h | h
   ·exact h
   ·exact absurd (h ▸ hy) n1
   ·rw [h1 y hy] at h; cases h
 exact hs.ext (iG b).1 λx=>by rw [hm,(iG b).2]

/-! ## Levels -/
def row (l:Sys) (o:List Nm) (n:Nat):List Nm:=o.filter λc=>lv l c == n
def high (l:Sys) (o:List Nm):Nat:=mx (o.map λc=>lv l c+1)
def rows (l:Sys) (o:List Nm):List (List Nm):=(List.range<|high l o).map (row l o)
def levels (l:Sys):List (List Nm):=(List.range<|high l<|nms l).map λn=>srt<|row l (nms l) n
/-! ## Least common ancestors -/
def common (l:Sys) (a b:Nm):List Nm:=(above l a).filter λc=>has l b c
def lowest (l:Sys) (cs:List Nm) (c:Nm):Bool := !cs.any λd=>d != c && has l d c
def least (l:Sys) (a b:Nm):List Nm:=srt ((common l a b).filter<|lowest l<|common l a b)
variable {l:Sys}

/-! ## Shortest ways -/
def nexts (l:Sys) (to:Nm) (k:Nat) (c:Nm):List Nm:=(par l c).filter λp=>gQ l to p == some k
def short (l:Sys) (to:Nm):Nat->Nm->List Nm
 | 0,c=>[c]
 | k+1,c=>c::short l to k (jh (nexts l to k c))
theorem fE (l:Sys) (to:Nm):∀ k c,(short l to k c).length=k+1
 | 0,_=>rfl
 | k+1,c=>by rw [short,List.length_cons,fE l to k]
theorem EO {to c:Nm} {k:Nat} (h:gQ l to c=some (k+1)):nexts l to k c≠[]:=by
 obtain ⟨h1,h2⟩:=ig.1 h
 obtain ⟨p,hp,h3⟩:=gD.1 h1
 refine List.ne_nil_of_mem<|List.mem_filter.2 ⟨hp,?_⟩
 simp only [beq_iff_eq]
 refine ig.2 ⟨h3,λi hi=>?_⟩
 cases hw:W l to i p with
 | false=>rfl
 | true =>
  have:=h2 (i+1)<|by omega
  rw [gD.2 ⟨p,hp,hw⟩] at this; cases this
theorem BR {to c:Nm} {k:Nat} (h:gQ l to c=some (k+1)):jh (nexts l to k c)∈par l c/\gQ l to (jh (nexts l to k c))=some k:=by
 obtain ⟨h1,h2⟩:=List.mem_filter.1<|uJ<|EO h
 have h3:(gQ l to (jh<|nexts l to k c) == some k)=true:=h2
 exact ⟨h1,beq_iff_eq.1 h3⟩
def Way (l:Sys) (to:Nm):List Nm->Nm->Prop
 | [],_=>False
 | [x],c=>x=c/\c=to
 | x::y::t,c=>x=c/\y∈par l c/\Way l to (y::t) y
theorem BS (l : Sys) (to : Nm) : ∀ k c, gQ l to c = some k -> Way l to (short l to k c) c
 | 0,c,h=>by
  have:=(ig.1 h).1
  exact ⟨rfl,by simpa [W] using this⟩
 | k + 1, c, h => by
  obtain ⟨h1,h2⟩:=BR h
  have ih:=BS l to k _ h2
  rw [short]
  cases hs:short l to k (jh<|nexts l to k c) with
  | nil=>have:=fE l to k (jh (nexts l to k c)); rw [hs] at this; cases this
  | cons y t =>
   have hy:y=jh (nexts l to k c):=by
    cases k with
    | zero=>rw [short] at hs; cases hs; rfl
    | succ k=>rw [short] at hs; cases hs; rfl
   rw [hs,<- hy] at ih
   exact ⟨rfl,hy ▸ h1,ih⟩
/-! ## Rings -/
def BU:List Nm->List Nm->Bool
 | _,[]=>false
 | [],_::_=>true
 | a::x,b::y=>lt a b || (a == b && BU x y)
def zI (a b:List Nm):Bool:=decide (a.length<b.length) || (decide (a.length=b.length) && BU a b)
def better (b:Option (List Nm)) (r:List Nm):Option (List Nm):=
 match b with
 | none=>some r
 | some q=>if zI r q then some r else some q
def ql (l:Sys) (c p:Nm):Option (List Nm):=(gQ l c p).map λk=>c::(short l c k p).dropLast
def zJ (l:Sys):List (List Nm):=(nms l).flatMap λc=>(par l c).filterMap<|ql l c
def ring (l:Sys):Option (List Nm):=(zJ l).foldl better none
theorem mg : ∀ (rs : List (List Nm)) (b : Option (List Nm)), (rs.foldl better b = none ↔ b = none /\ rs = []) /\ ∀ r, rs.foldl better b = some r -> b = some r ∨ r ∈ rs
 | [],b=>by simp
 | r :: t, b => by
  have hb:better b r≠none:=by cases b <;> simp [better]; split <;> simp
  obtain ⟨h1,h2⟩:=mg t<|better b r
  rw [List.foldl_cons]
  refine ⟨by rw [h1]; simp [hb],λq hq=>?_⟩
  rcases h2 q hq with h | h
  ·cases b with
   | none=>simp [better] at h; exact .inr (by simp [h])
   | some z =>
    simp only [better] at h
    split at h
    ·simp at h; exact .inr (by simp [h])
    ·exact .inl h
  ·exact .inr<|by simp [h]
theorem KJ:zJ l=[]↔gF l:=by
 unfold zJ
 rw [List.flatMap_eq_nil_iff]
 constructor
 ·intro h c p hp
  have h1:=List.filterMap_eq_nil_iff.1 (h c<|fD.1<|sU hp) p hp
  unfold ql at h1
  unfold has
  cases hd:gQ l c p with
  | none=>rfl
  | some k=>rw [hd] at h1; cases h1
 ·intro h c _
  refine List.filterMap_eq_nil_iff.2 λp hp=>?_
  have:=h c p hp
  unfold has at this
  unfold ql
  cases hd:gQ l c p with
  | none=>rfl
  | some k=>rw [hd] at this; cases this
theorem BV:ring l=none↔gF l:=by
 unfold ring
 rw [(mg _ _).1,KJ]
 simp
theorem ME {r:List Nm} (h:ring l=some r):r∈zJ l:=((mg _ _).2 r h).resolve_left (by simp)

/-! ## Right systems -/
def upper (b:UInt8):Bool:=decide (65≤b.toNat) && decide (b.toNat≤90)
def digit (b:UInt8):Bool:=decide (48≤b.toNat) && decide (b.toNat≤57)
def reserved : List Nm := ["INTEGER".toUTF8.data.toList, "BOOLEAN".toUTF8.data.toList, "ANY".toUTF8.data.toList, "NONE".toUTF8.data.toList]
def named (s:Nm):Bool:=match s with
 | []=>false
 | b::_=>decide (s.length≤20) && upper b && s.all (λb=>upper b || digit b || b.toNat == 95) && !reserved.contains s
def idx (l:Sys) (c:Nm):Option Nat:=l.findIdx? λx=>x.name == c
def alone (l:Sys) (i:Nat) (x:Cls):Int :=
 if 4<x.parents.length then 3 else if named x.name=false then 4 else if idx l x.name≠some i∨¬ x.parents.Nodup then 6 else 0
def lost (l:Sys) (x:Cls):Bool:=x.parents.any λp => !isC l p
def check (l : Sys) : Int × Nm :=
 if 24<l.length then (3,[]) else
 match (l.zipIdx.map λq=>(alone l q.2 q.1,q.1.name)).find? λe=>e.1 != 0 with
 | some e=>e
 | none =>
  match List.find? (lost l) l with
  | some x=>(5,x.name)
  | none=>match ring l with
   | some r=>(7,r.headD [])
   | none=>(0,[])
structure Right (l:Sys):Prop where
 len:l.length≤24
 few:∀ x∈l,x.parents.length≤4
 nam:∀ x∈l,named x.name=true
 uniq:(nms l).Nodup
 once:∀ x∈l,x.parents.Nodup
 all:∀ x∈l,∀ p∈x.parents,isC l p=true
 acyc:gF l
theorem gT {i:Nat} {x:Cls}:alone l i x=0↔x.parents.length≤4/\named x.name=true/\idx l x.name=some i/\x.parents.Nodup:=by
 unfold alone
 split
 ·rename_i h; simp; omega
 ·rename_i h
  split
  ·rename_i h2; simp [h2]
  ·rename_i h2
   have h2:named x.name=true:=by simpa using h2
   split
   ·rename_i h3
    simp only [h2,true_and]
    constructor
    ·intro h; cases h
    ·rintro ⟨_,h4,h5⟩; exact absurd h3 (by simp [h4,h5])
   ·rename_i h3
    have h3:=not_or.1 h3
    exact ⟨λ_=>⟨by omega,h2,Classical.not_not.1 h3.1,Classical.not_not.1 h3.2⟩,λ_=>rfl⟩
theorem EP:(∀ (i:Nat) (x:Cls),l[i]? = some x->idx l x.name=some i)↔(nms l).Nodup:=by
 constructor
 ·intro h
  unfold nms
  rw [List.nodup_iff_pairwise_ne,List.pairwise_iff_getElem]
  intro i j hi hj hij
  simp only [List.length_map] at hi hj
  rw [List.getElem_map,List.getElem_map]
  intro e
  have h1:=h i _<|List.getElem?_eq_getElem hi
  have h2:=h j _<|List.getElem?_eq_getElem hj
  rw [e,h2] at h1
  cases h1; omega
 ·intro h i x hx
  obtain ⟨hi,he⟩:=List.getElem?_eq_some_iff.1 hx
  unfold idx
  rw [List.findIdx?_eq_some_iff_getElem]
  refine ⟨hi,by simp [he],λj hj=>?_⟩
  have:=(List.pairwise_iff_getElem.1<|List.nodup_iff_pairwise_ne.1 h) j i (by simp [nms]; omega) (by simp [nms]; omega) hj
  simp only [nms,List.getElem_map] at this
  simp only [beq_iff_eq,Bool.not_eq_true]
  simpa [he] using this
theorem oF:(check l).1=0↔Right l:=by
 unfold check
 split
 ·rename_i h
  exact ⟨λh=>(by cases h),λh'=>by have:=h'.len; omega⟩
 ·rename_i h
  split
  ·rename_i e he
   have h1:=List.find?_some he
   have h2:=List.mem_of_find?_eq_some he
   obtain ⟨⟨x,i⟩,hq,rfl⟩:=List.mem_map.1 h2
   simp only [bne_iff_ne,ne_eq] at h1
   refine ⟨λh=>absurd h h1,λhr=>absurd (gT.2 ?_) h1⟩
   have hx:=List.mem_zipIdx_iff_getElem?.1 hq
   have hm:x∈l:=List.mem_of_getElem? hx
   exact ⟨hr.few x hm,hr.nam x hm,EP.2 hr.uniq i x hx,hr.once x hm⟩
  ·rename_i h1
   rw [List.find?_eq_none] at h1
   have h2:∀ (i:Nat) (x:Cls),l[i]? = some x->alone l i x=0:=λi x hx=>by
    have:=h1 _<|List.mem_map.2 ⟨(x,i),List.mem_zipIdx_iff_getElem?.2 hx,rfl⟩
    simpa using this
   split
   ·rename_i x hx
    refine ⟨λh=>(by cases h),λhr=>?_⟩
    have h3:=List.find?_some hx
    have h4:=List.mem_of_find?_eq_some hx
    obtain ⟨p,hp,h5⟩:=List.any_eq_true.1 h3
    rw [hr.all x h4 p hp] at h5; cases h5
   ·rename_i hx
    rw [List.find?_eq_none] at hx
    split
    ·rename_i r hr
     refine ⟨λh=>(by cases h),λh'=>?_⟩
     rw [BV.2 h'.acyc] at hr; cases hr
    ·rename_i hr
     refine ⟨λ_=>?_,λ_=>rfl⟩
     have h3:∀ x∈l,∃ i,l[i]? = some x:=λx hx=>List.getElem?_of_mem hx
     refine ⟨by omega,λx hx=>?_,λx hx=>?_,EP.1 λi x hi=>(gT.1<|h2 i x hi).2.2.1,λx hx=>?_,λx hxm p hp=>?_,BV.1 hr⟩
     ·obtain ⟨i,hi⟩:=h3 x hx; exact (gT.1<|h2 i x hi).1
     ·obtain ⟨i,hi⟩:=h3 x hx; exact (gT.1<|h2 i x hi).2.1
     ·obtain ⟨i,hi⟩:=h3 x hx; exact (gT.1<|h2 i x hi).2.2.2
     ·have:=hx x hxm
      unfold lost at this
      rw [List.any_eq_true] at this
      cases hc:isC l p with
      | true=>rfl
      | false=>exact absurd ⟨p,hp,by rw [hc]; rfl⟩ this
theorem Right.pars_eq (h:Right l) (c:Nm):pars l c=par l c:=by
 unfold par
 symm
 rw [List.filter_eq_self]
 intro p hp
 unfold pars at hp
 cases hf:find l c with
 | none=>rw [hf] at hp; simp at hp
 | some x=>rw [hf] at hp; exact h.all x (rJ hf).2 p hp
variable {l:Sys}

/-! ## Needless links -/
def spare (l:Sys) (c p:Nm):Bool:=(par l c).any λq=>q != p && has l q p
def MF (l:Sys):List (Nm×Nm):=(nms l).flatMap λc=>((par l c).filter<|spare l c).map λp=>(c,p)
/-! ## Without some links -/
def cut (l:Sys) (gone:List (Nm×Nm)):Sys:=l.map λx=>{ name:=x.name,parents:=x.parents.filter λp => !gone.contains (x.name,p),feats:=0 }
theorem JF (gone:List (Nm×Nm)):nms (cut l gone)=nms l:=by simp [nms,cut]
theorem JG (gone:List (Nm×Nm)) (c:Nm):isC (cut l gone) c=isC l c:=by
 rw [Bool.eq_iff_iff,fD,fD,JF]
theorem MG (gone:List (Nm×Nm)) (c:Nm):find (cut l gone) c=(find l c).map λx=>{ name:=x.name,parents:=x.parents.filter λp => !gone.contains (x.name,p),feats:=0 }:=by
 unfold find cut
 rw [List.find?_map]
 rfl
theorem yu {gone:List (Nm×Nm)} {c p:Nm}:p∈par (cut l gone) c↔p∈par l c/\(c,p) ∉ gone:=by
 unfold par pars
 rw [MG]
 cases hf:find l c with
 | none=>simp
 | some x =>
  have hx:=(rJ hf).1
  subst hx
  simp only [Option.map_some,Option.getD_some,List.mem_filter,JG]
  simp only [Bool.not_eq_true',List.contains_eq_mem,decide_eq_false_iff_not]
  exact ⟨λ⟨⟨a,b⟩,d⟩=>⟨⟨a,d⟩,b⟩,λ⟨⟨a,d⟩,b⟩=>⟨⟨a,b⟩,d⟩⟩
theorem W_cut {gone:List (Nm×Nm)} {to:Nm}:∀ {k:Nat} {c:Nm},W (cut l gone) to k c=true->W l to k c=true
 | 0,_,h=>h
 | k+1,c,h=>by
  obtain ⟨p,hp,h⟩:=gD.1 h
  exact gD.2 ⟨p,(yu.1 hp).1,W_cut h⟩
theorem has_cut {gone:List (Nm×Nm)} {c a:Nm} (h:has (cut l gone) c a=true):has l c a=true:=by
 obtain ⟨k,h⟩:=fV.1 h
 exact fV.2 ⟨k,W_cut h⟩
theorem Right.cut (h : Right l) (gone : List (Nm × Nm)) : Right (cut l gone) where
 len:=by simp [Hr.cut]; exact h.len
 few x hx:=by
  obtain ⟨y,hy,rfl⟩:=List.mem_map.1 hx
  exact Nat.le_trans (List.length_filter_le _ _)<|h.few y hy
 nam x hx:=by
  obtain ⟨y,hy,rfl⟩:=List.mem_map.1 hx
  exact h.nam y hy
 uniq:=by rw [JF]; exact h.uniq
 once x hx:=by
  obtain ⟨y,hy,rfl⟩:=List.mem_map.1 hx
  exact List.Nodup.sublist List.filter_sublist<|h.once y hy
 all x hx p hp:=by
  obtain ⟨y,hy,rfl⟩:=List.mem_map.1 hx
  rw [JG]
  exact h.all y hy p (List.mem_filter.1 hp).1
 acyc c p hp:=by
  cases hh:has (Hr.cut l gone) p c with
  | false=>rfl
  | true =>
   have:=has_cut hh
   rw [h.acyc c p (yu.1 hp).1] at this; cases this
/-! ## What is touched -/
def touched (l:Sys) (names:List Nm):List Nm:=(nms l).filter λc=>names.any λa=>has l c a
def below (l:Sys) (a:Nm):List Nm:=(nms l).filter λc=>has l c a
variable {l:Sys}

/-! ## The order of lists -/
def lexLe (a b:List Nm):Prop:=BU b a=false
/-! ## Shortest ways are least -/
theorem EQ {to:Nm}:∀ {t:List Nm} {c:Nm},Way l to t c->∃ s,t=c::s
 | [x],c,h=>⟨[],by rw [h.1]⟩
 | x::y::t,c,h=>⟨y::t,by rw [h.1]⟩
theorem ER {to:Nm}:∀ {t:List Nm} {c:Nm},Way l to t c->t.getLast? = some to
 | [x],c,h=>by simp [h.1,h.2]
 | x::y::t,c,⟨_,_,h⟩=>by rw [List.getLast?_cons_cons]; exact ER h
/-! ## The specification's search -/
def zK (w:List Nm):Nm:=w.getLastD []
def ins1:List (List Nm)->List Nm->List (List Nm)
 | [],one=>[one]
 | w::t,one=>if zK w=zK one then (if BU one w then one::t else w::t) else w::ins1 t one
def ext1 (l:Sys) (next:List (List Nm)) (w:List Nm):List (List Nm):=(par l<|zK w).foldl (λn p=>ins1 n (w++[p])) next
def expand (l:Sys) (lists:List (List Nm)):List (List Nm):=lists.foldl (ext1 l) []
def lsts (l:Sys) (c:Nm):Nat->List (List Nm)
 | 0=>[[c]]
 | k+1=>expand l (lsts l c k)
def hit (a:Nm) (lists:List (List Nm)):Option (List Nm):=lists.find? λw=>zK w == a
def further (l:Sys) (c a:Nm):List Nm:=(((List.range (l.length+1)).findSome? λk=>hit a<|lsts l c (k+1)).getD [])
def Ones (P:List Nm->Prop) (ls:List (List Nm)):Prop:=(∀ w∈ls,P w)/\(ls.map zK).Nodup
def Cov (ls:List (List Nm)) (v:List Nm):Prop:=∃ w∈ls,zK w=zK v/\lexLe w v
variable {l:Sys}

/-! ## Ways by places -/
def Steps (l:Sys) (t:List Nm):Prop:=∀ (i:Nat) (a b:Nm),t[i]? = some a->t[i+1]? = some b->b∈par l a
theorem BX {to : Nm} : ∀ {t : List Nm} {c : Nm}, Way l to t c -> Steps l t
 | [x],c,_,i,a,b,h1,h2=>by simp at h2
 | x::y::t,c,⟨h1,h2,h3⟩,i,a,b,g1,g2=>by
  cases i with
  | zero =>
   simp at g1 g2
   subst g1 g2 h1; exact h2
  | succ i=>exact BX h3 i a b (by simpa using g1) (by simpa using g2)
theorem BZ {to:Nm}:∀ {t:List Nm} {c:Nm},Steps l t->t.head? = some c->t.getLast? = some to->Way l to t c
 | [],_,_,h,_=>by simp at h
 | [x],c,_,h1,h2=>by simp at h1 h2; exact ⟨h1,by rw [<- h1]; exact h2⟩
 | x::y::t,c,hs,h1,h2=>by
  simp at h1
  subst h1
  exact ⟨rfl,hs 0 x y rfl rfl,BZ (λi a b g1 g2=>hs (i+1) a b (by simpa using g1)<|by simpa using g2) rfl (by rw [List.getLast?_cons_cons] at h2; exact h2)⟩

/-! ## Ways that are accepted -/
def wayOk (l:Sys) (c a:Nm) (t:List Nm):Bool :=
 t.head? == some c && t.getLast? == some a && (List.range (t.length - 1)).all λi=>(par l<|t.getD i []).contains<|t.getD (i+1) []
/-! ## Rings that are accepted -/
def zL (l:Sys) (r:List Nm):Bool :=
 !r.isEmpty && decide r.Nodup && (List.range r.length).all λi=>(par l<|r.getD i []).contains<|r.getD ((i+1) % r.length) []
theorem Dz {α : Type} {xs:List α} {i:Nat} (d : α) (h:i<xs.length):xs[i]? = some (xs.getD i d):=by
 rw [List.getD_eq_getElem?_getD,List.getElem?_eq_getElem h]; rfl
theorem HZ {c:Nm} {s:List Nm}:zL l (c::s)=true↔(c::s).Nodup/\Way l c (c::s++[c]) c:=by
 unfold zL
 simp only [List.isEmpty_cons,Bool.not_false,Bool.true_and,Bool.and_eq_true,decide_eq_true_eq,List.all_eq_true,List.mem_range,List.contains_eq_mem]
 refine and_congr_right λhn=>?_
 have hget:∀ i,i<(c::s).length->(c::s++[c])[i+1]? = some ((c::s).getD ((i+1) % (c::s).length) []):=λi hi=>by
  rcases Nat.lt_or_ge (i+1) (c::s).length with h | h
  ·rw [Nat.mod_eq_of_lt h,List.getElem?_append_left h,Dz [] h]
  ·have:i+1=(c::s).length:=by omega
   rw [this,Nat.mod_self,List.getElem?_append_right (Nat.le_refl _)]
   simp
 constructor
 ·intro h
  refine BZ (λi x y g1 g2=>?_) rfl List.getLast?_concat
  have hlt:i+1<(c::s++[c]).length:=(List.getElem?_eq_some_iff.1 g2).1
  have hi:i<(c::s).length:=by simp at hlt ⊢; omega
  rw [hget i hi] at g2
  rw [List.getElem?_append_left hi,Dz [] hi] at g1
  cases g1; cases g2
  exact h i hi
 ·intro h i hi
  refine BX h i _ _ ?_<|hget i hi
  rw [List.getElem?_append_left hi,Dz [] hi]
theorem DC {to:Nm} {t:List Nm} {c:Nm} (h:Way l to t c):t=t.dropLast++[to]:=by
 have hne:t≠[]:=by obtain ⟨s,rfl⟩:=EQ h; simp
 have h1:=ER h
 rw [List.getLast?_eq_some_getLast hne] at h1
 rw [<- Option.some.inj h1]
 exact (List.dropLast_concat_getLast hne).symm
theorem ES {to:Nm}:∀ {t:List Nm} {c:Nm},Way l to t c->Path l to t.dropLast c
 | [x],c,h=>by rw [<- h.2]; rfl
 | x::y::t,c,⟨h1,h2,h3⟩=>by
  rw [List.dropLast_cons_cons]
  exact ⟨h1,y,h2,ES h3⟩
theorem cand_ok {r:List Nm} (h:r∈zJ l):zL l r=true/\r.length≤l.length:=by
 obtain ⟨c,_,h⟩:=List.mem_flatMap.1 h
 obtain ⟨p,hp,h⟩:=List.mem_filterMap.1 h
 unfold ql at h
 obtain ⟨k,hk,rfl⟩:=Option.map_eq_some_iff.1 h
 have hw:=BS l c k p hk
 have hpath:=ES hw
 have hlen:((short l c k p).dropLast).length=k:=by rw [List.length_dropLast,fE]; omega
 have hmin:∀ j,j<((short l c k p).dropLast).length->W l c j p=false:=λj hj=>(ig.1 hk).2 j (by omega)
 have hn1:=sW hpath hmin
 have hc : c ∉ (short l c k p).dropLast := λhm => by
  obtain ⟨i,hi,he⟩:=List.getElem_of_mem hm
  have : W l c i p = true := by
   have key:∀ (t:List Nm) (q:Nm) (i:Nat),Path l c t q->t[i]? = some c->W l c i q=true:=by
    intro t
    induction t with
    | nil=>intro q i _ h; simp at h
    | cons x t ih =>
     intro q i ⟨h1,p',h2,h3⟩ h4
     cases i with
     | zero=>simp at h4; simp [W,<- h1,h4]
     | succ i=>exact gD.2 ⟨p',h2,ih p' i h3 (by simpa using h4)⟩
   exact key _ p i hpath<|by rw [List.getElem?_eq_getElem hi,he]
  rw [hmin i hi] at this; cases this
 have hnd:(c::(short l c k p).dropLast).Nodup:=List.nodup_cons.2 ⟨hc,hn1⟩
 refine ⟨HZ.2 ⟨hnd,?_⟩,?_⟩
 ·rw [List.cons_append,<- DC hw]
  obtain ⟨s,hs⟩:=EQ hw
  rw [hs] at hw ⊢
  exact ⟨rfl,hp,hw⟩
 ·have:=aT (b:=nms l) hnd λx hx=>by
   rcases List.mem_cons.1 hx with rfl | hx
   ·exact fD.1<|sU hp
   ·exact fD.1<|zG hpath x hx
  simpa [nms] using this
theorem ring_ok {r:List Nm} (h:ring l=some r):zL l r=true/\r.length≤l.length:=cand_ok (ME h)
variable {l:Sys}
section
variable {α : Type}
def dW (F:List (Nm × α)) (k:Nm):Option α := (F.find? (·.1 == k)).map (·.2)
def fT:List (Nm × α)->Nm -> α -> List (Nm × α)
 | [],k,v=>[(k,v)]
 | p::t,k,v=>if p.1=k then (k,v)::t else p::fT t k v
theorem dM {p:Nm × α} {t:List (Nm × α)} {k:Nm}:dW (p::t) k=if p.1=k then some p.2 else dW t k:=by
 by_cases h:p.1=k
 ·simp [dW,h]
 ·have:(p.1 == k)=false:=by simp [h]
  simp [dW,List.find?_cons,this,h]
theorem kX (F:List (Nm × α)) (k k':Nm) (v : α):dW (fT F k v) k'=if k'=k then some v else dW F k':=by
 induction F with
 | nil =>
  by_cases h:k'=k
  ·simp [fT,dM,h]
  ·have:¬ k=k':=λe=>h e.symm
   simp [fT,dM,h,this]
 | cons p t ih =>
  unfold fT
  by_cases hp:p.1=k
  ·rw [if_pos hp,dM,dM]
   by_cases h:k'=k
   ·simp [h]
   ·have:¬ k=k':=λe=>h e.symm
    simp [h,this,hp]
  ·rw [if_neg hp,dM,ih,dM]
   by_cases h:p.1=k'
   ·have:¬ k'=k:=λe=>hp<|h.trans e
    simp [h,this]
   ·simp [h]
theorem KL {F:List (Nm × α)} {k:Nm} {v : α} (h:dW F k=some v):k∈F.map (·.1):=by
 unfold dW at h
 obtain ⟨p,hp,_⟩:=Option.map_eq_some_iff.1 h
 exact List.mem_map.2 ⟨p,List.mem_of_find?_eq_some hp,by simpa using List.find?_some hp⟩
theorem zM {F:List (Nm × α)} {k:Nm}:dW F k=none↔k ∉ F.map (·.1):=by
 simp only [dW,Option.map_eq_none_iff,List.find?_eq_none,List.mem_map,beq_iff_eq,not_exists,not_and]
theorem ET {F:List (Nm × α)} {k:Nm} {v : α} (h:dW F k=none):fT F k v=F++[(k,v)]:=by
 induction F with
 | nil=>rfl
 | cons p t ih =>
  rw [dM] at h
  by_cases hp:p.1=k
  ·rw [if_pos hp] at h; cases h
  ·rw [if_neg hp] at h
   simp [fT,hp,ih h]
theorem Ca {F:List (Nm × α)} {k:Nm} {v v0 : α} (h:dW F k=some v0):(fT F k v).map (·.1)=F.map (·.1):=by
 induction F with
 | nil=>cases h
 | cons p t ih =>
  rw [dM] at h
  unfold fT
  by_cases hp:p.1=k
  ·rw [if_pos hp]; simp [hp]
  ·rw [if_neg hp] at h ⊢
   simp [ih h]
theorem MH {F:List (Nm×Nat)} {k:Nm} {v v0:Nat} (h:dW F k=some v0):((fT F k v).map (·.2)).sum+v0=(F.map (·.2)).sum+v:=by
 induction F with
 | nil=>cases h
 | cons p t ih =>
  rw [dM] at h
  unfold fT
  by_cases hp:p.1=k
  ·rw [if_pos hp] at h ⊢
   cases h
   simp only [List.map_cons,List.sum_cons]; omega
  ·rw [if_neg hp] at h ⊢
   have:=ih h
   simp only [List.map_cons,List.sum_cons]; omega
end
/-! ## Distances -/
structure FarI (l:Sys) (to:Nm) (F:List (Nm×Nat)):Prop where
 self:dW F to=some 0
 walk:∀ x n,dW F x=some n->W l to n x=true/\n<F.length
 keys:∀ x∈F.map (·.1),x=to∨x∈nms l
 nodup:(F.map (·.1)).Nodup
theorem FarI.init (l : Sys) (to : Nm) : FarI l to [(to, 0)] where
 self:=by simp [dM]
 walk x n h:=by
  rw [dM] at h
  split at h
  ·rename_i he
   cases h
   simp only at he
   exact ⟨by simp [W,he],by simp⟩
  ·cases h
 keys x h:=by simp at h; exact .inl h
 nodup:=by simp
theorem FarI.len {to:Nm} {F:List (Nm×Nat)} (h:FarI l to F):F.length≤l.length+1:=by
 have:=aT (b:=to::nms l) h.nodup λx hx=>by
  rcases h.keys x hx with rfl | h
  ·simp
  ·simp [h]
 simpa [nms] using this
def pot (l:Sys) (F:List (Nm×Nat)):Nat:=(l.length+1 - F.length) * (l.length+2)+(F.map (·.2)).sum
theorem FarI.better {to : Nm} {F : List (Nm × Nat)} (h : FarI l to F) {c p : Nm} {n : Nat} (hp : p ∈ par l c) (hn : dW F p = some n) (hb : ∀ n', dW F c = some n' -> n + 1 < n') :
  FarI l to (fT F c (n+1))/\pot l (fT F c (n+1))<pot l F:=by
 obtain ⟨w1,w2⟩:=h.walk p n hn
 have hlen:=h.len
 have hcto:c≠to:=λe=>by have:=hb 0 (by rw [e]; exact h.self); omega
 cases hc:dW F c with
 | none =>
  have he:=ET (v:=n+1) hc
  have hk:c ∉ F.map (·.1):=zM.1 hc
  have hnd:((fT F c (n+1)).map (·.1)).Nodup:=by
   rw [he,List.map_append]
   exact List.nodup_append.2 ⟨h.nodup,by simp,λx hx y hy e=>by simp at hy; exact hk (hy ▸ e ▸ hx)⟩
  have hF : FarI l to (fT F c (n + 1)) := {
   self:=by rw [kX,if_neg (λe=>hcto e.symm)]; exact h.self
   walk:=λx m hx=>by
    rw [kX] at hx
    have hl:(fT F c (n+1)).length=F.length+1:=by rw [he]; simp
    split at hx
    ·rename_i hxc
     cases hx
     exact ⟨hxc ▸ gD.2 ⟨p,hp,w1⟩,by omega⟩
    ·have:=h.walk x m hx
     exact ⟨this.1,by omega⟩
   keys:=λx hx=>by
    rw [he,List.map_append,List.mem_append] at hx
    rcases hx with hx | hx
    ·exact h.keys x hx
    ·simp at hx; rw [hx]; exact .inr (fD.1<|sU hp)
   nodup:=hnd }
  refine ⟨hF,?_⟩
  have h1:=hF.len
  unfold pot
  rw [he] at h1 ⊢
  simp only [List.length_append,List.length_singleton,List.map_append,List.map_cons,List.map_nil,List.sum_append,List.sum_cons,List.sum_nil] at h1 ⊢
  obtain ⟨d,hd⟩:∃ d,l.length+1 - F.length=d+1:=⟨l.length - F.length,by omega⟩
  rw [hd,show l.length+1 - (F.length+1)=d by omega,Nat.succ_mul]
  omega
 | some v0 =>
  have hk:=Ca (v:=n+1) hc
  have hl:(fT F c (n+1)).length=F.length:=by
   have:=congrArg List.length hk
   simpa using this
  have hlt:=hb v0 hc
  refine ⟨{
   self:=by rw [kX,if_neg (λe=>hcto e.symm)]; exact h.self
   walk:=λx m hx=>by
    rw [kX] at hx
    split at hx
    ·rename_i hxc
     cases hx
     have:=(h.walk c v0 hc).2
     exact ⟨hxc ▸ gD.2 ⟨p,hp,w1⟩,by omega⟩
    ·have:=h.walk x m hx
     exact ⟨this.1,by omega⟩
   keys:=λx hx=>h.keys x (hk ▸ hx)
   nodup:=by rw [hk]; exact h.nodup },?_⟩
  have:=MH (v:=n+1) hc
  unfold pot
  rw [hl]
  omega
def Rel (F:List (Nm×Nat)) (c p:Nm):Prop:=∀ n,dW F p=some n->∃ n',dW F c=some n'/\n'≤n+1
theorem FarI.done {to:Nm} {F:List (Nm×Nat)} (h:FarI l to F) (hr:∀ c p,p∈par l c->Rel F c p) (x:Nm):dW F x=gQ l to x:=by
 have key:∀ k x,W l to k x=true->∃ n,n≤k/\dW F x=some n:=by
  intro k
  induction k with
  | zero=>intro x hx; exact ⟨0,Nat.le_refl _,by rw [show x=to by simpa [W] using hx]; exact h.self⟩
  | succ k ih =>
   intro x hx
   obtain ⟨p,hp,hw⟩:=gD.1 hx
   obtain ⟨n,h1,h2⟩:=ih p hw
   obtain ⟨n',h3,h4⟩:=hr x p hp n h2
   exact ⟨n',by omega,h3⟩
 cases hd:gQ l to x with
 | none =>
  cases hx:dW F x with
  | none=>rfl
  | some n=>have:=(h.walk x n hx).1; rw [BM.1 hd n] at this; cases this
 | some k =>
  obtain ⟨h1,h2⟩:=ig.1 hd
  obtain ⟨n,h3,h4⟩:=key k x h1
  rw [h4]
  rcases Nat.lt_or_ge n k with h' | h'
  ·have:=(h.walk x n h4).1
   rw [h2 n h'] at this; cases this
  ·rw [show n=k by omega]
variable {l:Sys}
theorem EU (h:24<l.length):check l=(3,[]):=by unfold check; rw [if_pos h]
theorem mh (h:l.length≤24) {i:Nat} {x:Cls} (hx:l[i]? = some x) (hb:∀ (j:Nat) (y:Cls),j<i->l[j]? = some y->alone l j y=0) (hn:alone l i x≠0):check l=(alone l i x,x.name):=by
 have hf:(l.zipIdx.map λq=>(alone l q.2 q.1,q.1.name)).find? (λe=>e.1 != 0)=some (alone l i x,x.name):=by
  rw [List.find?_eq_some_iff_getElem]
  obtain ⟨hi,he⟩:=List.getElem?_eq_some_iff.1 hx
  refine ⟨by simpa using hn,i,by simpa using hi,by simp [he],λj hj=>?_⟩
  have:=hb j _ hj<|List.getElem?_eq_getElem<|by omega
  simp [this]
 unfold check
 rw [if_neg (by omega),hf]
theorem wU (hb:∀ (j:Nat) (y:Cls),l[j]? = some y->alone l j y=0):(l.zipIdx.map λq=>(alone l q.2 q.1,q.1.name)).find? (λe=>e.1 != 0)=none:=by
 rw [List.find?_eq_none]
 intro e he
 obtain ⟨⟨x,i⟩,hq,rfl⟩:=List.mem_map.1 he
 have:=hb i x<|List.mem_zipIdx_iff_getElem?.1 hq
 simp [this]
theorem H5 (h:l.length≤24) (hb:∀ (j:Nat) (y:Cls),l[j]? = some y->alone l j y=0) {i:Nat} {x:Cls} (hx:l[i]? = some x) (hl:∀ (j:Nat) (y:Cls),j<i->l[j]? = some y->lost l y=false) (hn:lost l x=true):check l=(5,x.name):=by
 have hf:List.find? (lost l) l=some x:=by
  rw [List.find?_eq_some_iff_getElem]
  obtain ⟨hi,he⟩:=List.getElem?_eq_some_iff.1 hx
  exact ⟨hn,i,hi,he,λj hj=>by rw [hl j _ hj (List.getElem?_eq_getElem<|by omega)]; decide⟩
 unfold check
 rw [if_neg (by omega),wU hb]
 simp only [hf]
theorem EW (hl:∀ (j:Nat) (y:Cls),l[j]? = some y->lost l y=false):List.find? (lost l) l=none:=by
 rw [List.find?_eq_none]
 intro x hx
 obtain ⟨j,hj⟩:=List.getElem?_of_mem hx
 rw [hl j x hj]; decide
theorem H6 (h:l.length≤24) (hb:∀ (j:Nat) (y:Cls),l[j]? = some y->alone l j y=0) (hl:∀ (j:Nat) (y:Cls),l[j]? = some y->lost l y=false) {r:List Nm} (hr:ring l=some r):check l=(7,r.headD []):=by
 unfold check
 rw [if_neg (by omega),wU hb]
 simp only [EW hl,hr]
theorem MI (h:l.length≤24) (hb:∀ (j:Nat) (y:Cls),l[j]? = some y->alone l j y=0) (hl:∀ (j:Nat) (y:Cls),l[j]? = some y->lost l y=false) (hr:ring l=none):check l=(0,[]):=by
 unfold check
 rw [if_neg (by omega),wU hb]
 simp only [EW hl,hr]
variable {l:Sys}
def qC (F:List (Nm×Nat)) (x:Nm):Nat:=(dW F x).getD 0
theorem zN (F:List (Nm×Nat)) (k x:Nm) (n:Nat):qC (fT F k n) x=if x=k then n else qC F x:=by
 unfold qC
 rw [kX]
 split <;> rfl
def WaysI (l:Sys) (a:Nm) (o:List Nm) (F:List (Nm×Nat)):Prop:=∀ y,qC F y=if y∈o then ways l y a else if y=a then 1 else 0
def zO (l:Sys) (a:Nm) (o:List Nm) (x:Nm) (ps:List Nm) (F:List (Nm×Nat)):Prop:=∀ y,qC F y=if y=x then (if x=a then 1 else 0)+(ps.map λp=>ways l p a).sum else if y∈o then ways l y a else if y=a then 1 else 0
theorem WaysI.init (l:Sys) (a:Nm):WaysI l a [] [(a,1)]:=λy=>by
 unfold qC
 rw [dM]
 by_cases h:a=y
 ·simp [h]
 ·rw [if_neg h]
  have:¬ y=a:=λe=>h e.symm
  simp [this,dW]
theorem zO.next {a x p:Nm} {o ps:List Nm} {F:List (Nm×Nat)} (h:zO l a o x ps F) (hp:p∈o) (hx:x ∉ o):zO l a o x (ps++[p]) (fT F x (qC F x+qC F p)):=λy=>by
 have hpx:p≠x:=λe=>hx (e ▸ hp)
 rw [zN]
 by_cases hy:y=x
 ·subst hy
  rw [if_pos rfl,if_pos rfl,h y,if_pos rfl,h p,if_neg hpx,if_pos hp]
  simp; omega
 ·rw [if_neg hy,if_neg hy,h y,if_neg hy]
theorem zO.done (ha:gF l) {a x:Nm} {o:List Nm} {F:List (Nm×Nat)} (h:zO l a o x (par l x) F):WaysI l a (o++[x]) F:=λy=>by
 rw [h y]
 by_cases hy:y=x
 ·subst hy
  rw [if_pos rfl,if_pos (show y∈o++[y] by simp),uN ha]
 ·rw [if_neg hy]; simp [hy]
theorem zO.le (ha:gF l) {a x:Nm} {o ps:List Nm} {F:List (Nm×Nat)} (h:zO l a o x ps F) (hps:∀ p∈ps,p∈par l x) (hl:ps.length≤4) (h4:∀ c,(par l c).length≤4) (h24:l.length≤24) (y:Nm):qC F y≤1+4 * 4 ^ 24:=by
 have hb:∀ c,ways l c a≤4 ^ 24:=λc=>Nat.le_trans (ways_le ha h4 a c)<|Nat.pow_le_pow_right (by omega)<|Nat.le_trans (qz l c) h24
 rw [h y]
 split
 ·have h1:(ps.map λp=>ways l p a).sum≤ps.length * 4 ^ 24:=HY λp _=>hb p
  have h2:ps.length * 4 ^ 24≤4 * 4 ^ 24:=Nat.mul_le_mul_right _ hl
  split <;> omega
 ·split
  ·have:=hb y; omega
  ·split <;> omega
/-! ## Levels in a table -/
def LevI (l:Sys) (o:List Nm) (F:List (Nm×Nat)):Prop:=∀ y,qC F y=if y∈o then lv l y else 0
def LevK (l:Sys) (o:List Nm) (x:Nm) (ps:List Nm) (F:List (Nm×Nat)):Prop:=∀ y,qC F y=if y=x then mx (ps.map λp=>lv l p+1) else if y∈o then lv l y else 0
theorem LevI.init (l:Sys):LevI l [] []:=λy=>by simp [qC,dW]
theorem LevK.next {x p:Nm} {o ps:List Nm} {F:List (Nm×Nat)} (h:LevK l o x ps F) (hp:p∈o) (hx:x ∉ o):LevK l o x (ps++[p]) (fT F x (max (qC F x) (qC F p+1))):=λy=>by
 have hpx:p≠x:=λe=>hx (e ▸ hp)
 rw [zN]
 by_cases hy:y=x
 ·subst hy
  rw [if_pos rfl,if_pos rfl,h y,if_pos rfl,h p,if_neg hpx,if_pos hp,List.map_append,List.map_singleton,mx_snoc]
 ·rw [if_neg hy,if_neg hy,h y,if_neg hy]
theorem LevK.done (ha:gF l) {x:Nm} {o:List Nm} {F:List (Nm×Nat)} (h:LevK l o x (par l x) F):LevI l (o++[x]) F:=λy=>by
 rw [h y]
 by_cases hy:y=x
 ·subst hy
  rw [if_pos rfl,if_pos (show y∈o++[y] by simp),MB ha]
 ·rw [if_neg hy]; simp [hy]
theorem lv_24 (ha:gF l) (h24:l.length≤24) (c:Nm):lv l c≤24:=Nat.le_trans (lv_le ha c) (Nat.le_trans (qz l c) h24)
theorem LevK.le (ha:gF l) {x:Nm} {o ps:List Nm} {F:List (Nm×Nat)} (h:LevK l o x ps F) (h24:l.length≤24) (y:Nm):qC F y≤25:=by
 rw [h y]
 split
 ·exact mx_le λz hz=>by
   obtain ⟨p,_,rfl⟩:=List.mem_map.1 hz
   have:=lv_24 ha h24 p
   omega
 ·split
  ·have:=lv_24 ha h24 y; omega
  ·omega
variable {l:Sys}
def LvI (l:Sys) (done:List Nm) (F:List (Nm×Nat)):Prop:=∀ n,qC F n=if n∈done then lv l n+1 else 0
theorem LvI.init:LvI l [] []:=λn=>by simp [qC,dW]
theorem LvI.next {done:List Nm} {F:List (Nm×Nat)} (h:LvI l done F) {n:Nm} {x:Nat} (hx:lv l n=x):LvI l (done++[n]) (fT F n (x+1)):=λm=>by
 rw [zN,h m]
 by_cases hm:m=n
 ·subst hm; simp [hx]
 ·simp [hm]
def most (l:Sys) (ps:List Nm):Nat:=mx (ps.map λp=>lv l p+1)
def addE (l:Sys) (x:Cls):Int:=if (check l).1=0 then (check (l++[x])).1 else (check l).1
def rest (l:Sys) (c:Nm):Sys:=l.filter λx=>x.name != c
def used (l:Sys) (c:Nm):Bool:=l.any λx=>x.parents.contains c
section
variable {l:Sys} {x:Cls} {c:Nm}
theorem Right.new (h:Right (l++[x])):x.name ∉ nms l:=by
 have:=h.uniq
 unfold nms at this
 rw [List.map_append,List.nodup_append] at this
 exact λhx=>this.2.2 _ hx x.name (by simp) rfl
end
end Go.Hr
namespace Go.Ck
open Go

/-! ## What is known of a frame -/
abbrev Env:=List (Nat×Value)
def Env.get? : Env->Nat->Option Value
 | [],_=>none
 | (j,v)::t,i=>bif Nat.beq j i then some v else Env.get? t i
def Env.ev? (e:Env):Operand->Option Value
 | .tmp t=>e.get? t
 | .const v=>some v
 | .global g=>some (.pointer (some ⟨g,0,none⟩))
 | .func f=>some (.func (.func f) #[] #[])

structure Kn (n:Nat) (ds:List Deferred) (a:Act) (e:Env):Prop where
 size:a.tmps.size=n
 defers:a.defers=ds
 get:∀ i v,e.get? i=some v->a.tmps[i]? = some v

theorem zP {a b:Nat} (h:a≠b):Nat.beq a b=false:=by
 cases hb:Nat.beq a b with
 | false=>rfl
 | true=>exact absurd (Nat.eq_of_beq_eq_true hb) h

theorem Kn.put {n:Nat} {ds:List Deferred} {a:Act} {e:Env} (h:Kn n ds a e) {d:Nat} (v:Value) (hd:d<n):Kn n ds (a.put (some d) v) ((d,v)::e):=by
 refine ⟨by simp [Act.put,h.size],h.defers,λi u hi=>?_⟩
 by_cases hid:d=i
 ·subst hid
  simp only [Env.get?,Nat.beq_refl,cond_true,Option.some.injEq] at hi
  subst hi
  simp [Act.put,h.size,hd]
 ·simp only [Env.get?,zP hid,cond_false] at hi
  simp only [Act.put,Array.getElem?_setIfInBounds_ne hid]
  exact h.get i u hi

theorem Kn.ev {n:Nat} {ds:List Deferred} {a:Act} {e:Env} (h:Kn n ds a e) {x:Operand} {v:Value} (hx:e.ev? x=some v):a.eval x=v:=by
 cases x with
 | tmp t=>simp only [Env.ev?] at hx; simp [Act.eval,Array.getD_eq_getD_getElem?,h.get t v hx]
 | const u=>simpa [Env.ev?,Act.eval] using hx
 | global g=>simpa [Env.ev?,Act.eval] using hx
 | func f=>simpa [Env.ev?,Act.eval] using hx

def Env.sub:Env->Env->Prop
 | [],_=>True
 | (j,v)::t,e=>e.get? j=some v/\Env.sub t e
theorem Env.sub_get {e' e:Env} (h:Env.sub e' e) {i:Nat} {v:Value} (hi:e'.get? i=some v):e.get? i=some v:=by
 induction e' with
 | nil=>simp [Env.get?] at hi
 | cons q t ih =>
  obtain ⟨p,u⟩:=q
  obtain ⟨h1,h2⟩:=h
  by_cases hp:p=i
  ·subst hp
   simp only [Env.get?,Nat.beq_refl,cond_true,Option.some.injEq] at hi
   rw [<- hi]; exact h1
  ·simp only [Env.get?,zP hp,cond_false] at hi
   exact ih h2 hi
theorem Kn.weaken {n:Nat} {ds:List Deferred} {a:Act} {e e':Env} (h:Kn n ds a e) (hs:Env.sub e' e):Kn n ds a e' :=
 ⟨h.size,h.defers,λi v hi=>h.get i v<|Env.sub_get hs hi⟩

/-! ## What is known of the heap -/
structure Res where
 dom:Nat->Prop
 ok:(Nat->Option Obj)->Prop
 loc:∀ f g,(∀ b,dom b->f b=g b)->ok f->ok g
 pres:∀ f,ok f->∀ b,dom b->(f b).isSome=true
abbrev SH:=List Res
def SH.dom:SH->Nat->Prop
 | [],_=>False
 | r::t,b=>r.dom b∨SH.dom t b
def bi (f:Nat->Option Obj):SH->Prop
 | []=>True
 | r::t=>r.ok f/\(∀ b,r.dom b->¬ SH.dom t b)/\bi f t
def hp (w:World):Nat->Option Obj:=λb=>w.heap[b]?
def Holds (w:World) (h:SH):Prop:=bi (hp w) h

theorem SH.dom_append {h k:SH} {b:Nat}:SH.dom (h++k) b↔SH.dom h b∨SH.dom k b:=by
 induction h with
 | nil=>simp [SH.dom]
 | cons r t ih=>simp only [List.cons_append,SH.dom,ih,or_assoc]

theorem SH.dom_perm {h k:SH} (hk:h.Perm k) {b:Nat}:SH.dom h b↔SH.dom k b:=by
 induction hk with
 | nil=>exact Iff.rfl
 | cons x _ ih=>simp only [SH.dom,ih]
 | swap x y l=>simp only [SH.dom]; constructor <;> (rintro (h | h | h) <;> simp [h])
 | trans _ _ ih1 ih2=>exact ih1.trans ih2

theorem bi.perm {f:Nat->Option Obj} {h k:SH} (hk:h.Perm k):bi f h↔bi f k:=by
 induction hk with
 | nil=>exact Iff.rfl
 | cons x hp ih=>simp only [bi,ih,SH.dom_perm hp]
 | swap x y l =>
  simp only [bi,SH.dom]
  constructor
  ·rintro ⟨h1,h2,h3,h4,h5⟩
   exact ⟨h3,λb hb hn=>hn.elim (λhy=>h2 b hy<|.inl hb) (h4 b hb),h1,λb hb hn=>h2 b hb (.inr hn),h5⟩
  ·rintro ⟨h1,h2,h3,h4,h5⟩
   exact ⟨h3,λb hb hn=>hn.elim (λhy=>h2 b hy<|.inl hb) (h4 b hb),h1,λb hb hn=>h2 b hb (.inr hn),h5⟩
 | trans _ _ ih1 ih2=>exact ih1.trans ih2

theorem bi.append {f:Nat->Option Obj} {h k:SH}:bi f (h++k)↔bi f h/\bi f k/\∀ b,SH.dom h b->¬ SH.dom k b:=by
 induction h with
 | nil=>simp [bi,SH.dom]
 | cons r t ih =>
  simp only [List.cons_append,bi,ih,SH.dom_append,SH.dom]
  constructor
  ·rintro ⟨h1,h2,h3,h4,h5⟩
   exact ⟨⟨h1,λb hb hn=>h2 b hb (.inl hn),h3⟩,h4,λb hb hn=>hb.elim (λhr=>h2 b hr<|.inr hn)<|λht=>h5 b ht hn⟩
  ·rintro ⟨⟨h1,h2,h3⟩,h4,h5⟩
   exact ⟨h1,λb hb hn=>hn.elim (h2 b hb) (h5 b<|.inl hb),h3,h4,λb hb=>h5 b<|.inr hb⟩

theorem bi.loc {f g:Nat->Option Obj} {h:SH} (hh:bi f h) (he:∀ b,SH.dom h b->f b=g b):bi g h:=by
 induction h with
 | nil=>trivial
 | cons r t ih=>exact ⟨r.loc f g (λb hb=>he b (.inl hb)) hh.1,hh.2.1,ih hh.2.2 λb hb=>he b (.inr hb)⟩

theorem bi.pres {f:Nat->Option Obj} {h:SH} (hh:bi f h) {b:Nat} (hb:SH.dom h b):(f b).isSome=true:=by
 induction h with
 | nil=>exact hb.elim
 | cons r t ih=>exact hb.elim (r.pres f hh.1 b) (ih hh.2.2)

def Res.star (h:SH):Res:=⟨SH.dom h,λf=>bi f h,λ_ _ he hh=>hh.loc he,λ_ hh _ hb=>hh.pres hb⟩
theorem dx {f:Nat->Option Obj} {h k:SH}:bi f (Res.star h::k)↔bi f (h++k):=by
 rw [bi.append]
 simp only [bi,Res.star]
 exact ⟨λ⟨a,b,c⟩=>⟨a,c,b⟩,λ⟨a,c,b⟩=>⟨a,b,c⟩⟩

def pt (b:Nat) (o:Obj):Res:=⟨(· = b),λf=>f b=some o,λf g he hf=>by rw [<- he b rfl]; exact hf,λf hf c hc=>by rw [hc,hf]; rfl⟩
def old (W:World):Res:=⟨(· < W.heap.size),λf=>∀ b,b<W.heap.size->f b=W.heap[b]?,λf g he hf b hb=>by rw [<- he b hb]; exact hf b hb,
 λf hf b hb=>by rw [hf b hb,Array.getElem?_eq_getElem hb]; rfl⟩

theorem Holds.lt {w:World} {h:SH} (hh:Holds w h) {b:Nat} (hb:SH.dom h b):b<w.heap.size:=by
 have:=bi.pres hh hb
 simp only [hp] at this
 rcases Nat.lt_or_ge b w.heap.size with h1 | h1
 ·exact h1
 ·rw [Array.getElem?_eq_none h1] at this; cases this

structure Same (w w':World):Prop where
 os:w'.os=w.os
 tape:w'.tape=w.tape
 output:w'.output=w.output
 dw:w.drawn≤w'.drawn
 size:w.heap.size≤w'.heap.size
 fz:∀ a,a.block<w.heap.size->w'.frozen? a=w.frozen? a
theorem Same.refl (w:World):Same w w:=⟨rfl,rfl,rfl,Nat.le_refl _,Nat.le_refl _,λ_ _=>rfl⟩
theorem Same.trans {a b c:World} (h:Same a b) (k:Same b c):Same a c:=⟨k.os.trans h.os,k.tape.trans h.tape,k.output.trans h.output,Nat.le_trans h.dw k.dw,Nat.le_trans h.size k.size,λx hx=>(k.fz x<|Nat.lt_of_lt_of_le hx h.size).trans<|h.fz x hx⟩
def melt:Obj->Bool
 | .cells _ _ (lo,hi)=>Nat.ble hi lo
 | _=>true
theorem yw {w:World} {a:Addr} (h:∀ o,w.heap[a.block]? = some o->melt o=true):w.frozen? a=false:=by
 unfold World.frozen?
 cases hq:w.heap[a.block]? with
 | none=>rfl
 | some o =>
  have hm:=h o hq
  cases o with
  | cells c t f =>
   obtain ⟨lo,hi⟩:=f
   have:hi≤lo:=Nat.le_of_ble_eq_true hm
   simp; omega
  | _=>rfl
theorem oG {w w':World} {b:Nat} (h1:∀ o,w.heap[b]? = some o->melt o=true) (h2:∀ o,w'.heap[b]? = some o->melt o=true) (h3:∀ c,c≠b->w'.heap[c]? = w.heap[c]?) (a:Addr) (_:a.block<w.heap.size):w'.frozen? a=w.frozen? a:=by
 by_cases h:a.block=b
 ·rw [yw (w:=w) (by rw [h]; exact h1),yw (w:=w') (by rw [h]; exact h2)]
 ·unfold World.frozen?; rw [h3 _ h]

structure Grew (w w':World):Prop extends Same w w' where
 block:∀ b,b<w.heap.size->w'.heap[b]? = w.heap[b]?
theorem Grew.refl (w:World):Grew w w:=⟨Same.refl w,λ_ _=>rfl⟩
theorem Grew.trans {a b c:World} (h:Grew a b) (k:Grew b c):Grew a c :=
 ⟨h.toSame.trans k.toSame,λi hi=>(k.block i<|Nat.lt_of_lt_of_le hi h.size).trans<|h.block i hi⟩
theorem Holds.grew {w w':World} {h:SH} (hh:Holds w h) (hg:Grew w w'):Holds w' h :=
 bi.loc hh λb hb=>(hg.block b<|Holds.lt hh hb).symm
theorem Grew.drawn (w:World) (n:Nat) (hn:w.drawn≤n:=by exact Nat.le_succ _):Grew w { w with drawn:=n }:=⟨⟨rfl,rfl,rfl,hn,Nat.le_refl _,λ_ _=>rfl⟩,λ_ _=>rfl⟩
theorem alloc_old (w:World) (o:Obj) (b:Nat) (hb:b≠w.heap.size):(w.alloc o).heap[b]? = w.heap[b]? := by
 show (w.heap.push o)[b]? = _
 rw [Array.getElem?_push,if_neg (by omega)]
theorem Grew.alloc (w:World) (o:Obj) (ho:melt o=true):Grew w (w.alloc o):=⟨⟨rfl,rfl,rfl,Nat.le_refl _,by simp,oG (b:=w.heap.size) (λo' h=>by simp at h) (λo' h=>by
  have:(w.heap.push o)[w.heap.size]? = some o':=h
  simp at this; rw [<- this]; exact ho) (λc hc=>alloc_old w o c hc)⟩,λb hb=>alloc_old w o b (by omega)⟩

theorem Holds.alloc {w:World} {h:SH} (hh:Holds w h) (o:Obj):Holds (w.alloc o) (pt w.heap.size o::h):=by
 refine ⟨?_,λb hb hn=>?_,bi.loc hh λb hb=>(alloc_old w o b (by have:=Holds.lt hh hb; omega)).symm⟩
 ·show (w.heap.push o)[w.heap.size]? = some o
  simp
 ·have h1:b=w.heap.size:=hb
  have h2:=Holds.lt hh hn
  omega

theorem Holds.modify {w w':World} {b:Nat} {o o':Obj} {h:SH} (hh:Holds w (pt b o::h)) (h1:w'.heap[b]? = some o') (h2:∀ c,c≠b->w'.heap[c]? = w.heap[c]?):Holds w' (pt b o'::h):=
 ⟨h1,hh.2.1,bi.loc hh.2.2 λc hc=>(h2 c<|λe=>hh.2.1 b rfl (e ▸ hc)).symm⟩

/-! ## Selecting resources -/
inductive Sel:SH->Res->SH->Prop
 | here {r:Res} {t:SH}:Sel (r::t) r t
 | there {x r:Res} {t t':SH}:Sel t r t'->Sel (x::t) r (x::t')
theorem Sel.perm {h h':SH} {r:Res} (s:Sel h r h'):h.Perm (r::h'):=by
 induction s with
 | here=>exact .refl _
 | there _ ih=>exact (ih.cons _).trans (.swap _ _ _)
inductive Pk:SH->SH->SH->Prop
 | nil {h:SH}:Pk h [] h
 | cons {h h1 k hr:SH} {x:Res}:Sel h x h1->Pk h1 k hr->Pk h (x::k) hr
 | of {h k hr:SH}:h.Perm (k++hr)->Pk h k hr
theorem Pk.perm {h k hr:SH} (p:Pk h k hr):h.Perm (k++hr):=by
 induction p with
 | nil=>exact .refl _
 | cons s _ ih=>exact s.perm.trans (ih.cons _)
 | of h=>exact h
theorem Holds.perm {w:World} {h k:SH} (hk:h.Perm k) (hh:Holds w h):Holds w k:=(bi.perm hk).1 hh
theorem Holds.pk {w:World} {h k hr:SH} (p:Pk h k hr) (hh:Holds w h):Holds w (k++hr):=hh.perm p.perm
theorem Holds.sel {w:World} {h h':SH} {r:Res} (s:Sel h r h') (hh:Holds w h):Holds w (r::h'):=hh.perm s.perm

def Sub (k h:SH):Prop:=∃ x,h.Perm (k++x)
theorem Sub.refl (h:SH):Sub h h:=⟨[],by simp⟩
theorem Sub.nil (h:SH):Sub [] h:=⟨h,.refl _⟩
theorem Sub.cons {k h:SH} {x:Res} (s:Sub k h):Sub k (x::h):=let ⟨y,p⟩:=s; ⟨x::y,(p.cons x).trans List.perm_middle.symm⟩
theorem Sub.sel {h h1 k:SH} {x:Res} (s:Sel h x h1) (t:Sub k h1):Sub (x::k) h:=let ⟨y,p⟩:=t; ⟨y,s.perm.trans<|p.cons x⟩
theorem Sub.pk {h k x:SH} (p:Pk h k x):Sub k h:=⟨x,p.perm⟩
theorem Sub.of {k h:SH} (p:h.Perm k):Sub k h:=⟨[],by simpa using p⟩
theorem Sub.trans {a b d:SH} (p:Sub a b) (q:Sub b d):Sub a d:=let ⟨x,hx⟩:=p; let ⟨y,hy⟩:=q; ⟨x++y,hy.trans<|(hx.append_right y).trans<|by rw [List.append_assoc]⟩
theorem Holds.sub {w:World} {h k:SH} (s:Sub k h) (hh:Holds w h):Holds w k:=let ⟨_,p⟩:=s; (bi.append.1<|hh.perm p).1

/-! ## What a resource says of a cell -/
def Rd (r:Res) (p:Addr) (v:Value):Prop:=∀ w:World,r.ok (hp w)->w.cell? p=some v
theorem rd_pt {b off:Nat} {cs:Array Value} {T:TypeId} {fr:Nat×Nat} {v:Value} (h:cs[off]? = some v):Rd (pt b (.cells cs T fr)) ⟨b,off,none⟩ v:=λw hw=>by
 have hw':w.heap[b]? = some (.cells cs T fr):=hw
 simp [World.cell?,hw',h]
theorem MJ {W:World} {p:Addr} {v:Value} (hb:p.block<W.heap.size) (h:W.cell? p=some v):Rd (old W) p v:=λw hw=>by
 have hw':w.heap[p.block]? = W.heap[p.block]? := hw p.block hb
 rw [<- h]; exact World.cell?_of_block hw'
theorem oH {k:SH} {r:Res} {k':SH} {p:Addr} {v:Value} (s:Sel k r k') (h:Rd r p v):Rd (Res.star k) p v:=λw hw=>h w ((bi.perm s.perm).1 hw).1
theorem Rd.at {w:World} {h h':SH} {r:Res} {p:Addr} {v:Value} (hr:Rd r p v) (s:Sel h r h') (hh:Holds w h):w.cell? p=some v:=hr w (hh.sel s).1

/-! ## Contracts -/
def Ct (P:Program) (k:FuncId) (args:Array Value) (hf:SH) (R:Value->SH->Prop):Prop :=
 ∀ (hr:SH) (w:World),Holds w (hf++hr)->Calls P k args w λe w'=>∃ v h',e = .returned v/\R v h'/\Holds w' (h'++hr)/\Same w w'
def Cq (P:Program) (k:FuncId) (args:Array Value) (hf:SH) (v:Value):Prop :=
 ∀ (hr:SH) (w:World),Holds w (hf++hr)->Calls P k args w λe w'=>e = .returned v/\Grew w w'
theorem Ct.mono {P:Program} {k:FuncId} {args:Array Value} {hf:SH} {R R':Value->SH->Prop} (h:Ct P k args hf R) (hr:∀ v h',R v h'->R' v h'):Ct P k args hf R' :=
 λhr' w hw=>(h hr' w hw).mono λ_ _ ⟨v,h',e,r,rest⟩=>⟨v,h',e,hr v h' r,rest⟩
theorem Cq.ct {P:Program} {k:FuncId} {args:Array Value} {hf:SH} {v:Value} (h:Cq P k args hf v):Ct P k args hf λu h'=>u=v/\h'=hf :=
 λhr w hw=>(h hr w hw).mono λ_ _ ⟨e,g⟩=>⟨v,hf,e,⟨rfl,rfl⟩,Holds.grew hw g,g.toSame⟩
theorem slq {h h1:SH} {r:Res} (p:Sel h r h1:=by repeat (first | exact Sel.here | apply Sel.there)):Sel h r h1:=p
theorem sbq {k h:SH} (p:Sub k h:=by (repeat (refine Sub.sel (by repeat (first | exact Sel.here | apply Sel.there)) ?_)); (repeat apply Sub.cons); first | exact Sub.refl _ | exact Sub.nil _):Sub k h:=p
theorem sbr {k h:SH} (p:Sub k h:=by repeat (first | exact Sub.refl _ | exact Sub.nil _ | refine Sub.sel (by repeat (first | exact Sel.here | apply Sel.there)) ?_ | apply Sub.cons)):Sub k h:=p
theorem Zz {p : Prop} (h : p := by kernel_rfl) : p := h
theorem Zy {α : Type _} {l : List α} {i : Nat} (h : i < l.length) : l[i]? = some l[i] := List.getElem?_eq_getElem h
theorem Zx {p : Prop} (h : p := by simpa using hd) : p := h
theorem Zw {p : Prop} (h : p := by simpa using hd2) : p := h
theorem Zv {p : Prop} (h : p := by simpa using hne) : p := h
theorem Zu {p : Prop} (h : p := by simpa using hq) : p := h
theorem Zt {p : Prop} (h : p := by simpa using hu2) : p := h
theorem Zr {p : Prop} (h : p := by simpa using hd3) : p := h
theorem Zp {p : Prop} (h : p := by simpa using h2) : p := h
theorem Zo {p : Prop} (h : p := by simpa using h) : p := h
theorem Zn {p : Prop} (h : p := by simpa using hz) : p := h
theorem Zm {p : Prop} (h : p := by simpa using hl) : p := h
theorem Zl {p : Prop} (h : p := by simpa using hc) : p := h
theorem Zk {p : Prop} (h : p := by simpa using hn) : p := h
theorem Zj {p : Prop} (h : p := by simpa using he) : p := h
theorem Zi {p : Prop} (h : p := by simpa using hi) : p := h
theorem Zh {p : Prop} (h : p := by simpa using hsz) : p := h
theorem Zg {p : Prop} (h : p := by simpa using hj) : p := h
theorem Zf {p : Prop} (h : p := by simpa using h1) : p := h
theorem Ze {p : Prop} (h : p := by simpa using hct) : p := h
theorem Zd {p : Prop} (h : p := by simpa using hno) : p := h
theorem Zc {p : Prop} (h : p := by simpa using h3) : p := h
theorem Zb {p : Prop} (h : p := by simpa using ho2) : p := h
theorem Za {p : Prop} (h : p := by unfold I64 at *; omega) : p := h
end Go.Ck
