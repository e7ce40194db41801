/-
  A region that draws its order: one walk along an order that is checked by computation serves every order. Operations that only read what stays may come ahead of those with an effect. Generic: nothing of the program is named here. No condition.
-/
import Derived.ProofKit
import Derived.RangeFuncLeaves
import Derived.RangeFuncRecord
import Derived.OrdersIn
import Derived.TacticsIn
import Derived.WalkKit
import Derived.WalkSpells
set_option linter.unusedVariables false
set_option linter.unusedSimpArgs false
set_option maxRecDepth 100000
set_option maxHeartbeats 16000000
namespace Go.Hr
open Go
abbrev Nm:=List UInt8
structure Cls where
 name:Nm
 parents:List Nm
 feats:Nat
 deriving DecidableEq
abbrev Sys:=List Cls

/-! ## The order of names -/
abbrev lt (a b:Nm):Bool:=Op.bytesLess a b
theorem lt_irrefl:∀ a:Nm,lt a a=false
 | []=>rfl
 | a::t=>by
  have:=lt_irrefl t
  simp only [lt] at this
  simp [Op.bytesLess,this]
theorem lt_trans:∀ {a b c:Nm},lt a b=true->lt b c=true->lt a c=true
 | _,_,[],_,h2=>by simp [Op.bytesLess] at h2
 | _,[],_::_,h1,_=>by simp [Op.bytesLess] at h1
 | [],_::_,_::_,_,_=>rfl
 | a::x,b::y,c::z,h1,h2=>by
  simp only [lt,Op.bytesLess,Bool.or_eq_true,Bool.and_eq_true,decide_eq_true_eq,beq_iff_eq] at h1 h2 ⊢
  rcases h1 with h1 | ⟨h1,h3⟩ <;> rcases h2 with h2 | ⟨h2,h4⟩
  .exact .inl<|UInt8.lt_trans h1 h2
  .exact .inl (h2 ▸ h1)
  .exact .inl (h1 ▸ h2)
  .exact .inr ⟨h1.trans h2,lt_trans h3 h4⟩
theorem eu : ∀ a b : Nm, lt a b = true \/ a = b \/ lt b a = true
 | [],[]=>.inr (.inl rfl)
 | [],_::_=>.inl rfl
 | _::_,[]=>.inr (.inr rfl)
 | a::x,b::y=>by
  simp only [lt,Op.bytesLess,Bool.or_eq_true,Bool.and_eq_true,decide_eq_true_eq,beq_iff_eq]
  rcases Nat.lt_trichotomy a.toNat b.toNat with h | h | h
  .exact .inl<|.inl h
  .have hab:a=b:=UInt8.toNat_inj.1 h
   subst hab
   rcases eu x y with h | h | h
   .exact .inl<|.inr ⟨rfl,h⟩
   .exact .inr<|.inl<|by rw [h]
   .exact .inr<|.inr<|.inr ⟨rfl,h⟩
  .exact .inr<|.inr<|.inl h
theorem iQ {a b:Nm} (h:lt a b=true):lt b a=false:=by
 cases h2:lt b a with
 | false=>rfl
 | true=>have:=lt_trans h h2; rw [lt_irrefl] at this; cases this
theorem lt_eq {a b:Nm} (h1:lt a b=false) (h2:lt b a=false):a=b:=by
 rcases eu a b with h | h | h
 .rw [h1] at h; cases h
 .exact h
 .rw [h2] at h; cases h
def iY:List Nm->Nm
 | []=>[]
 | [a]=>a
 | a::b::t=>if lt (iY (b::t)) a then iY (b::t) else a
theorem uU:∀ {l:List Nm},l≠[]->iY l∈l
 | [a],_=>by simp [iY]
 | a::b::t,_=>by
  unfold iY
  split
  .exact List.mem_cons_of_mem _<|uU<|by simp
  .simp
theorem Kc : ∀ {l : List Nm} {x : Nm}, x ∈ l -> lt x (iY l) = false
 | [a],x,h=>by simp at h; subst h; exact lt_irrefl _
 | a :: b :: t, x, h => by
  unfold iY
  have ih:=λx => @Kc (b::t) x
  split
  .rename_i hm
   rcases List.mem_cons.1 h with rfl | h
   .exact iQ hm
   .exact ih x h
  .rename_i hm
   rcases List.mem_cons.1 h with rfl | h
   .exact lt_irrefl _
   .cases hx:lt x a with
    | false=>rfl
    | true =>
     have h1:=ih x h
     have hm':lt (iY (b::t)) a=false:=by simpa using hm
     rcases eu x (iY (b::t)) with h2 | h2 | h2
     .rw [h1] at h2; cases h2
     .rw [h2] at hx; rw [hm'] at hx; cases hx
     .rw [lt_trans h2 hx] at hm'; cases hm'
theorem Li {l:List Nm} {x:Nm} (h1:x∈l) (h2:∀ y∈l,lt y x=false):iY l=x :=
 lt_eq (h2 _<|uU<|List.ne_nil_of_mem h1) (Kc h1)

/-! ## Classes and parents -/
def find (l:Sys) (c:Nm):Option Cls:=List.find? (λx=>x.name == c) l
def isC (l:Sys) (c:Nm):Bool:=(find l c).isSome
def pars (l:Sys) (c:Nm):List Nm:=((find l c).map (·.parents)).getD []
def par (l:Sys) (c:Nm):List Nm:=(pars l c).filter (isC l)
def nms (l:Sys):List Nm:=l.map (·.name)
theorem su {l:Sys} {c:Nm} {x:Cls} (h:find l c=some x):x.name=c/\x∈l:=⟨by simpa using List.find?_some h,List.mem_of_find?_eq_some h⟩
theorem fV {l:Sys} {c:Nm}:isC l c=true↔c∈nms l:=by
 unfold isC find nms
 rw [List.find?_isSome,List.mem_map]
 exact ⟨λ⟨x,h1,h2⟩=>⟨x,h1,by simpa using h2⟩,λ⟨x,h1,h2⟩=>⟨x,h1,by simpa using h2⟩⟩
theorem kr {l:Sys} {c p:Nm} (h:p∈par l c):isC l p=true:=(List.mem_filter.1 h).2
theorem tQ {l:Sys} {c p:Nm} (h:p∈par l c):isC l c=true:=by
 have h1:=(List.mem_filter.1 h).1
 unfold pars at h1
 unfold isC
 cases hf:find l c with
 | none=>rw [hf] at h1; simp at h1
 | some x=>rfl

/-! ## Walks -/
def W (l:Sys) (to:Nm):Nat->Nm->Bool
 | 0,c=>c == to
 | k+1,c=>(par l c).any (W l to k)
theorem gQ {l:Sys} {to c:Nm} {k:Nat}:W l to (k+1) c=true↔∃ p∈par l c,W l to k p=true:=by
 simp [W]
theorem W_add {l:Sys} {a b c:Nm}:∀ {j k:Nat},W l b j c=true->W l a k b=true->W l a (j+k) c=true
 | 0,k,h1,h2=>by
  have:c=b:=by simpa [W] using h1
  rw [this,Nat.zero_add]; exact h2
 | j+1,k,h1,h2=>by
  obtain ⟨p,hp,h3⟩:=gQ.1 h1
  rw [show j+1+k=(j+k)+1 by omega]
  exact gQ.2 ⟨p,hp,W_add h3 h2⟩
def Path (l:Sys) (to:Nm):List Nm->Nm->Prop
 | [],c=>c=to
 | x::t,c=>x=c/\∃ p∈par l c,Path l to t p
theorem M8 {l:Sys} {to:Nm}:∀ {t:List Nm} {c:Nm},Path l to t c->W l to t.length c=true
 | [],c,h=>by have:c=to:=h; simp [W,this]
 | x::t,c,h=>by
  obtain ⟨_,p,hp,h⟩:=h
  exact gQ.2 ⟨p,hp,M8 h⟩
theorem M9 {l:Sys} {to:Nm}:∀ {k:Nat} {c:Nm},W l to k c=true->∃ t,t.length=k/\Path l to t c
 | 0,c,h=>⟨[],rfl,(by simpa [W] using h:c=to)⟩
 | k+1,c,h=>by
  obtain ⟨p,hp,h⟩:=gQ.1 h
  obtain ⟨t,h1,h2⟩:=M9 h
  exact ⟨c::t,by simp [h1],rfl,p,hp,h2⟩
theorem zB {l:Sys} {to:Nm}:∀ {t:List Nm} {c:Nm},Path l to t c->∀ x∈t,isC l x=true
 | x::t,c,⟨h1,p,hp,h⟩,y,hy=>by
  rcases List.mem_cons.1 hy with rfl | hy
  .rw [h1]; exact tQ hp
  .exact zB h y hy
theorem FK {l : Sys} {to : Nm} : ∀ {t : List Nm} {c : Nm}, Path l to t c -> ∀ x ∈ t, ∃ k, k <= t.length /\ 1 <= k /\ W l to k x = true /\ (x = c \/ k < t.length)
 | x::t,c,h,y,hy=>by
  rcases List.mem_cons.1 hy with rfl | hy
  .exact ⟨t.length+1,by simp,by omega,by have:=M8 h; obtain ⟨h1,_⟩:=h; rw [h1]; simpa using this,.inl h.1⟩
  .obtain ⟨h1,p,hp,h⟩:=h
   obtain ⟨k,h2,h3,h4,_⟩:=FK h y hy
   exact ⟨k,by simp; omega,h3,h4,.inr (by simp; omega)⟩
theorem aN {α : Type} [DecidableEq α]:∀ {a b:List α},a.Nodup->(∀ x∈a,x∈b)->a.length<=b.length
 | [],_,_,_=>by simp
 | x::t,b,h,hs=>by
  rw [List.nodup_cons] at h
  have h1:x∈b:=hs x<|by simp
  have h2:=aN (a:=t) (b:=b.erase x) h.2 λy hy=>(List.mem_erase_of_ne<|λe=>h.1 (by rw [<- e]; exact hy)).2 (hs y<|by simp [hy])
  rw [List.length_erase_of_mem h1] at h2
  have:=List.length_pos_of_mem h1
  simp; omega
theorem tT {l : Sys} {to : Nm} : ∀ {t : List Nm} {c : Nm}, Path l to t c -> (∀ j, j < t.length -> W l to j c = false) -> t.Nodup
 | [],_,_,_=>List.nodup_nil
 | x :: t, c, h, hm => by
  obtain ⟨rfl,p,hp,h⟩:=id h
  refine List.nodup_cons.2 ⟨λhx=>?_,tT h λj hj=>?_⟩
  .obtain ⟨k,h1,h2,h3,h4⟩:=FK h x hx
   have:=hm k (by simp; omega)
   rw [h3] at this; cases this
  .cases hw:W l to j p with
   | false=>rfl
   | true =>
    have:=hm (j+1) (by simp; omega)
    rw [gQ.2 ⟨p,hp,hw⟩] at this; cases this
theorem Ke {l:Sys} {to c:Nm}:∀ {k:Nat},W l to k c=true->∃ j,j<=k/\j<=l.length/\W l to j c=true/\∀ i,i<j->W l to i c=false:=by
 intro k
 induction k using Nat.strongRecOn with
 | _ k ih =>
  intro h
  by_cases hm:∀ i,i<k->W l to i c=false
  .obtain ⟨t,h1,h2⟩:=M9 h
   have h3:=tT h2 (by rw [h1]; exact hm)
   have h4:=aN (b:=nms l) h3 λx hx=>fV.1<|zB h2 x hx
   refine ⟨k,Nat.le_refl _,?_,h,hm⟩
   rw [<- h1]; simpa [nms] using h4
  .have : ∃ i, i < k /\ W l to i c = true := by
    apply Classical.byContradiction
    intro hn
    exact hm λi hi=>by
     cases hw:W l to i c with
     | false=>rfl
     | true=>exact absurd ⟨i,hi,hw⟩ hn
   obtain ⟨i,hi,hw⟩:=this
   obtain ⟨j,h1,h2,h3⟩:=ih i hi hw
   exact ⟨j,by omega,h2,h3⟩
def gZ (l:Sys) (to c:Nm):Option Nat:=(List.range (l.length+1)).find? λk=>W l to k c
theorem iF {l:Sys} {to c:Nm} {k:Nat}:gZ l to c=some k↔W l to k c=true/\∀ i,i<k->W l to i c=false:=by
 unfold gZ
 constructor
 .intro h
  rw [List.find?_range_eq_some] at h
  exact ⟨h.1,λi hi=>by simpa using h.2.2 i hi⟩
 .rintro ⟨h1,h2⟩
  obtain ⟨j,h3,h4,h5,h6⟩:=Ke h1
  have:j=k:=by
   rcases Nat.lt_or_ge j k with h | h
   .rw [h2 j h] at h5; cases h5
   .omega
  subst this
  rw [List.find?_range_eq_some]
  exact ⟨h1,by simp; omega,λi hi=>by simpa using h2 i hi⟩
theorem CK {l:Sys} {to c:Nm}:gZ l to c=none↔∀ k,W l to k c=false:=by
 constructor
 .intro h k
  cases hw:W l to k c with
  | false=>rfl
  | true =>
   obtain ⟨j,_,_,h3,h4⟩:=Ke hw
   rw [iF.2 ⟨h3,h4⟩] at h; cases h
 .intro h
  cases hd:gZ l to c with
  | none=>rfl
  | some k=>have:=(iF.1 hd).1; rw [h k] at this; cases this
def has (l:Sys) (c a:Nm):Bool:=(gZ l a c).isSome
theorem fH {l:Sys} {c a:Nm}:has l c a=true↔∃ k,W l a k c=true:=by
 unfold has
 cases hd:gZ l a c with
 | none=>simp [CK.1 hd]
 | some k=>simp; exact ⟨k,(iF.1 hd).1⟩
theorem lU (l:Sys) (c:Nm):has l c c=true:=fH.2 ⟨0,by simp [W]⟩
theorem oD {l:Sys} {a b c:Nm} (h1:has l a b=true) (h2:has l b c=true):has l a c=true:=by
 obtain ⟨j,h1⟩:=fH.1 h1
 obtain ⟨k,h2⟩:=fH.1 h2
 exact fH.2 ⟨j+k,W_add h1 h2⟩
theorem sw {l:Sys} {c p:Nm} (h:p∈par l c):has l c p=true:=fH.2 ⟨1,gQ.2 ⟨p,h,by simp [W]⟩⟩
theorem wH {l:Sys} {c a:Nm} (h:has l c a=true):c=a\/∃ p∈par l c,has l p a=true:=by
 obtain ⟨k,h⟩:=fH.1 h
 cases k with
 | zero=>exact .inl (by simpa [W] using h)
 | succ k =>
  obtain ⟨p,hp,h⟩:=gQ.1 h
  exact .inr ⟨p,hp,fH.2 ⟨k,h⟩⟩
theorem W_isC {l:Sys} {a:Nm}:∀ {k:Nat} {c:Nm},isC l c=true->W l a k c=true->isC l a=true
 | 0,c,hc,h=>by
  have:c=a:=by simpa [W] using h
  rw [<- this]; exact hc
 | k+1,c,_,h=>by
  obtain ⟨p,hp,h⟩:=gQ.1 h
  exact W_isC (kr hp) h
theorem sD {l:Sys} {c a:Nm} (hc:isC l c=true) (h:has l c a=true):isC l a=true:=by
 obtain ⟨k,h⟩:=fH.1 h
 exact W_isC hc h

/-! ## Without rings -/
def gT (l:Sys):Prop:=∀ c p,p∈par l c->has l p c=false
def rk (l:Sys) (c:Nm):Nat:=(nms l).countP λa=>has l c a
theorem q9 (l:Sys) (c:Nm):rk l c<=l.length:=by
 have:=List.countP_le_length (p:=λa=>has l c a) (l:=nms l)
 simpa [rk,nms] using this
theorem CL {α : Type} {p q : α -> Bool} : ∀ {l : List α} {x : α}, x ∈ l -> (∀ y, p y = true -> q y = true) -> p x = false -> q x = true -> l.countP p < l.countP q
 | y::t,x,hx,hpq,h1,h2=>by
  have hle:t.countP p<=t.countP q:=List.countP_mono_left λz _ hz=>hpq z hz
  rcases List.mem_cons.1 hx with rfl | hx
  .rw [List.countP_cons,List.countP_cons,h1,h2]; simp; omega
  .have ih:=CL hx hpq h1 h2
   rw [List.countP_cons,List.countP_cons]
   cases hy:p y with
   | false=>simp; cases q y <;> simp <;> omega
   | true=>rw [hpq y hy]; simp; omega
theorem iJ {l:Sys} (ha:gT l) {c p:Nm} (h:p∈par l c):rk l p<rk l c :=
 CL (fV.1<|tQ h) (λ_ hy=>oD (sw h) hy) (ha c p h) (lU l c)
theorem W_rk {l:Sys} (ha:gT l) {a:Nm}:∀ {k:Nat} {c:Nm},W l a k c=true->c=a\/rk l a<rk l c
 | 0,c,h=>.inl (by simpa [W] using h)
 | k+1,c,h=>by
  obtain ⟨p,hp,h⟩:=gQ.1 h
  have:=iJ ha hp
  rcases W_rk ha h with rfl | h
  .exact .inr this
  .exact .inr<|by omega
theorem has_rk {l:Sys} (ha:gT l) {c a:Nm} (h:has l c a=true):c=a\/rk l a<rk l c:=by
 obtain ⟨k,h⟩:=fH.1 h
 exact W_rk ha h
variable {l:Sys}

/-! ## Lists without doubles -/
def step (o:List Nm) (x:Nm):List Nm:=if o.contains x then o else o++[x]
def dd (o xs:List Nm):List Nm:=xs.foldl step o
theorem Na {o:List Nm} {x y:Nm}:y∈step o x↔y∈o\/y=x:=by
 unfold step
 split
 .rename_i h
  have h:x∈o:=by simpa using h
  exact ⟨.inl,λh'=>h'.elim id<|λe=>e ▸ h⟩
 .simp
theorem zC:∀ {xs o:List Nm} {y:Nm},y∈dd o xs↔y∈o\/y∈xs
 | [],o,y=>by simp [dd]
 | x::t,o,y=>by
  show y∈dd (step o x) t↔_
  rw [zC,Na,List.mem_cons,or_assoc]
theorem lV {o:List Nm} {x:Nm} (h:x∈o):step o x=o:=by simp [step,h]
theorem oF {o:List Nm} {x:Nm} (h:x ∉ o):step o x=o++[x]:=by simp [step,h]
theorem sF (o xs:List Nm) (x:Nm):dd o (xs++[x])=step (dd o xs) x:=by simp [dd]
theorem Nb {o:List Nm}:∀ {xs:List Nm},(∀ x∈xs,x∈o)->dd o xs=o
 | [],_=>rfl
 | x::t,h=>by
  show dd (step o x) t=o
  rw [lV (h x<|by simp)]
  exact Nb λy hy=>h y<|by simp [hy]
theorem FM (a b:List Nm):∀ (n:Nat) (c:List Nm),c.length=n->dd (dd a b) c=dd a (dd b c)
 | 0,c,h=>by rw [List.eq_nil_of_length_eq_zero h]; rfl
 | n+1,c,h=>by
  have hne:c≠[]:=by intro e; rw [e] at h; cases h
  obtain ⟨d,x,rfl⟩:∃ d x,c=d++[x]:=⟨c.dropLast,c.getLast hne,(List.dropLast_concat_getLast hne).symm⟩
  have ih:=FM a b n d<|by simpa using h
  rw [sF,sF,ih]
  by_cases hx:x∈dd b d
  .rw [lV hx,lV (zC.2<|.inr hx)]
  .rw [oF hx,sF]
/-! ## Each behind its own ancestors -/
inductive Tp (l:Sys):List Nm->Prop
 | nil:Tp l []
 | snoc {o:List Nm} {c:Nm}:Tp l o->c ∉ o->(∀ p∈par l c,p∈o)->Tp l (o++[c])
theorem Tp.nodup {o:List Nm} (h:Tp l o):o.Nodup:=by
 induction h with
 | nil=>exact List.nodup_nil
 | snoc _ hn _ ih=>exact List.nodup_append.2 ⟨ih,by simp,λx hx y hy e=>by simp at hy; exact hn (hy ▸ e ▸ hx)⟩
theorem Tp.par {o:List Nm} (h:Tp l o) {c p:Nm} (hc:c∈o) (hp:p∈Hr.par l c):p∈o:=by
 induction h with
 | nil=>cases hc
 | snoc _ _ hs ih =>
  rcases List.mem_append.1 hc with hc | hc
  .exact List.mem_append_left _<|ih hc
  .simp at hc
   subst hc
   exact List.mem_append_left _<|hs p hp
theorem Tp.has {o:List Nm} (h:Tp l o) {c a:Nm} (hc:c∈o) (ha:Hr.has l c a=true):a∈o:=by
  obtain ⟨k,ha⟩:=fH.1 ha
  induction k generalizing c with
  | zero => have : c = a := by simpa [W] using ha
            exact this ▸ hc
  | succ k ih =>
    obtain ⟨p,hp,h'⟩:=gQ.1 ha
    exact ih (h.par hc hp) (fH.2 ⟨k,h'⟩) h'
theorem Tp.ahead {o:List Nm} (h:Tp l o):∀ (i j:Nat) (hi:i<j) (hj:j<o.length),Hr.has l (o[i]'(by omega)) o[j]=false:=by
 induction h with
 | nil=>intro i j hi hj; simp at hj
 | @snoc o c ht hn _ ih =>
  intro i j hi hj
  simp only [List.length_append,List.length_singleton] at hj
  rcases Nat.lt_or_ge j o.length with hjo | hjo
  .have:=ih i j hi hjo
   rw [List.getElem_append_left (by omega),List.getElem_append_left hjo]
   exact this
  .have hje:j=o.length:=by omega
   subst hje
   rw [List.getElem_append_left (by omega),List.getElem_append_right (Nat.le_refl _)]
   simp only [Nat.sub_self,List.getElem_singleton]
   cases hh:Hr.has l o[i] c with
   | false=>rfl
   | true=>exact absurd (ht.has (List.getElem_mem _) hh) hn

/-! ## The search -/
def vis (l:Sys):Nat->List Nm->Nm->List Nm
 | 0,o,_=>o
 | f+1,o,c=>if o.contains c then o else (par l c).foldl (vis l f) o++[c]
def above (l:Sys) (c:Nm):List Nm:=vis l (l.length+1) [] c
theorem kz (ha : gT l) : ∀ (f : Nat) (c : Nm) (o : List Nm), rk l c < f -> Tp l o -> Tp l (vis l f o c) /\ ∀ x, x ∈ vis l f o c ↔ x ∈ o \/ has l c x = true
 | 0,c,o,h,_=>by omega
 | f + 1, c, o, h, ho => by
  unfold vis
  split
  .rename_i hc
   have hc:c∈o:=by simpa using hc
   exact ⟨ho,λx=>⟨.inl,λhx=>hx.elim id λhx=>ho.has hc hx⟩⟩
  .rename_i hc
   have hc:c ∉ o:=by simpa using hc
   have key:∀ (ps:List Nm) (o:List Nm),(∀ p∈ps,p∈par l c)->Tp l o->Tp l (ps.foldl (vis l f) o)/\∀ x,x∈ps.foldl (vis l f) o↔x∈o\/∃ p∈ps,has l p x=true:=by
    intro ps
    induction ps with
    | nil=>intro o _ ho; exact ⟨ho,λx=>by simp⟩
    | cons p t ih =>
     intro o hp ho
     obtain ⟨h1,h2⟩:=kz ha f p o (by have:=iJ ha (hp p<|by simp); omega) ho
     obtain ⟨h3,h4⟩:=ih (vis l f o p) (λq hq=>hp q<|by simp [hq]) h1
     refine ⟨h3,λx=>?_⟩
     rw [List.foldl_cons,h4,h2]
     simp only [List.mem_cons,exists_eq_or_imp,or_assoc]
   obtain ⟨h1,h2⟩:=key (par l c) o (λ_ h=>h) ho
   refine ⟨h1.snoc (λhm=>?_) λp hp=>(h2 p).2 (.inr ⟨p,hp,lU l p⟩),λx=>?_⟩
   .rcases (h2 c).1 hm with hm | ⟨p,hp,hm⟩
    .exact hc hm
    .rw [ha c p hp] at hm; cases hm
   .rw [List.mem_append, h2]
    constructor
    .rintro ((h | ⟨p,hp,h⟩) | h)
     .exact .inl h
     .exact .inr<|oD (sw hp) h
     .simp at h; rw [h]; exact .inr (lU l c)
    .rintro (h | h)
     .exact .inl<|.inl h
     .rcases wH h with rfl | ⟨p,hp,h⟩
      .exact .inr<|by simp
      .exact .inl<|.inr ⟨p,hp,h⟩
theorem FN (ha : gT l) : ∀ (f g : Nat) (c : Nm) (o : List Nm), rk l c < f -> rk l c < g -> vis l f o c = vis l g o c
 | 0,_,_,_,h,_=>by omega
 | _,0,_,_,_,h=>by omega
 | f + 1, g + 1, c, o, hf, hg => by
  unfold vis
  split
  .rfl
  .have key : ∀ (ps : List Nm) (o : List Nm), (∀ p ∈ ps, p ∈ par l c) -> ps.foldl (vis l f) o = ps.foldl (vis l g) o := by
    intro ps
    induction ps with
    | nil=>intros; rfl
    | cons p t ih =>
     intro o hp
     have:=iJ ha<|hp p<|by simp
     rw [List.foldl_cons,List.foldl_cons,FN ha f g p o (by omega) (by omega)]
     exact ih _ λq hq=>hp q<|by simp [hq]
   rw [key _ o λ_ h=>h]
theorem Nc (ha : gT l) : ∀ (f : Nat) (c : Nm) (o : List Nm), rk l c < f -> Tp l o -> vis l f o c = dd o (vis l f [] c)
 | 0,c,o,h,_=>by omega
 | f + 1, c, o, h, ho => by
  by_cases hc:c∈o
  .have h1:vis l (f+1) o c=o:=by unfold vis; rw [if_pos (by simpa using hc)]
   rw [h1,Nb]
   intro x hx
   have:=((kz ha (f+1) c [] h .nil).2 x).1 hx
   exact ho.has hc<|this.elim (λh=>by cases h) id
  .have key : ∀ (ps : List Nm) (o : List Nm), (∀ p ∈ ps, p ∈ par l c) -> Tp l o -> ps.foldl (vis l f) o = dd o (ps.foldl (vis l f) []) := by
    intro ps
    induction ps with
    | nil=>intro o _ _; rfl
    | cons p t ih =>
     intro o hp ho
     have hr:rk l p<f:=by have:=iJ ha (hp p<|by simp); omega
     have ht:∀ q∈t,q∈par l c:=λq hq=>hp q<|by simp [hq]
     have s1:=(kz ha f p o hr ho).1
     have s2:=(kz ha f p [] hr .nil).1
     rw [List.foldl_cons,List.foldl_cons,ih _ ht s1,ih _ ht s2,<- FM _ _ _ _ rfl,<- Nc ha f p o hr ho]
   have k1:=key (par l c) o (λ_ h=>h) ho
   have h1:vis l (f+1) o c=(par l c).foldl (vis l f) o++[c]:=by rw [vis,if_neg (by simpa using hc)]
   have h2:vis l (f+1) [] c=(par l c).foldl (vis l f) []++[c]:=by rw [vis,if_neg (by simp)]
   rw [h1,h2,sF,<- k1,oF]
   intro hm
   have hn:=(kz ha (f+1) c o h ho).1.nodup
   rw [h1] at hn
   exact (List.nodup_append.1 hn).2.2 c hm c (by simp) rfl
theorem uV (l:Sys) (c:Nm):rk l c<l.length+1:=by have:=q9 l c; omega
theorem jT (ha:gT l) (c:Nm):Tp l (above l c)/\∀ x,x∈above l c↔has l c x=true:=by
 obtain ⟨h1,h2⟩:=kz ha (l.length+1) c [] (uV l c) .nil
 exact ⟨h1,λx=>by rw [above,h2]; simp⟩
theorem CO (ha:gT l) (c:Nm):above l c=(par l c).foldl (λo p=>dd o (above l p)) []++[c]:=by
 have h2:above l c=(par l c).foldl (vis l l.length) []++[c]:=by
  unfold above
  rw [vis,if_neg (by simp)]
 have key:∀ (ps:List Nm) (o:List Nm),(∀ p∈ps,p∈par l c)->Tp l o->ps.foldl (vis l l.length) o=ps.foldl (λo p=>dd o<|above l p) o:=by
  intro ps
  induction ps with
  | nil=>intros; rfl
  | cons p t ih =>
   intro o hp ho
   have hr:rk l p<l.length:=by have:=iJ ha (hp p<|by simp); have:=q9 l c; omega
   have e1:vis l l.length o p=dd o (above l p):=by rw [Nc ha _ _ _ hr ho,FN ha l.length (l.length+1) p [] hr (uV l p)]; rfl
   rw [List.foldl_cons,List.foldl_cons,ih _ (λq hq=>hp q<|by simp [hq]) (kz ha _ p o hr ho).1,e1]
 rw [h2,key _ _ (λ_ h=>h) .nil]
variable {l:Sys}

/-! ## How many ways -/
def nW (l:Sys) (a:Nm):Nat->Nm->Nat
 | 0,_=>0
 | f+1,c=>(if c=a then 1 else 0)+((par l c).map (nW l a f)).sum
def ways (l:Sys) (c a:Nm):Nat:=nW l a (l.length+1) c
theorem Kg (ha:gT l) (a:Nm):∀ (f g:Nat) (c:Nm),rk l c<f->rk l c<g->nW l a f c=nW l a g c
 | 0,_,_,h,_=>by omega
 | _,0,_,_,h=>by omega
 | f+1,g+1,c,hf,hg=>by
  unfold nW
  rw [List.map_congr_left λp hp=>Kg ha a f g p (by have:=iJ ha hp; omega) (by have:=iJ ha hp; omega)]
theorem uW (ha:gT l) (c a:Nm):ways l c a=(if c=a then 1 else 0)+((par l c).map λp=>ways l p a).sum:=by
 unfold ways
 rw [nW,List.map_congr_left λp hp=>Kg ha a l.length (l.length+1) p (by have:=iJ ha hp; have:=q9 l c; omega) (uV l p)]
theorem yT {α : Type} {f : α -> Nat}:∀ {xs:List α},0<(xs.map f).sum↔∃ x∈xs,0<f x
 | []=>by simp
 | x::t=>by
  rw [List.map_cons,List.sum_cons]
  simp only [List.mem_cons,exists_eq_or_imp]
  rw [<- yT (xs:=t)]
  omega
theorem nI (ha:gT l) {P:Nm->Prop} (h:∀ c,(∀ p∈par l c,P p)->P c):∀ c,P c:=by
 have key:∀ n c,rk l c<n->P c:=by
  intro n
  induction n with
  | zero=>intro c hc; omega
  | succ n ih=>intro c hc; exact h c λp hp=>ih p (by have:=iJ ha hp; omega)
 exact λc=>key _ c<|Nat.lt_succ_self _
theorem Nf (ha : gT l) (a : Nm) : ∀ c, 0 < ways l c a ↔ has l c a = true :=
 nI ha λc ih => by
  rw [uW ha]
  constructor
  .intro h
   by_cases hc:c=a
   .rw [hc]; exact lU l a
   .rw [if_neg hc,Nat.zero_add,yT] at h
    obtain ⟨p,hp,h⟩:=h
    exact oD (sw hp) ((ih p hp).1 h)
  .intro h
   rcases wH h with rfl | ⟨p,hp,h⟩
   .rw [if_pos rfl]; omega
   .have:0<((par l c).map λp=>ways l p a).sum:=yT.2 ⟨p,hp,(ih p hp).2 h⟩
    omega
theorem Lj (ha:gT l) (a:Nm):ways l a a=1:=by
 rw [uW ha,if_pos rfl]
 have:¬ 0<((par l a).map λp=>ways l p a).sum:=λh=>by
  obtain ⟨p,hp,h⟩:=yT.1 h
  have:=(Nf ha a p).1 h
  rw [ha a p hp] at this; cases this
 omega
theorem IG {α : Type} {f : α -> Nat} {k:Nat}:∀ {xs:List α},(∀ x∈xs,f x<=k)->(xs.map f).sum<=xs.length * k
 | [],_=>by simp
 | x::t,h=>by
  have:=IG (f:=f) (xs:=t) λy hy=>h y<|by simp [hy]
  have:=h x<|by simp
  rw [List.map_cons,List.sum_cons,List.length_cons,Nat.succ_mul]
  omega
theorem ways_le (ha : gT l) (hp : ∀ c, (par l c).length <= 4) (a : Nm) : ∀ c, ways l c a <= 4 ^ rk l c :=
 nI ha λc ih => by
  by_cases hc:c=a
  .rw [hc,Lj ha]; exact Nat.pow_pos (by omega)
  .rw [uW ha,if_neg hc,Nat.zero_add]
   cases hr:rk l c with
   | zero =>
    have:par l c=[]:=List.eq_nil_iff_forall_not_mem.2 λp hp=>by have:=iJ ha hp; omega
    rw [this]; simp
   | succ n =>
    have h1:=IG (f:=λp=>ways l p a) (k:=4 ^ n) (xs:=par l c) λp hp=>Nat.le_trans (ih p hp)<|Nat.pow_le_pow_right (by omega) (by have:=iJ ha hp; omega)
    have h2:=Nat.mul_le_mul_right (4 ^ n)<|hp c
    rw [Nat.pow_succ]
    omega

/-! ## Levels -/
def mx (xs:List Nat):Nat:=xs.foldl max 0
theorem Ll (a:Nat):∀ xs:List Nat,xs.foldl max a=max a (mx xs):=by
 intro xs
 unfold mx
 induction xs generalizing a with
 | nil=>simp
 | cons x t ih=>rw [List.foldl_cons,ih,List.foldl_cons,ih (max 0 x)]; omega
theorem mx_snoc (xs:List Nat) (x:Nat):mx (xs++[x])=max (mx xs) x:=by simp [mx,List.foldl_append]
theorem mx_cons (xs:List Nat) (x:Nat):mx (x::xs)=max x (mx xs):=by rw [mx,List.foldl_cons,Ll]; omega
theorem Ng:∀ {xs:List Nat},0<mx xs->mx xs∈xs
 | [],h=>by simp [mx] at h
 | y::t,h=>by
  rw [mx_cons] at h ⊢
  by_cases hy:mx t<=y
  .rw [Nat.max_eq_left hy]; simp
  .rw [Nat.max_eq_right (by omega)]; exact List.mem_cons_of_mem _ (Ng<|by omega)
theorem mx_le {xs:List Nat} {k:Nat} (h:∀ x∈xs,x<=k):mx xs<=k:=by
 rcases Nat.eq_zero_or_pos (mx xs) with h0 | h0
 .omega
 .exact h _<|Ng h0
def lvf (l:Sys):Nat->Nm->Nat
 | 0,_=>0
 | f+1,c=>mx ((par l c).map λp=>lvf l f p+1)
def lv (l:Sys) (c:Nm):Nat:=lvf l (l.length+1) c
theorem FO (ha:gT l):∀ (f g:Nat) (c:Nm),rk l c<f->rk l c<g->lvf l f c=lvf l g c
 | 0,_,_,h,_=>by omega
 | _,0,_,_,h=>by omega
 | f+1,g+1,c,hf,hg=>by
  unfold lvf
  rw [List.map_congr_left λp hp=>by rw [FO ha f g p (by have:=iJ ha hp; omega) (by have:=iJ ha hp; omega)]]
theorem Nh (ha:gT l) (c:Nm):lv l c=mx ((par l c).map λp=>lv l p+1):=by
 unfold lv
 rw [lvf,List.map_congr_left λp hp=>by rw [FO ha l.length (l.length+1) p (by have:=iJ ha hp; have:=q9 l c; omega) (uV l p)]]
theorem lv_le (ha:gT l):∀ c,lv l c<=rk l c :=
 nI ha λc ih=>by
  rw [Nh ha c]
  refine mx_le λx hx=>?_
  obtain ⟨p,hp,rfl⟩:=List.mem_map.1 hx
  have:=ih p hp
  have:=iJ ha hp
  omega
/-! ## The order of all -/
def opn (l:Sys) (o:List Nm) (c:Nm):Bool := !o.contains c && (par l c).all o.contains
def iZ (l:Sys):Nat->List Nm
 | 0=>[]
 | k+1=>iZ l k++[iY ((nms l).filter (opn l (iZ l k)))]
def order (l:Sys):List Nm:=iZ l l.length
theorem Kh {o:List Nm} {c:Nm}:opn l o c=true↔c ∉ o/\∀ p∈par l c,p∈o:=by simp [opn]
theorem rf (l:Sys):∀ k,(iZ l k).length=k
 | 0=>rfl
 | k+1=>by simp [iZ,rf l k]
theorem FP (ha : gT l) {o : List Nm} : ∀ c, isC l c = true -> c ∉ o -> ∃ x ∈ nms l, opn l o x = true :=
 nI ha λc ih=>by
 intro hc hn
 by_cases h:∀ p∈par l c,p∈o
 .exact ⟨c,fV.1 hc,Kh.2 ⟨hn,h⟩⟩
 .obtain ⟨p,hp,h⟩:∃ p,p∈par l c/\p ∉ o:=by
   apply Classical.byContradiction
   intro hh
   exact h λp hp=>Classical.byContradiction λhq=>hh ⟨p,hp,hq⟩
  exact ih p hp (kr hp) h
theorem wI (ha : gT l) (hu : (nms l).Nodup) : ∀ k, k <= l.length -> Tp l (iZ l k) /\ ∀ x ∈ iZ l k, x ∈ nms l
 | 0,_=>⟨.nil,λx h=>by simp [iZ] at h⟩
 | k+1,hk=>by
  obtain ⟨h1,h2⟩:=wI ha hu k<|by omega
  have hex:∃ c,c∈nms l/\c ∉ iZ l k:=by
   apply Classical.byContradiction
   intro hh
   have:=aN (b:=iZ l k) hu λx hx=>Classical.byContradiction λhq=>hh ⟨x,hx,hq⟩
   rw [rf] at this
   simp [nms] at this
   omega
  obtain ⟨c,hc,hn⟩:=hex
  obtain ⟨x,hx,hox⟩:=FP ha c (fV.2 hc) hn
  have hm:=uU (l:=(nms l).filter<|opn l<|iZ l k)<|List.ne_nil_of_mem<|List.mem_filter.2 ⟨hx,hox⟩
  obtain ⟨m1,m2⟩:=List.mem_filter.1 hm
  obtain ⟨m3,m4⟩:=Kh.1 m2
  refine ⟨h1.snoc m3 m4,λy hy=>?_⟩
  rcases List.mem_append.1 hy with hy | hy
  .exact h2 y hy
  .simp at hy; rw [hy]; exact m1
theorem Lm (ha:gT l) (hu:(nms l).Nodup) {k:Nat} (hk:k<l.length):(nms l).filter (opn l (iZ l k))≠[]:=by
 have h2:=(wI ha hu k<|by omega).2
 have hex:∃ c,c∈nms l/\c ∉ iZ l k:=by
  apply Classical.byContradiction
  intro hh
  have:=aN (b:=iZ l k) hu λx hx=>Classical.byContradiction λhq=>hh ⟨x,hx,hq⟩
  rw [rf] at this
  simp [nms] at this
  omega
 obtain ⟨c,hc,hn⟩:=hex
 obtain ⟨x,hx,hox⟩:=FP ha c (fV.2 hc) hn
 exact List.ne_nil_of_mem<|List.mem_filter.2 ⟨hx,hox⟩
theorem wJ {α : Type} [DecidableEq α] {a b:List α} (ha:a.Nodup) (hs:∀ x∈a,x∈b) (hl:b.length<=a.length):∀ x∈b,x∈a:=by
 intro x hx
 apply Classical.byContradiction
 intro hn
 have:=aN (a:=x::a) (b:=b) (List.nodup_cons.2 ⟨hn,ha⟩) λy hy=>by
  rcases List.mem_cons.1 hy with rfl | hy
  .exact hx
  .exact hs y hy
 simp at this
 omega
theorem jU (ha:gT l) (hu:(nms l).Nodup):Tp l (order l)/\∀ x,x∈order l↔x∈nms l:=by
 obtain ⟨h1,h2⟩:=wI ha hu l.length<|Nat.le_refl _
 exact ⟨h1,λx=>⟨h2 x,wJ h1.nodup h2 (by rw [rf]; simp [nms]) x⟩⟩
variable {l:Sys}

/-! ## Names in order, each once -/
def Srt (xs:List Nm):Prop:=xs.Pairwise λa b=>lt a b=true
def put:List Nm->Nm->List Nm
 | [],x=>[x]
 | y::t,x=>if lt y x then y::put t x else if y=x then y::t else x::y::t
def srt (xs:List Nm):List Nm:=xs.foldl put []
theorem Eh : ∀ {o : List Nm} {x y : Nm}, y ∈ put o x ↔ y ∈ o \/ y = x
 | [],x,y=>by simp [put]
 | z :: t, x, y => by
  unfold put
  split
  .rw [List.mem_cons,Eh,List.mem_cons,or_assoc]
  .split
   .rename_i h; subst h
    exact ⟨.inl,λh=>h.elim id λh=>h ▸ List.mem_cons_self⟩
   .simp only [List.mem_cons]
    exact ⟨λh=>h.elim .inr .inl,λh=>h.elim .inr .inl⟩
theorem Ki : ∀ {o : List Nm} {x : Nm}, Srt o -> Srt (put o x)
 | [],x,_=>by simp [put,Srt]
 | z :: t, x, h => by
  obtain ⟨h1,h2⟩:=List.pairwise_cons.1 h
  unfold put
  split
  .rename_i hz
   refine List.pairwise_cons.2 ⟨λy hy=>?_,Ki h2⟩
   rcases Eh.1 hy with hy | rfl
   .exact h1 y hy
   .exact hz
  .rename_i hz
   split
   .exact h
   .rename_i hne
    have hx:lt x z=true:=by
     rcases eu x z with h | h | h
     .exact h
     .exact absurd h.symm hne
     .exact absurd h hz
    refine List.pairwise_cons.2 ⟨λy hy=>?_,h⟩
    rcases List.mem_cons.1 hy with rfl | hy
    .exact hx
    .exact lt_trans hx<|h1 y hy
theorem iR (xs:List Nm):Srt (srt xs)/\∀ y,y∈srt xs↔y∈xs:=by
 have key:∀ (xs o:List Nm),Srt o->Srt (xs.foldl put o)/\∀ y,y∈xs.foldl put o↔y∈o\/y∈xs:=by
  intro xs
  induction xs with
  | nil=>intro o h; exact ⟨h,λy=>by simp⟩
  | cons x t ih =>
   intro o h
   obtain ⟨h1,h2⟩:=ih (put o x)<|Ki h
   refine ⟨h1,λy=>?_⟩
   rw [List.foldl_cons,h2,Eh,List.mem_cons,or_assoc]
 obtain ⟨h1,h2⟩:=key xs [] List.Pairwise.nil
 exact ⟨h1,λy=>by rw [srt,h2]; simp⟩
theorem Srt.ext : ∀ {a b : List Nm}, Srt a -> Srt b -> (∀ x, x ∈ a ↔ x ∈ b) -> a = b
 | [],[],_,_,_=>rfl
 | [],y::t,_,_,h=>by have:=(h y).2 (by simp); simp at this
 | x::s,[],_,_,h=>by have:=(h x).1 (by simp); simp at this
 | x :: s, y :: t, ha, hb, h => by
  obtain ⟨a1,a2⟩:=List.pairwise_cons.1 ha
  obtain ⟨b1,b2⟩:=List.pairwise_cons.1 hb
  have hxy:x=y:=by
   rcases List.mem_cons.1 ((h x).1 (by simp)) with h1 | h1
   .exact h1
   .rcases List.mem_cons.1 ((h y).2 (by simp)) with h2 | h2
    .exact h2.symm
    .have:=lt_trans (a1 y h2) (b1 x h1); rw [lt_irrefl] at this; cases this
  subst hxy
  rw [Srt.ext a2 b2 λz=>?_]
  constructor
  .intro hz
   rcases List.mem_cons.1 ((h z).1 (by simp [hz])) with rfl | h1
   .have:=a1 z hz; rw [lt_irrefl] at this; cases this
   .exact h1
  .intro hz
   rcases List.mem_cons.1 ((h z).2 (by simp [hz])) with rfl | h1
   .have:=b1 z hz; rw [lt_irrefl] at this; cases this
   .exact h1
theorem Srt.nodup {a:List Nm} (h:Srt a):a.Nodup:=h.imp λhab e=>by rw [e,lt_irrefl] at hab; cases hab
theorem srt_eq {a b:List Nm} (hn:a.Nodup) (h:a.Pairwise λx y=>lt y x=false) (hm:∀ x,x∈a↔x∈b):a=srt b:=by
 have hs:Srt a:=by
  clear hm
  induction a with
  | nil=>exact List.Pairwise.nil
  | cons x t ih =>
   obtain ⟨h1,h2⟩:=List.pairwise_cons.1 h
   obtain ⟨n1,n2⟩:=List.nodup_cons.1 hn
   refine List.pairwise_cons.2 ⟨λy hy=>?_,ih n2 h2⟩
   rcases eu x y with h | h | h
   .exact h
   .exact absurd (h ▸ hy) n1
   .rw [h1 y hy] at h; cases h
 exact hs.ext (iR b).1 λx=>by rw [hm,(iR b).2]

/-! ## Levels -/
def row (l:Sys) (o:List Nm) (n:Nat):List Nm:=o.filter λc=>lv l c == n
def high (l:Sys) (o:List Nm):Nat:=mx (o.map λc=>lv l c+1)
def rows (l:Sys) (o:List Nm):List (List Nm):=(List.range<|high l o).map (row l o)
def levels (l:Sys):List (List Nm):=(List.range<|high l<|nms l).map λn=>srt<|row l (nms l) n
/-! ## Least common ancestors -/
def common (l:Sys) (a b:Nm):List Nm:=(above l a).filter λc=>has l b c
def lowest (l:Sys) (cs:List Nm) (c:Nm):Bool := !cs.any λd=>d != c && has l d c
def least (l:Sys) (a b:Nm):List Nm:=srt ((common l a b).filter<|lowest l<|common l a b)
variable {l:Sys}

/-! ## Shortest ways -/
def nexts (l:Sys) (to:Nm) (k:Nat) (c:Nm):List Nm:=(par l c).filter λp=>gZ l to p == some k
def short (l:Sys) (to:Nm):Nat->Nm->List Nm
 | 0,c=>[c]
 | k+1,c=>c::short l to k (iY (nexts l to k c))
theorem fZ (l:Sys) (to:Nm):∀ k c,(short l to k c).length=k+1
 | 0,_=>rfl
 | k+1,c=>by rw [short,List.length_cons,fZ l to k]
theorem FQ {to c:Nm} {k:Nat} (h:gZ l to c=some (k+1)):nexts l to k c≠[]:=by
 obtain ⟨h1,h2⟩:=iF.1 h
 obtain ⟨p,hp,h3⟩:=gQ.1 h1
 refine List.ne_nil_of_mem<|List.mem_filter.2 ⟨hp,?_⟩
 simp only [beq_iff_eq]
 refine iF.2 ⟨h3,λi hi=>?_⟩
 cases hw:W l to i p with
 | false=>rfl
 | true =>
  have:=h2 (i+1)<|by omega
  rw [gQ.2 ⟨p,hp,hw⟩] at this; cases this
theorem CP {to c:Nm} {k:Nat} (h:gZ l to c=some (k+1)):iY (nexts l to k c)∈par l c/\gZ l to (iY (nexts l to k c))=some k:=by
 obtain ⟨h1,h2⟩:=List.mem_filter.1<|uU<|FQ h
 have h3:(gZ l to (iY<|nexts l to k c) == some k)=true:=h2
 exact ⟨h1,beq_iff_eq.1 h3⟩
def Way (l:Sys) (to:Nm):List Nm->Nm->Prop
 | [],_=>False
 | [x],c=>x=c/\c=to
 | x::y::t,c=>x=c/\y∈par l c/\Way l to (y::t) y
theorem CQ (l : Sys) (to : Nm) : ∀ k c, gZ l to c = some k -> Way l to (short l to k c) c
 | 0,c,h=>by
  have:=(iF.1 h).1
  exact ⟨rfl,by simpa [W] using this⟩
 | k + 1, c, h => by
  obtain ⟨h1,h2⟩:=CP h
  have ih:=CQ l to k _ h2
  rw [short]
  cases hs:short l to k (iY<|nexts l to k c) with
  | nil=>have:=fZ l to k (iY (nexts l to k c)); rw [hs] at this; cases this
  | cons y t =>
   have hy:y=iY (nexts l to k c):=by
    cases k with
    | zero=>rw [short] at hs; cases hs; rfl
    | succ k=>rw [short] at hs; cases hs; rfl
   rw [hs,<- hy] at ih
   exact ⟨rfl,hy ▸ h1,ih⟩
/-! ## Rings -/
def CS:List Nm->List Nm->Bool
 | _,[]=>false
 | [],_::_=>true
 | a::x,b::y=>lt a b || (a == b && CS x y)
def zD (a b:List Nm):Bool:=decide (a.length<b.length) || (decide (a.length=b.length) && CS a b)
def better (b:Option (List Nm)) (r:List Nm):Option (List Nm):=
 match b with
 | none=>some r
 | some q=>if zD r q then some r else some q
def qR (l:Sys) (c p:Nm):Option (List Nm):=(gZ l c p).map λk=>c::(short l c k p).dropLast
def zF (l:Sys):List (List Nm):=(nms l).flatMap λc=>(par l c).filterMap<|qR l c
def ring (l:Sys):Option (List Nm):=(zF l).foldl better none
theorem mU : ∀ (rs : List (List Nm)) (b : Option (List Nm)), (rs.foldl better b = none ↔ b = none /\ rs = []) /\ ∀ r, rs.foldl better b = some r -> b = some r \/ r ∈ rs
 | [],b=>by simp
 | r :: t, b => by
  have hb:better b r≠none:=by cases b <;> simp [better]; split <;> simp
  obtain ⟨h1,h2⟩:=mU t<|better b r
  rw [List.foldl_cons]
  refine ⟨by rw [h1]; simp [hb],λq hq=>?_⟩
  rcases h2 q hq with h | h
  .cases b with
   | none=>simp [better] at h; exact .inr (by simp [h])
   | some z =>
    simp only [better] at h
    split at h
    .simp at h; exact .inr (by simp [h])
    .exact .inl h
  .exact .inr<|by simp [h]
theorem Lp:zF l=[]↔gT l:=by
 unfold zF
 rw [List.flatMap_eq_nil_iff]
 constructor
 .intro h c p hp
  have h1:=List.filterMap_eq_nil_iff.1 (h c<|fV.1<|tQ hp) p hp
  unfold qR at h1
  unfold has
  cases hd:gZ l c p with
  | none=>rfl
  | some k=>rw [hd] at h1; cases h1
 .intro h c _
  refine List.filterMap_eq_nil_iff.2 λp hp=>?_
  have:=h c p hp
  unfold has at this
  unfold qR
  cases hd:gZ l c p with
  | none=>rfl
  | some k=>rw [hd] at this; cases this
theorem CU:ring l=none↔gT l:=by
 unfold ring
 rw [(mU _ _).1,Lp]
 simp
theorem Ni {r:List Nm} (h:ring l=some r):r∈zF l:=((mU _ _).2 r h).resolve_left (by simp)

/-! ## Right systems -/
def upper (b:UInt8):Bool:=decide (65<=b.toNat) && decide (b.toNat<=90)
def digit (b:UInt8):Bool:=decide (48<=b.toNat) && decide (b.toNat<=57)
def reserved : List Nm := ["INTEGER".toUTF8.data.toList, "BOOLEAN".toUTF8.data.toList, "ANY".toUTF8.data.toList, "NONE".toUTF8.data.toList]
def named (s:Nm):Bool:=match s with
 | []=>false
 | b::_=>decide (s.length<=20) && upper b && s.all (λb=>upper b || digit b || b.toNat == 95) && !reserved.contains s
def idx (l:Sys) (c:Nm):Option Nat:=l.findIdx? λx=>x.name == c
def alone (l:Sys) (i:Nat) (x:Cls):Int :=
 if 4<x.parents.length then 3 else if named x.name=false then 4 else if idx l x.name≠some i\/¬ x.parents.Nodup then 6 else 0
def lost (l:Sys) (x:Cls):Bool:=x.parents.any λp => !isC l p
def check (l : Sys) : Int × Nm :=
 if 24<l.length then (3,[]) else
 match (l.zipIdx.map λq=>(alone l q.2 q.1,q.1.name)).find? λe=>e.1 != 0 with
 | some e=>e
 | none =>
  match List.find? (lost l) l with
  | some x=>(5,x.name)
  | none=>match ring l with
   | some r=>(7,r.headD [])
   | none=>(0,[])
structure Right (l:Sys):Prop where
 len:l.length<=24
 few:∀ x∈l,x.parents.length<=4
 nam:∀ x∈l,named x.name=true
 uniq:(nms l).Nodup
 once:∀ x∈l,x.parents.Nodup
 all:∀ x∈l,∀ p∈x.parents,isC l p=true
 acyc:gT l
theorem ic {i:Nat} {x:Cls}:alone l i x=0↔x.parents.length<=4/\named x.name=true/\idx l x.name=some i/\x.parents.Nodup:=by
 unfold alone
 split
 .rename_i h; simp; omega
 .rename_i h
  split
  .rename_i h2; simp [h2]
  .rename_i h2
   have h2:named x.name=true:=by simpa using h2
   split
   .rename_i h3
    simp only [h2,true_and]
    constructor
    .intro h; cases h
    .rintro ⟨_,h4,h5⟩; exact absurd h3 (by simp [h4,h5])
   .rename_i h3
    have h3:=not_or.1 h3
    exact ⟨λ_=>⟨by omega,h2,Classical.not_not.1 h3.1,Classical.not_not.1 h3.2⟩,λ_=>rfl⟩
theorem FR:(∀ (i:Nat) (x:Cls),l[i]? = some x->idx l x.name=some i)↔(nms l).Nodup:=by
 constructor
 .intro h
  unfold nms
  rw [List.nodup_iff_pairwise_ne,List.pairwise_iff_getElem]
  intro i j hi hj hij
  simp only [List.length_map] at hi hj
  rw [List.getElem_map,List.getElem_map]
  intro e
  have h1:=h i _<|List.getElem?_eq_getElem hi
  have h2:=h j _<|List.getElem?_eq_getElem hj
  rw [e,h2] at h1
  cases h1; omega
 .intro h i x hx
  obtain ⟨hi,he⟩:=List.getElem?_eq_some_iff.1 hx
  unfold idx
  rw [List.findIdx?_eq_some_iff_getElem]
  refine ⟨hi,by simp [he],λj hj=>?_⟩
  have:=(List.pairwise_iff_getElem.1<|List.nodup_iff_pairwise_ne.1 h) j i (by simp [nms]; omega) (by simp [nms]; omega) hj
  simp only [nms,List.getElem_map] at this
  simp only [beq_iff_eq,Bool.not_eq_true]
  simpa [he] using this
theorem pI:(check l).1=0↔Right l:=by
 unfold check
 split
 .rename_i h
  exact ⟨λh=>(by cases h),λh'=>by have:=h'.len; omega⟩
 .rename_i h
  split
  .rename_i e he
   have h1:=List.find?_some he
   have h2:=List.mem_of_find?_eq_some he
   obtain ⟨⟨x,i⟩,hq,rfl⟩:=List.mem_map.1 h2
   simp only [bne_iff_ne,ne_eq] at h1
   refine ⟨λh=>absurd h h1,λhr=>absurd (ic.2 ?_) h1⟩
   have hx:=List.mem_zipIdx_iff_getElem?.1 hq
   have hm:x∈l:=List.mem_of_getElem? hx
   exact ⟨hr.few x hm,hr.nam x hm,FR.2 hr.uniq i x hx,hr.once x hm⟩
  .rename_i h1
   rw [List.find?_eq_none] at h1
   have h2:∀ (i:Nat) (x:Cls),l[i]? = some x->alone l i x=0:=λi x hx=>by
    have:=h1 _<|List.mem_map.2 ⟨(x,i),List.mem_zipIdx_iff_getElem?.2 hx,rfl⟩
    simpa using this
   split
   .rename_i x hx
    refine ⟨λh=>(by cases h),λhr=>?_⟩
    have h3:=List.find?_some hx
    have h4:=List.mem_of_find?_eq_some hx
    obtain ⟨p,hp,h5⟩:=List.any_eq_true.1 h3
    rw [hr.all x h4 p hp] at h5; cases h5
   .rename_i hx
    rw [List.find?_eq_none] at hx
    split
    .rename_i r hr
     refine ⟨λh=>(by cases h),λh'=>?_⟩
     rw [CU.2 h'.acyc] at hr; cases hr
    .rename_i hr
     refine ⟨λ_=>?_,λ_=>rfl⟩
     have h3:∀ x∈l,∃ i,l[i]? = some x:=λx hx=>List.getElem?_of_mem hx
     refine ⟨by omega,λx hx=>?_,λx hx=>?_,FR.1 λi x hi=>(ic.1<|h2 i x hi).2.2.1,λx hx=>?_,λx hxm p hp=>?_,CU.1 hr⟩
     .obtain ⟨i,hi⟩:=h3 x hx; exact (ic.1<|h2 i x hi).1
     .obtain ⟨i,hi⟩:=h3 x hx; exact (ic.1<|h2 i x hi).2.1
     .obtain ⟨i,hi⟩:=h3 x hx; exact (ic.1<|h2 i x hi).2.2.2
     .have:=hx x hxm
      unfold lost at this
      rw [List.any_eq_true] at this
      cases hc:isC l p with
      | true=>rfl
      | false=>exact absurd ⟨p,hp,by rw [hc]; rfl⟩ this
theorem Right.pars_eq (h:Right l) (c:Nm):pars l c=par l c:=by
 unfold par
 symm
 rw [List.filter_eq_self]
 intro p hp
 unfold pars at hp
 cases hf:find l c with
 | none=>rw [hf] at hp; simp at hp
 | some x=>rw [hf] at hp; exact h.all x (su hf).2 p hp
variable {l:Sys}

/-! ## Needless links -/
def spare (l:Sys) (c p:Nm):Bool:=(par l c).any λq=>q != p && has l q p
def Nj (l:Sys):List (Nm×Nm):=(nms l).flatMap λc=>((par l c).filter<|spare l c).map λp=>(c,p)
/-! ## Without some links -/
def cut (l:Sys) (gone:List (Nm×Nm)):Sys:=l.map λx=>{ name:=x.name,parents:=x.parents.filter λp => !gone.contains (x.name,p),feats:=0 }
theorem Kj (gone:List (Nm×Nm)):nms (cut l gone)=nms l:=by simp [nms,cut]
theorem Kk (gone:List (Nm×Nm)) (c:Nm):isC (cut l gone) c=isC l c:=by
 rw [Bool.eq_iff_iff,fV,fV,Kj]
theorem Nk (gone:List (Nm×Nm)) (c:Nm):find (cut l gone) c=(find l c).map λx=>{ name:=x.name,parents:=x.parents.filter λp => !gone.contains (x.name,p),feats:=0 }:=by
 unfold find cut
 rw [List.find?_map]
 rfl
theorem xN {gone:List (Nm×Nm)} {c p:Nm}:p∈par (cut l gone) c↔p∈par l c/\(c,p) ∉ gone:=by
 unfold par pars
 rw [Nk]
 cases hf:find l c with
 | none=>simp
 | some x =>
  have hx:=(su hf).1
  subst hx
  simp only [Option.map_some,Option.getD_some,List.mem_filter,Kk]
  simp only [Bool.not_eq_true',List.contains_eq_mem,decide_eq_false_iff_not]
  exact ⟨λ⟨⟨a,b⟩,d⟩=>⟨⟨a,d⟩,b⟩,λ⟨⟨a,d⟩,b⟩=>⟨⟨a,b⟩,d⟩⟩
theorem W_cut {gone:List (Nm×Nm)} {to:Nm}:∀ {k:Nat} {c:Nm},W (cut l gone) to k c=true->W l to k c=true
 | 0,_,h=>h
 | k+1,c,h=>by
  obtain ⟨p,hp,h⟩:=gQ.1 h
  exact gQ.2 ⟨p,(xN.1 hp).1,W_cut h⟩
theorem has_cut {gone:List (Nm×Nm)} {c a:Nm} (h:has (cut l gone) c a=true):has l c a=true:=by
 obtain ⟨k,h⟩:=fH.1 h
 exact fH.2 ⟨k,W_cut h⟩
theorem Right.cut (h : Right l) (gone : List (Nm × Nm)) : Right (cut l gone) where
 len:=by simp [Hr.cut]; exact h.len
 few x hx:=by
  obtain ⟨y,hy,rfl⟩:=List.mem_map.1 hx
  exact Nat.le_trans (List.length_filter_le _ _)<|h.few y hy
 nam x hx:=by
  obtain ⟨y,hy,rfl⟩:=List.mem_map.1 hx
  exact h.nam y hy
 uniq:=by rw [Kj]; exact h.uniq
 once x hx:=by
  obtain ⟨y,hy,rfl⟩:=List.mem_map.1 hx
  exact List.Nodup.sublist List.filter_sublist<|h.once y hy
 all x hx p hp:=by
  obtain ⟨y,hy,rfl⟩:=List.mem_map.1 hx
  rw [Kk]
  exact h.all y hy p (List.mem_filter.1 hp).1
 acyc c p hp:=by
  cases hh:has (Hr.cut l gone) p c with
  | false=>rfl
  | true =>
   have:=has_cut hh
   rw [h.acyc c p (xN.1 hp).1] at this; cases this
/-! ## What is touched -/
def touched (l:Sys) (names:List Nm):List Nm:=(nms l).filter λc=>names.any λa=>has l c a
def below (l:Sys) (a:Nm):List Nm:=(nms l).filter λc=>has l c a
variable {l:Sys}

/-! ## The order of lists -/
def lexLe (a b:List Nm):Prop:=CS b a=false
/-! ## Shortest ways are least -/
theorem FT {to:Nm}:∀ {t:List Nm} {c:Nm},Way l to t c->∃ s,t=c::s
 | [x],c,h=>⟨[],by rw [h.1]⟩
 | x::y::t,c,h=>⟨y::t,by rw [h.1]⟩
theorem FU {to:Nm}:∀ {t:List Nm} {c:Nm},Way l to t c->t.getLast? = some to
 | [x],c,h=>by simp [h.1,h.2]
 | x::y::t,c,⟨_,_,h⟩=>by rw [List.getLast?_cons_cons]; exact FU h
/-! ## The specification's search -/
def zG (w:List Nm):Nm:=w.getLastD []
def ins1:List (List Nm)->List Nm->List (List Nm)
 | [],one=>[one]
 | w::t,one=>if zG w=zG one then (if CS one w then one::t else w::t) else w::ins1 t one
def ext1 (l:Sys) (next:List (List Nm)) (w:List Nm):List (List Nm):=(par l<|zG w).foldl (λn p=>ins1 n (w++[p])) next
def expand (l:Sys) (lists:List (List Nm)):List (List Nm):=lists.foldl (ext1 l) []
def lsts (l:Sys) (c:Nm):Nat->List (List Nm)
 | 0=>[[c]]
 | k+1=>expand l (lsts l c k)
def hit (a:Nm) (lists:List (List Nm)):Option (List Nm):=lists.find? λw=>zG w == a
def further (l:Sys) (c a:Nm):List Nm:=(((List.range (l.length+1)).findSome? λk=>hit a<|lsts l c (k+1)).getD [])
def Ones (P:List Nm->Prop) (ls:List (List Nm)):Prop:=(∀ w∈ls,P w)/\(ls.map zG).Nodup
def Cov (ls:List (List Nm)) (v:List Nm):Prop:=∃ w∈ls,zG w=zG v/\lexLe w v
variable {l:Sys}

/-! ## Ways by places -/
def Steps (l:Sys) (t:List Nm):Prop:=∀ (i:Nat) (a b:Nm),t[i]? = some a->t[i+1]? = some b->b∈par l a
theorem CV {to : Nm} : ∀ {t : List Nm} {c : Nm}, Way l to t c -> Steps l t
 | [x],c,_,i,a,b,h1,h2=>by simp at h2
 | x::y::t,c,⟨h1,h2,h3⟩,i,a,b,g1,g2=>by
  cases i with
  | zero =>
   simp at g1 g2
   subst g1 g2 h1; exact h2
  | succ i=>exact CV h3 i a b (by simpa using g1) (by simpa using g2)
theorem CW {to:Nm}:∀ {t:List Nm} {c:Nm},Steps l t->t.head? = some c->t.getLast? = some to->Way l to t c
 | [],_,_,h,_=>by simp at h
 | [x],c,_,h1,h2=>by simp at h1 h2; exact ⟨h1,by rw [<- h1]; exact h2⟩
 | x::y::t,c,hs,h1,h2=>by
  simp at h1
  subst h1
  exact ⟨rfl,hs 0 x y rfl rfl,CW (λi a b g1 g2=>hs (i+1) a b (by simpa using g1)<|by simpa using g2) rfl (by rw [List.getLast?_cons_cons] at h2; exact h2)⟩

/-! ## Ways that are accepted -/
def wayOk (l:Sys) (c a:Nm) (t:List Nm):Bool :=
 t.head? == some c && t.getLast? == some a && (List.range (t.length - 1)).all λi=>(par l<|t.getD i []).contains<|t.getD (i+1) []
/-! ## Rings that are accepted -/
def zH (l:Sys) (r:List Nm):Bool :=
 !r.isEmpty && decide r.Nodup && (List.range r.length).all λi=>(par l<|r.getD i []).contains<|r.getD ((i+1) % r.length) []
theorem Ei {α : Type} {xs:List α} {i:Nat} (d : α) (h:i<xs.length):xs[i]? = some (xs.getD i d):=by
 rw [List.getD_eq_getElem?_getD,List.getElem?_eq_getElem h]; rfl
theorem II {c:Nm} {s:List Nm}:zH l (c::s)=true↔(c::s).Nodup/\Way l c (c::s++[c]) c:=by
 unfold zH
 simp only [List.isEmpty_cons,Bool.not_false,Bool.true_and,Bool.and_eq_true,decide_eq_true_eq,List.all_eq_true,List.mem_range,List.contains_eq_mem]
 refine and_congr_right λhn=>?_
 have hget:∀ i,i<(c::s).length->(c::s++[c])[i+1]? = some ((c::s).getD ((i+1) % (c::s).length) []):=λi hi=>by
  rcases Nat.lt_or_ge (i+1) (c::s).length with h | h
  .rw [Nat.mod_eq_of_lt h,List.getElem?_append_left h,Ei [] h]
  .have:i+1=(c::s).length:=by omega
   rw [this,Nat.mod_self,List.getElem?_append_right (Nat.le_refl _)]
   simp
 constructor
 .intro h
  refine CW (λi x y g1 g2=>?_) rfl List.getLast?_concat
  have hlt:i+1<(c::s++[c]).length:=(List.getElem?_eq_some_iff.1 g2).1
  have hi:i<(c::s).length:=by simp at hlt ⊢; omega
  rw [hget i hi] at g2
  rw [List.getElem?_append_left hi,Ei [] hi] at g1
  cases g1; cases g2
  exact h i hi
 .intro h i hi
  refine CV h i _ _ ?_<|hget i hi
  rw [List.getElem?_append_left hi,Ei [] hi]
theorem Ej {to:Nm} {t:List Nm} {c:Nm} (h:Way l to t c):t=t.dropLast++[to]:=by
 have hne:t≠[]:=by obtain ⟨s,rfl⟩:=FT h; simp
 have h1:=FU h
 rw [List.getLast?_eq_some_getLast hne] at h1
 rw [<- Option.some.inj h1]
 exact (List.dropLast_concat_getLast hne).symm
theorem FV {to:Nm}:∀ {t:List Nm} {c:Nm},Way l to t c->Path l to t.dropLast c
 | [x],c,h=>by rw [<- h.2]; rfl
 | x::y::t,c,⟨h1,h2,h3⟩=>by
  rw [List.dropLast_cons_cons]
  exact ⟨h1,y,h2,FV h3⟩
theorem cand_ok {r:List Nm} (h:r∈zF l):zH l r=true/\r.length<=l.length:=by
 obtain ⟨c,_,h⟩:=List.mem_flatMap.1 h
 obtain ⟨p,hp,h⟩:=List.mem_filterMap.1 h
 unfold qR at h
 obtain ⟨k,hk,rfl⟩:=Option.map_eq_some_iff.1 h
 have hw:=CQ l c k p hk
 have hpath:=FV hw
 have hlen:((short l c k p).dropLast).length=k:=by rw [List.length_dropLast,fZ]; omega
 have hmin:∀ j,j<((short l c k p).dropLast).length->W l c j p=false:=λj hj=>(iF.1 hk).2 j (by omega)
 have hn1:=tT hpath hmin
 have hc : c ∉ (short l c k p).dropLast := λhm => by
  obtain ⟨i,hi,he⟩:=List.getElem_of_mem hm
  have : W l c i p = true := by
   have key:∀ (t:List Nm) (q:Nm) (i:Nat),Path l c t q->t[i]? = some c->W l c i q=true:=by
    intro t
    induction t with
    | nil=>intro q i _ h; simp at h
    | cons x t ih =>
     intro q i ⟨h1,p',h2,h3⟩ h4
     cases i with
     | zero=>simp at h4; simp [W,<- h1,h4]
     | succ i=>exact gQ.2 ⟨p',h2,ih p' i h3 (by simpa using h4)⟩
   exact key _ p i hpath<|by rw [List.getElem?_eq_getElem hi,he]
  rw [hmin i hi] at this; cases this
 have hnd:(c::(short l c k p).dropLast).Nodup:=List.nodup_cons.2 ⟨hc,hn1⟩
 refine ⟨II.2 ⟨hnd,?_⟩,?_⟩
 .rw [List.cons_append,<- Ej hw]
  obtain ⟨s,hs⟩:=FT hw
  rw [hs] at hw ⊢
  exact ⟨rfl,hp,hw⟩
 .have:=aN (b:=nms l) hnd λx hx=>by
   rcases List.mem_cons.1 hx with rfl | hx
   .exact fV.1<|tQ hp
   .exact fV.1<|zB hpath x hx
  simpa [nms] using this
theorem ring_ok {r:List Nm} (h:ring l=some r):zH l r=true/\r.length<=l.length:=cand_ok (Ni h)
variable {l:Sys}
section
variable {α : Type}
def eB (F:List (Nm × α)) (k:Nm):Option α := (F.find? (·.1 == k)).map (·.2)
def gG:List (Nm × α)->Nm -> α -> List (Nm × α)
 | [],k,v=>[(k,v)]
 | p::t,k,v=>if p.1=k then (k,v)::t else p::gG t k v
theorem dQ {p:Nm × α} {t:List (Nm × α)} {k:Nm}:eB (p::t) k=if p.1=k then some p.2 else eB t k:=by
 by_cases h:p.1=k
 .simp [eB,h]
 .have:(p.1 == k)=false:=by simp [h]
  simp [eB,List.find?_cons,this,h]
theorem lJ (F:List (Nm × α)) (k k':Nm) (v : α):eB (gG F k v) k'=if k'=k then some v else eB F k':=by
 induction F with
 | nil =>
  by_cases h:k'=k
  .simp [gG,dQ,h]
  .have:¬ k=k':=λe=>h e.symm
   simp [gG,dQ,h,this]
 | cons p t ih =>
  unfold gG
  by_cases hp:p.1=k
  .rw [if_pos hp,dQ,dQ]
   by_cases h:k'=k
   .simp [h]
   .have:¬ k=k':=λe=>h e.symm
    simp [h,this,hp]
  .rw [if_neg hp,dQ,ih,dQ]
   by_cases h:p.1=k'
   .have:¬ k'=k:=λe=>hp<|h.trans e
    simp [h,this]
   .simp [h]
theorem Lr {F:List (Nm × α)} {k:Nm} {v : α} (h:eB F k=some v):k∈F.map (·.1):=by
 unfold eB at h
 obtain ⟨p,hp,_⟩:=Option.map_eq_some_iff.1 h
 exact List.mem_map.2 ⟨p,List.mem_of_find?_eq_some hp,by simpa using List.find?_some hp⟩
theorem zI {F:List (Nm × α)} {k:Nm}:eB F k=none↔k ∉ F.map (·.1):=by
 simp only [eB,Option.map_eq_none_iff,List.find?_eq_none,List.mem_map,beq_iff_eq,not_exists,not_and]
theorem FW {F:List (Nm × α)} {k:Nm} {v : α} (h:eB F k=none):gG F k v=F++[(k,v)]:=by
 induction F with
 | nil=>rfl
 | cons p t ih =>
  rw [dQ] at h
  by_cases hp:p.1=k
  .rw [if_pos hp] at h; cases h
  .rw [if_neg hp] at h
   simp [gG,hp,ih h]
theorem CX {F:List (Nm × α)} {k:Nm} {v v0 : α} (h:eB F k=some v0):(gG F k v).map (·.1)=F.map (·.1):=by
 induction F with
 | nil=>cases h
 | cons p t ih =>
  rw [dQ] at h
  unfold gG
  by_cases hp:p.1=k
  .rw [if_pos hp]; simp [hp]
  .rw [if_neg hp] at h ⊢
   simp [ih h]
theorem Nl {F:List (Nm×Nat)} {k:Nm} {v v0:Nat} (h:eB F k=some v0):((gG F k v).map (·.2)).sum+v0=(F.map (·.2)).sum+v:=by
 induction F with
 | nil=>cases h
 | cons p t ih =>
  rw [dQ] at h
  unfold gG
  by_cases hp:p.1=k
  .rw [if_pos hp] at h ⊢
   cases h
   simp only [List.map_cons,List.sum_cons]; omega
  .rw [if_neg hp] at h ⊢
   have:=ih h
   simp only [List.map_cons,List.sum_cons]; omega
end
/-! ## Distances -/
structure FarI (l:Sys) (to:Nm) (F:List (Nm×Nat)):Prop where
 self:eB F to=some 0
 walk:∀ x n,eB F x=some n->W l to n x=true/\n<F.length
 keys:∀ x∈F.map (·.1),x=to\/x∈nms l
 nodup:(F.map (·.1)).Nodup
theorem FarI.init (l : Sys) (to : Nm) : FarI l to [(to, 0)] where
 self:=by simp [dQ]
 walk x n h:=by
  rw [dQ] at h
  split at h
  .rename_i he
   cases h
   simp only at he
   exact ⟨by simp [W,he],by simp⟩
  .cases h
 keys x h:=by simp at h; exact .inl h
 nodup:=by simp
theorem FarI.len {to:Nm} {F:List (Nm×Nat)} (h:FarI l to F):F.length<=l.length+1:=by
 have:=aN (b:=to::nms l) h.nodup λx hx=>by
  rcases h.keys x hx with rfl | h
  .simp
  .simp [h]
 simpa [nms] using this
def pot (l:Sys) (F:List (Nm×Nat)):Nat:=(l.length+1 - F.length) * (l.length+2)+(F.map (·.2)).sum
theorem FarI.better {to : Nm} {F : List (Nm × Nat)} (h : FarI l to F) {c p : Nm} {n : Nat} (hp : p ∈ par l c) (hn : eB F p = some n) (hb : ∀ n', eB F c = some n' -> n + 1 < n') :
  FarI l to (gG F c (n+1))/\pot l (gG F c (n+1))<pot l F:=by
 obtain ⟨w1,w2⟩:=h.walk p n hn
 have hlen:=h.len
 have hcto:c≠to:=λe=>by have:=hb 0 (by rw [e]; exact h.self); omega
 cases hc:eB F c with
 | none =>
  have he:=FW (v:=n+1) hc
  have hk:c ∉ F.map (·.1):=zI.1 hc
  have hnd:((gG F c (n+1)).map (·.1)).Nodup:=by
   rw [he,List.map_append]
   exact List.nodup_append.2 ⟨h.nodup,by simp,λx hx y hy e=>by simp at hy; exact hk (hy ▸ e ▸ hx)⟩
  have hF : FarI l to (gG F c (n + 1)) := {
   self:=by rw [lJ,if_neg (λe=>hcto e.symm)]; exact h.self
   walk:=λx m hx=>by
    rw [lJ] at hx
    have hl:(gG F c (n+1)).length=F.length+1:=by rw [he]; simp
    split at hx
    .rename_i hxc
     cases hx
     exact ⟨hxc ▸ gQ.2 ⟨p,hp,w1⟩,by omega⟩
    .have:=h.walk x m hx
     exact ⟨this.1,by omega⟩
   keys:=λx hx=>by
    rw [he,List.map_append,List.mem_append] at hx
    rcases hx with hx | hx
    .exact h.keys x hx
    .simp at hx; rw [hx]; exact .inr (fV.1<|tQ hp)
   nodup:=hnd }
  refine ⟨hF,?_⟩
  have h1:=hF.len
  unfold pot
  rw [he] at h1 ⊢
  simp only [List.length_append,List.length_singleton,List.map_append,List.map_cons,List.map_nil,List.sum_append,List.sum_cons,List.sum_nil] at h1 ⊢
  obtain ⟨d,hd⟩:∃ d,l.length+1 - F.length=d+1:=⟨l.length - F.length,by omega⟩
  rw [hd,show l.length+1 - (F.length+1)=d by omega,Nat.succ_mul]
  omega
 | some v0 =>
  have hk:=CX (v:=n+1) hc
  have hl:(gG F c (n+1)).length=F.length:=by
   have:=congrArg List.length hk
   simpa using this
  have hlt:=hb v0 hc
  refine ⟨{
   self:=by rw [lJ,if_neg (λe=>hcto e.symm)]; exact h.self
   walk:=λx m hx=>by
    rw [lJ] at hx
    split at hx
    .rename_i hxc
     cases hx
     have:=(h.walk c v0 hc).2
     exact ⟨hxc ▸ gQ.2 ⟨p,hp,w1⟩,by omega⟩
    .have:=h.walk x m hx
     exact ⟨this.1,by omega⟩
   keys:=λx hx=>h.keys x (hk ▸ hx)
   nodup:=by rw [hk]; exact h.nodup },?_⟩
  have:=Nl (v:=n+1) hc
  unfold pot
  rw [hl]
  omega
def Rel (F:List (Nm×Nat)) (c p:Nm):Prop:=∀ n,eB F p=some n->∃ n',eB F c=some n'/\n'<=n+1
theorem FarI.done {to:Nm} {F:List (Nm×Nat)} (h:FarI l to F) (hr:∀ c p,p∈par l c->Rel F c p) (x:Nm):eB F x=gZ l to x:=by
 have key:∀ k x,W l to k x=true->∃ n,n<=k/\eB F x=some n:=by
  intro k
  induction k with
  | zero=>intro x hx; exact ⟨0,Nat.le_refl _,by rw [show x=to by simpa [W] using hx]; exact h.self⟩
  | succ k ih =>
   intro x hx
   obtain ⟨p,hp,hw⟩:=gQ.1 hx
   obtain ⟨n,h1,h2⟩:=ih p hw
   obtain ⟨n',h3,h4⟩:=hr x p hp n h2
   exact ⟨n',by omega,h3⟩
 cases hd:gZ l to x with
 | none =>
  cases hx:eB F x with
  | none=>rfl
  | some n=>have:=(h.walk x n hx).1; rw [CK.1 hd n] at this; cases this
 | some k =>
  obtain ⟨h1,h2⟩:=iF.1 hd
  obtain ⟨n,h3,h4⟩:=key k x h1
  rw [h4]
  rcases Nat.lt_or_ge n k with h' | h'
  .have:=(h.walk x n h4).1
   rw [h2 n h'] at this; cases this
  .rw [show n=k by omega]
variable {l:Sys}
theorem FX (h:24<l.length):check l=(3,[]):=by unfold check; rw [if_pos h]
theorem mV (h:l.length<=24) {i:Nat} {x:Cls} (hx:l[i]? = some x) (hb:∀ (j:Nat) (y:Cls),j<i->l[j]? = some y->alone l j y=0) (hn:alone l i x≠0):check l=(alone l i x,x.name):=by
 have hf:(l.zipIdx.map λq=>(alone l q.2 q.1,q.1.name)).find? (λe=>e.1 != 0)=some (alone l i x,x.name):=by
  rw [List.find?_eq_some_iff_getElem]
  obtain ⟨hi,he⟩:=List.getElem?_eq_some_iff.1 hx
  refine ⟨by simpa using hn,i,by simpa using hi,by simp [he],λj hj=>?_⟩
  have:=hb j _ hj<|List.getElem?_eq_getElem<|by omega
  simp [this]
 unfold check
 rw [if_neg (by omega),hf]
theorem wL (hb:∀ (j:Nat) (y:Cls),l[j]? = some y->alone l j y=0):(l.zipIdx.map λq=>(alone l q.2 q.1,q.1.name)).find? (λe=>e.1 != 0)=none:=by
 rw [List.find?_eq_none]
 intro e he
 obtain ⟨⟨x,i⟩,hq,rfl⟩:=List.mem_map.1 he
 have:=hb i x<|List.mem_zipIdx_iff_getElem?.1 hq
 simp [this]
theorem IJ (h:l.length<=24) (hb:∀ (j:Nat) (y:Cls),l[j]? = some y->alone l j y=0) {i:Nat} {x:Cls} (hx:l[i]? = some x) (hl:∀ (j:Nat) (y:Cls),j<i->l[j]? = some y->lost l y=false) (hn:lost l x=true):check l=(5,x.name):=by
 have hf:List.find? (lost l) l=some x:=by
  rw [List.find?_eq_some_iff_getElem]
  obtain ⟨hi,he⟩:=List.getElem?_eq_some_iff.1 hx
  exact ⟨hn,i,hi,he,λj hj=>by rw [hl j _ hj (List.getElem?_eq_getElem<|by omega)]; decide⟩
 unfold check
 rw [if_neg (by omega),wL hb]
 simp only [hf]
theorem FY (hl:∀ (j:Nat) (y:Cls),l[j]? = some y->lost l y=false):List.find? (lost l) l=none:=by
 rw [List.find?_eq_none]
 intro x hx
 obtain ⟨j,hj⟩:=List.getElem?_of_mem hx
 rw [hl j x hj]; decide
theorem IK (h:l.length<=24) (hb:∀ (j:Nat) (y:Cls),l[j]? = some y->alone l j y=0) (hl:∀ (j:Nat) (y:Cls),l[j]? = some y->lost l y=false) {r:List Nm} (hr:ring l=some r):check l=(7,r.headD []):=by
 unfold check
 rw [if_neg (by omega),wL hb]
 simp only [FY hl,hr]
theorem Nn (h:l.length<=24) (hb:∀ (j:Nat) (y:Cls),l[j]? = some y->alone l j y=0) (hl:∀ (j:Nat) (y:Cls),l[j]? = some y->lost l y=false) (hr:ring l=none):check l=(0,[]):=by
 unfold check
 rw [if_neg (by omega),wL hb]
 simp only [FY hl,hr]
variable {l:Sys}
def rq (F:List (Nm×Nat)) (x:Nm):Nat:=(eB F x).getD 0
theorem zJ (F:List (Nm×Nat)) (k x:Nm) (n:Nat):rq (gG F k n) x=if x=k then n else rq F x:=by
 unfold rq
 rw [lJ]
 split <;> rfl
def WaysI (l:Sys) (a:Nm) (o:List Nm) (F:List (Nm×Nat)):Prop:=∀ y,rq F y=if y∈o then ways l y a else if y=a then 1 else 0
def zL (l:Sys) (a:Nm) (o:List Nm) (x:Nm) (ps:List Nm) (F:List (Nm×Nat)):Prop:=∀ y,rq F y=if y=x then (if x=a then 1 else 0)+(ps.map λp=>ways l p a).sum else if y∈o then ways l y a else if y=a then 1 else 0
theorem WaysI.init (l:Sys) (a:Nm):WaysI l a [] [(a,1)]:=λy=>by
 unfold rq
 rw [dQ]
 by_cases h:a=y
 .simp [h]
 .rw [if_neg h]
  have:¬ y=a:=λe=>h e.symm
  simp [this,eB]
theorem zL.next {a x p:Nm} {o ps:List Nm} {F:List (Nm×Nat)} (h:zL l a o x ps F) (hp:p∈o) (hx:x ∉ o):zL l a o x (ps++[p]) (gG F x (rq F x+rq F p)):=λy=>by
 have hpx:p≠x:=λe=>hx (e ▸ hp)
 rw [zJ]
 by_cases hy:y=x
 .subst hy
  rw [if_pos rfl,if_pos rfl,h y,if_pos rfl,h p,if_neg hpx,if_pos hp]
  simp; omega
 .rw [if_neg hy,if_neg hy,h y,if_neg hy]
theorem zL.done (ha:gT l) {a x:Nm} {o:List Nm} {F:List (Nm×Nat)} (h:zL l a o x (par l x) F):WaysI l a (o++[x]) F:=λy=>by
 rw [h y]
 by_cases hy:y=x
 .subst hy
  rw [if_pos rfl,if_pos (show y∈o++[y] by simp),uW ha]
 .rw [if_neg hy]; simp [hy]
theorem zL.le (ha:gT l) {a x:Nm} {o ps:List Nm} {F:List (Nm×Nat)} (h:zL l a o x ps F) (hps:∀ p∈ps,p∈par l x) (hl:ps.length<=4) (h4:∀ c,(par l c).length<=4) (h24:l.length<=24) (y:Nm):rq F y<=1+4 * 4 ^ 24:=by
 have hb:∀ c,ways l c a<=4 ^ 24:=λc=>Nat.le_trans (ways_le ha h4 a c)<|Nat.pow_le_pow_right (by omega)<|Nat.le_trans (q9 l c) h24
 rw [h y]
 split
 .have h1:(ps.map λp=>ways l p a).sum<=ps.length * 4 ^ 24:=IG λp _=>hb p
  have h2:ps.length * 4 ^ 24<=4 * 4 ^ 24:=Nat.mul_le_mul_right _ hl
  split <;> omega
 .split
  .have:=hb y; omega
  .split <;> omega
/-! ## Levels in a table -/
def LevI (l:Sys) (o:List Nm) (F:List (Nm×Nat)):Prop:=∀ y,rq F y=if y∈o then lv l y else 0
def LevK (l:Sys) (o:List Nm) (x:Nm) (ps:List Nm) (F:List (Nm×Nat)):Prop:=∀ y,rq F y=if y=x then mx (ps.map λp=>lv l p+1) else if y∈o then lv l y else 0
theorem LevI.init (l:Sys):LevI l [] []:=λy=>by simp [rq,eB]
theorem LevK.next {x p:Nm} {o ps:List Nm} {F:List (Nm×Nat)} (h:LevK l o x ps F) (hp:p∈o) (hx:x ∉ o):LevK l o x (ps++[p]) (gG F x (max (rq F x) (rq F p+1))):=λy=>by
 have hpx:p≠x:=λe=>hx (e ▸ hp)
 rw [zJ]
 by_cases hy:y=x
 .subst hy
  rw [if_pos rfl,if_pos rfl,h y,if_pos rfl,h p,if_neg hpx,if_pos hp,List.map_append,List.map_singleton,mx_snoc]
 .rw [if_neg hy,if_neg hy,h y,if_neg hy]
theorem LevK.done (ha:gT l) {x:Nm} {o:List Nm} {F:List (Nm×Nat)} (h:LevK l o x (par l x) F):LevI l (o++[x]) F:=λy=>by
 rw [h y]
 by_cases hy:y=x
 .subst hy
  rw [if_pos rfl,if_pos (show y∈o++[y] by simp),Nh ha]
 .rw [if_neg hy]; simp [hy]
theorem lv_24 (ha:gT l) (h24:l.length<=24) (c:Nm):lv l c<=24:=Nat.le_trans (lv_le ha c) (Nat.le_trans (q9 l c) h24)
theorem LevK.le (ha:gT l) {x:Nm} {o ps:List Nm} {F:List (Nm×Nat)} (h:LevK l o x ps F) (h24:l.length<=24) (y:Nm):rq F y<=25:=by
 rw [h y]
 split
 .exact mx_le λz hz=>by
   obtain ⟨p,_,rfl⟩:=List.mem_map.1 hz
   have:=lv_24 ha h24 p
   omega
 .split
  .have:=lv_24 ha h24 y; omega
  .omega
variable {l:Sys}
def LvI (l:Sys) (done:List Nm) (F:List (Nm×Nat)):Prop:=∀ n,rq F n=if n∈done then lv l n+1 else 0
theorem LvI.init:LvI l [] []:=λn=>by simp [rq,eB]
theorem LvI.next {done:List Nm} {F:List (Nm×Nat)} (h:LvI l done F) {n:Nm} {x:Nat} (hx:lv l n=x):LvI l (done++[n]) (gG F n (x+1)):=λm=>by
 rw [zJ,h m]
 by_cases hm:m=n
 .subst hm; simp [hx]
 .simp [hm]
def most (l:Sys) (ps:List Nm):Nat:=mx (ps.map λp=>lv l p+1)
def addE (l:Sys) (x:Cls):Int:=if (check l).1=0 then (check (l++[x])).1 else (check l).1
def rest (l:Sys) (c:Nm):Sys:=l.filter λx=>x.name != c
def used (l:Sys) (c:Nm):Bool:=l.any λx=>x.parents.contains c
section
variable {l:Sys} {x:Cls} {c:Nm}
theorem Right.new (h:Right (l++[x])):x.name ∉ nms l:=by
 have:=h.uniq
 unfold nms at this
 rw [List.map_append,List.nodup_append] at this
 exact λhx=>this.2.2 _ hx x.name (by simp) rfl
end
end Go.Hr
namespace Go.Ck
open Go

/-! ## What is known of a frame -/
abbrev Env:=List (Nat×Value)
def Env.get? : Env->Nat->Option Value
 | [],_=>none
 | (j,v)::t,i=>bif Nat.beq j i then some v else Env.get? t i
def Env.ev? (e:Env):Operand->Option Value
 | .tmp t=>e.get? t
 | .const v=>some v
 | .global g=>some (.pointer (some ⟨g,0,none⟩))
 | .func f=>some (.func (.func f) #[] #[])

structure Kn (n:Nat) (ds:List Deferred) (a:Act) (e:Env):Prop where
 size:a.tmps.size=n
 defers:a.defers=ds
 get:∀ i v,e.get? i=some v->a.tmps[i]? = some v

theorem zM {a b:Nat} (h:a≠b):Nat.beq a b=false:=by
 cases hb:Nat.beq a b with
 | false=>rfl
 | true=>exact absurd (Nat.eq_of_beq_eq_true hb) h

theorem Kn.put {n:Nat} {ds:List Deferred} {a:Act} {e:Env} (h:Kn n ds a e) {d:Nat} (v:Value) (hd:d<n):Kn n ds (a.put (some d) v) ((d,v)::e):=by
 refine ⟨by simp [Act.put,h.size],h.defers,λi u hi=>?_⟩
 by_cases hid:d=i
 .subst hid
  simp only [Env.get?,Nat.beq_refl,cond_true,Option.some.injEq] at hi
  subst hi
  simp [Act.put,h.size,hd]
 .simp only [Env.get?,zM hid,cond_false] at hi
  simp only [Act.put,Array.getElem?_setIfInBounds_ne hid]
  exact h.get i u hi

theorem Kn.ev {n:Nat} {ds:List Deferred} {a:Act} {e:Env} (h:Kn n ds a e) {x:Operand} {v:Value} (hx:e.ev? x=some v):a.eval x=v:=by
 cases x with
 | tmp t=>simp only [Env.ev?] at hx; simp [Act.eval,Array.getD_eq_getD_getElem?,h.get t v hx]
 | const u=>simpa [Env.ev?,Act.eval] using hx
 | global g=>simpa [Env.ev?,Act.eval] using hx
 | func f=>simpa [Env.ev?,Act.eval] using hx

def Env.sub:Env->Env->Prop
 | [],_=>True
 | (j,v)::t,e=>e.get? j=some v/\Env.sub t e
theorem Env.sub_get {e' e:Env} (h:Env.sub e' e) {i:Nat} {v:Value} (hi:e'.get? i=some v):e.get? i=some v:=by
 induction e' with
 | nil=>simp [Env.get?] at hi
 | cons q t ih =>
  obtain ⟨p,u⟩:=q
  obtain ⟨h1,h2⟩:=h
  by_cases hp:p=i
  .subst hp
   simp only [Env.get?,Nat.beq_refl,cond_true,Option.some.injEq] at hi
   rw [<- hi]; exact h1
  .simp only [Env.get?,zM hp,cond_false] at hi
   exact ih h2 hi
theorem Kn.weaken {n:Nat} {ds:List Deferred} {a:Act} {e e':Env} (h:Kn n ds a e) (hs:Env.sub e' e):Kn n ds a e' :=
 ⟨h.size,h.defers,λi v hi=>h.get i v<|Env.sub_get hs hi⟩

/-! ## What is known of the heap -/
structure Res where
 dom:Nat->Prop
 ok:(Nat->Option Obj)->Prop
 loc:∀ f g,(∀ b,dom b->f b=g b)->ok f->ok g
 pres:∀ f,ok f->∀ b,dom b->(f b).isSome=true
abbrev SH:=List Res
def SH.dom:SH->Nat->Prop
 | [],_=>False
 | r::t,b=>r.dom b\/SH.dom t b
def bn (f:Nat->Option Obj):SH->Prop
 | []=>True
 | r::t=>r.ok f/\(∀ b,r.dom b->¬ SH.dom t b)/\bn f t
def hp (w:World):Nat->Option Obj:=λb=>w.heap[b]?
def Holds (w:World) (h:SH):Prop:=bn (hp w) h

theorem SH.dom_append {h k:SH} {b:Nat}:SH.dom (h++k) b↔SH.dom h b\/SH.dom k b:=by
 induction h with
 | nil=>simp [SH.dom]
 | cons r t ih=>simp only [List.cons_append,SH.dom,ih,or_assoc]

theorem SH.dom_perm {h k:SH} (hk:h.Perm k) {b:Nat}:SH.dom h b↔SH.dom k b:=by
 induction hk with
 | nil=>exact Iff.rfl
 | cons x _ ih=>simp only [SH.dom,ih]
 | swap x y l=>simp only [SH.dom]; constructor <;> (rintro (h | h | h) <;> simp [h])
 | trans _ _ ih1 ih2=>exact ih1.trans ih2

theorem bn.perm {f:Nat->Option Obj} {h k:SH} (hk:h.Perm k):bn f h↔bn f k:=by
 induction hk with
 | nil=>exact Iff.rfl
 | cons x hp ih=>simp only [bn,ih,SH.dom_perm hp]
 | swap x y l =>
  simp only [bn,SH.dom]
  constructor
  .rintro ⟨h1,h2,h3,h4,h5⟩
   exact ⟨h3,λb hb hn=>hn.elim (λhy=>h2 b hy<|.inl hb) (h4 b hb),h1,λb hb hn=>h2 b hb (.inr hn),h5⟩
  .rintro ⟨h1,h2,h3,h4,h5⟩
   exact ⟨h3,λb hb hn=>hn.elim (λhy=>h2 b hy<|.inl hb) (h4 b hb),h1,λb hb hn=>h2 b hb (.inr hn),h5⟩
 | trans _ _ ih1 ih2=>exact ih1.trans ih2

theorem bn.append {f:Nat->Option Obj} {h k:SH}:bn f (h++k)↔bn f h/\bn f k/\∀ b,SH.dom h b->¬ SH.dom k b:=by
 induction h with
 | nil=>simp [bn,SH.dom]
 | cons r t ih =>
  simp only [List.cons_append,bn,ih,SH.dom_append,SH.dom]
  constructor
  .rintro ⟨h1,h2,h3,h4,h5⟩
   exact ⟨⟨h1,λb hb hn=>h2 b hb (.inl hn),h3⟩,h4,λb hb hn=>hb.elim (λhr=>h2 b hr<|.inr hn)<|λht=>h5 b ht hn⟩
  .rintro ⟨⟨h1,h2,h3⟩,h4,h5⟩
   exact ⟨h1,λb hb hn=>hn.elim (h2 b hb) (h5 b<|.inl hb),h3,h4,λb hb=>h5 b<|.inr hb⟩

theorem bn.loc {f g:Nat->Option Obj} {h:SH} (hh:bn f h) (he:∀ b,SH.dom h b->f b=g b):bn g h:=by
 induction h with
 | nil=>trivial
 | cons r t ih=>exact ⟨r.loc f g (λb hb=>he b (.inl hb)) hh.1,hh.2.1,ih hh.2.2 λb hb=>he b (.inr hb)⟩

theorem bn.pres {f:Nat->Option Obj} {h:SH} (hh:bn f h) {b:Nat} (hb:SH.dom h b):(f b).isSome=true:=by
 induction h with
 | nil=>exact hb.elim
 | cons r t ih=>exact hb.elim (r.pres f hh.1 b) (ih hh.2.2)

def Res.star (h:SH):Res:=⟨SH.dom h,λf=>bn f h,λ_ _ he hh=>hh.loc he,λ_ hh _ hb=>hh.pres hb⟩
theorem dL {f:Nat->Option Obj} {h k:SH}:bn f (Res.star h::k)↔bn f (h++k):=by
 rw [bn.append]
 simp only [bn,Res.star]
 exact ⟨λ⟨a,b,c⟩=>⟨a,c,b⟩,λ⟨a,c,b⟩=>⟨a,b,c⟩⟩

def pt (b:Nat) (o:Obj):Res:=⟨(· = b),λf=>f b=some o,λf g he hf=>by rw [<- he b rfl]; exact hf,λf hf c hc=>by rw [hc,hf]; rfl⟩
def old (W:World):Res:=⟨(· < W.heap.size),λf=>∀ b,b<W.heap.size->f b=W.heap[b]?,λf g he hf b hb=>by rw [<- he b hb]; exact hf b hb,
 λf hf b hb=>by rw [hf b hb,Array.getElem?_eq_getElem hb]; rfl⟩

theorem Holds.lt {w:World} {h:SH} (hh:Holds w h) {b:Nat} (hb:SH.dom h b):b<w.heap.size:=by
 have:=bn.pres hh hb
 simp only [hp] at this
 rcases Nat.lt_or_ge b w.heap.size with h1 | h1
 .exact h1
 .rw [Array.getElem?_eq_none h1] at this; cases this

structure Same (w w':World):Prop where
 os:w'.os=w.os
 tape:w'.tape=w.tape
 output:w'.output=w.output
 dw:w.drawn<=w'.drawn
 size:w.heap.size<=w'.heap.size
 fz:∀ a,a.block<w.heap.size->w'.frozen? a=w.frozen? a
theorem Same.refl (w:World):Same w w:=⟨rfl,rfl,rfl,Nat.le_refl _,Nat.le_refl _,λ_ _=>rfl⟩
theorem Same.trans {a b c:World} (h:Same a b) (k:Same b c):Same a c:=⟨k.os.trans h.os,k.tape.trans h.tape,k.output.trans h.output,Nat.le_trans h.dw k.dw,Nat.le_trans h.size k.size,λx hx=>(k.fz x<|Nat.lt_of_lt_of_le hx h.size).trans<|h.fz x hx⟩
def melt:Obj->Bool
 | .cells _ _ (lo,hi)=>Nat.ble hi lo
 | _=>true
theorem xO {w:World} {a:Addr} (h:∀ o,w.heap[a.block]? = some o->melt o=true):w.frozen? a=false:=by
 unfold World.frozen?
 cases hq:w.heap[a.block]? with
 | none=>rfl
 | some o =>
  have hm:=h o hq
  cases o with
  | cells c t f =>
   obtain ⟨lo,hi⟩:=f
   have:hi<=lo:=Nat.le_of_ble_eq_true hm
   simp; omega
  | _=>rfl
theorem pJ {w w':World} {b:Nat} (h1:∀ o,w.heap[b]? = some o->melt o=true) (h2:∀ o,w'.heap[b]? = some o->melt o=true) (h3:∀ c,c≠b->w'.heap[c]? = w.heap[c]?) (a:Addr) (_:a.block<w.heap.size):w'.frozen? a=w.frozen? a:=by
 by_cases h:a.block=b
 .rw [xO (w:=w) (by rw [h]; exact h1),xO (w:=w') (by rw [h]; exact h2)]
 .unfold World.frozen?; rw [h3 _ h]

structure Grew (w w':World):Prop extends Same w w' where
 block:∀ b,b<w.heap.size->w'.heap[b]? = w.heap[b]?
theorem Grew.refl (w:World):Grew w w:=⟨Same.refl w,λ_ _=>rfl⟩
theorem Grew.trans {a b c:World} (h:Grew a b) (k:Grew b c):Grew a c :=
 ⟨h.toSame.trans k.toSame,λi hi=>(k.block i<|Nat.lt_of_lt_of_le hi h.size).trans<|h.block i hi⟩
theorem Holds.grew {w w':World} {h:SH} (hh:Holds w h) (hg:Grew w w'):Holds w' h :=
 bn.loc hh λb hb=>(hg.block b<|Holds.lt hh hb).symm
theorem Grew.drawn (w:World) (n:Nat) (hn:w.drawn<=n:=by exact Nat.le_succ _):Grew w { w with drawn:=n }:=⟨⟨rfl,rfl,rfl,hn,Nat.le_refl _,λ_ _=>rfl⟩,λ_ _=>rfl⟩
theorem alloc_old (w:World) (o:Obj) (b:Nat) (hb:b≠w.heap.size):(w.alloc o).heap[b]? = w.heap[b]? := by
 show (w.heap.push o)[b]? = _
 rw [Array.getElem?_push,if_neg (by omega)]
theorem Grew.alloc (w:World) (o:Obj) (ho:melt o=true):Grew w (w.alloc o):=⟨⟨rfl,rfl,rfl,Nat.le_refl _,by simp,pJ (b:=w.heap.size) (λo' h=>by simp at h) (λo' h=>by
  have:(w.heap.push o)[w.heap.size]? = some o':=h
  simp at this; rw [<- this]; exact ho) (λc hc=>alloc_old w o c hc)⟩,λb hb=>alloc_old w o b (by omega)⟩

theorem Holds.alloc {w:World} {h:SH} (hh:Holds w h) (o:Obj):Holds (w.alloc o) (pt w.heap.size o::h):=by
 refine ⟨?_,λb hb hn=>?_,bn.loc hh λb hb=>(alloc_old w o b (by have:=Holds.lt hh hb; omega)).symm⟩
 .show (w.heap.push o)[w.heap.size]? = some o
  simp
 .have h1:b=w.heap.size:=hb
  have h2:=Holds.lt hh hn
  omega

theorem Holds.modify {w w':World} {b:Nat} {o o':Obj} {h:SH} (hh:Holds w (pt b o::h)) (h1:w'.heap[b]? = some o') (h2:∀ c,c≠b->w'.heap[c]? = w.heap[c]?):Holds w' (pt b o'::h):=
 ⟨h1,hh.2.1,bn.loc hh.2.2 λc hc=>(h2 c<|λe=>hh.2.1 b rfl (e ▸ hc)).symm⟩

/-! ## Selecting resources -/
inductive Sel:SH->Res->SH->Prop
 | here {r:Res} {t:SH}:Sel (r::t) r t
 | there {x r:Res} {t t':SH}:Sel t r t'->Sel (x::t) r (x::t')
theorem Sel.perm {h h':SH} {r:Res} (s:Sel h r h'):h.Perm (r::h'):=by
 induction s with
 | here=>exact .refl _
 | there _ ih=>exact (ih.cons _).trans (.swap _ _ _)
inductive Pk:SH->SH->SH->Prop
 | nil {h:SH}:Pk h [] h
 | cons {h h1 k hr:SH} {x:Res}:Sel h x h1->Pk h1 k hr->Pk h (x::k) hr
 | of {h k hr:SH}:h.Perm (k++hr)->Pk h k hr
theorem Pk.perm {h k hr:SH} (p:Pk h k hr):h.Perm (k++hr):=by
 induction p with
 | nil=>exact .refl _
 | cons s _ ih=>exact s.perm.trans (ih.cons _)
 | of h=>exact h
theorem Holds.perm {w:World} {h k:SH} (hk:h.Perm k) (hh:Holds w h):Holds w k:=(bn.perm hk).1 hh
theorem Holds.pk {w:World} {h k hr:SH} (p:Pk h k hr) (hh:Holds w h):Holds w (k++hr):=hh.perm p.perm
theorem Holds.sel {w:World} {h h':SH} {r:Res} (s:Sel h r h') (hh:Holds w h):Holds w (r::h'):=hh.perm s.perm

def Sub (k h:SH):Prop:=∃ x,h.Perm (k++x)
theorem Sub.refl (h:SH):Sub h h:=⟨[],by simp⟩
theorem Sub.nil (h:SH):Sub [] h:=⟨h,.refl _⟩
theorem Sub.cons {k h:SH} {x:Res} (s:Sub k h):Sub k (x::h):=let ⟨y,p⟩:=s; ⟨x::y,(p.cons x).trans List.perm_middle.symm⟩
theorem Sub.sel {h h1 k:SH} {x:Res} (s:Sel h x h1) (t:Sub k h1):Sub (x::k) h:=let ⟨y,p⟩:=t; ⟨y,s.perm.trans<|p.cons x⟩
theorem Sub.pk {h k x:SH} (p:Pk h k x):Sub k h:=⟨x,p.perm⟩
theorem Sub.of {k h:SH} (p:h.Perm k):Sub k h:=⟨[],by simpa using p⟩
theorem Sub.trans {a b d:SH} (p:Sub a b) (q:Sub b d):Sub a d:=let ⟨x,hx⟩:=p; let ⟨y,hy⟩:=q; ⟨x++y,hy.trans<|(hx.append_right y).trans<|by rw [List.append_assoc]⟩
theorem Holds.sub {w:World} {h k:SH} (s:Sub k h) (hh:Holds w h):Holds w k:=let ⟨_,p⟩:=s; (bn.append.1<|hh.perm p).1

/-! ## What a resource says of a cell -/
def Rd (r:Res) (p:Addr) (v:Value):Prop:=∀ w:World,r.ok (hp w)->w.cell? p=some v
theorem rd_pt {b off:Nat} {cs:Array Value} {T:TypeId} {fr:Nat×Nat} {v:Value} (h:cs[off]? = some v):Rd (pt b (.cells cs T fr)) ⟨b,off,none⟩ v:=λw hw=>by
 have hw':w.heap[b]? = some (.cells cs T fr):=hw
 simp [World.cell?,hw',h]
theorem Np {W:World} {p:Addr} {v:Value} (hb:p.block<W.heap.size) (h:W.cell? p=some v):Rd (old W) p v:=λw hw=>by
 have hw':w.heap[p.block]? = W.heap[p.block]? := hw p.block hb
 rw [<- h]; exact World.cell?_of_block hw'
theorem pM {k:SH} {r:Res} {k':SH} {p:Addr} {v:Value} (s:Sel k r k') (h:Rd r p v):Rd (Res.star k) p v:=λw hw=>h w ((bn.perm s.perm).1 hw).1
theorem Rd.at {w:World} {h h':SH} {r:Res} {p:Addr} {v:Value} (hr:Rd r p v) (s:Sel h r h') (hh:Holds w h):w.cell? p=some v:=hr w (hh.sel s).1

/-! ## Contracts -/
def Ct (P:Program) (k:FuncId) (args:Array Value) (hf:SH) (R:Value->SH->Prop):Prop :=
 ∀ (hr:SH) (w:World),Holds w (hf++hr)->Calls P k args w λe w'=>∃ v h',e = .returned v/\R v h'/\Holds w' (h'++hr)/\Same w w'
def Cq (P:Program) (k:FuncId) (args:Array Value) (hf:SH) (v:Value):Prop :=
 ∀ (hr:SH) (w:World),Holds w (hf++hr)->Calls P k args w λe w'=>e = .returned v/\Grew w w'
theorem Ct.mono {P:Program} {k:FuncId} {args:Array Value} {hf:SH} {R R':Value->SH->Prop} (h:Ct P k args hf R) (hr:∀ v h',R v h'->R' v h'):Ct P k args hf R' :=
 λhr' w hw=>(h hr' w hw).mono λ_ _ ⟨v,h',e,r,rest⟩=>⟨v,h',e,hr v h' r,rest⟩
theorem Cq.ct {P:Program} {k:FuncId} {args:Array Value} {hf:SH} {v:Value} (h:Cq P k args hf v):Ct P k args hf λu h'=>u=v/\h'=hf :=
 λhr w hw=>(h hr w hw).mono λ_ _ ⟨e,g⟩=>⟨v,hf,e,⟨rfl,rfl⟩,Holds.grew hw g,g.toSame⟩
theorem slq {h h1:SH} {r:Res} (p:Sel h r h1:=by repeat (first | exact Sel.here | apply Sel.there)):Sel h r h1:=p
theorem sbq {k h:SH} (p:Sub k h:=by (repeat (refine Sub.sel (by repeat (first | exact Sel.here | apply Sel.there)) ?_)); (repeat apply Sub.cons); first | exact Sub.refl _ | exact Sub.nil _):Sub k h:=p
theorem sbr {k h:SH} (p:Sub k h:=by repeat (first | exact Sub.refl _ | exact Sub.nil _ | refine Sub.sel (by repeat (first | exact Sel.here | apply Sel.there)) ?_ | apply Sub.cons)):Sub k h:=p
theorem Zz {p : Prop} (h : p := by kernel_rfl) : p := h
theorem Zy {α : Type _} {l : List α} {i : Nat} (h : i < l.length) : l[i]? = some l[i] := List.getElem?_eq_getElem h
theorem Zx {p : Prop} (h : p := by simpa using hd) : p := h
theorem Zw {p : Prop} (h : p := by simpa using hd2) : p := h
theorem Zv {p : Prop} (h : p := by simpa using hne) : p := h
theorem Zu {p : Prop} (h : p := by simpa using hq) : p := h
theorem Zt {p : Prop} (h : p := by simpa using hu2) : p := h
theorem Zr {p : Prop} (h : p := by simpa using hd3) : p := h
theorem Zp {p : Prop} (h : p := by simpa using h) : p := h
theorem Zo {p : Prop} (h : p := by simpa using h2) : p := h
theorem Zn {p : Prop} (h : p := by simpa using hl) : p := h
theorem Zm {p : Prop} (h : p := by simpa using hc) : p := h
theorem Zl {p : Prop} (h : p := by simpa using hz) : p := h
theorem Zk {p : Prop} (h : p := by simpa using hn) : p := h
theorem Zj {p : Prop} (h : p := by simpa using he) : p := h
theorem Zi {p : Prop} (h : p := by simpa using hi) : p := h
theorem Zh {p : Prop} (h : p := by simpa using hsz) : p := h
theorem Zg {p : Prop} (h : p := by simpa using hj) : p := h
theorem Zf {p : Prop} (h : p := by simpa using h1) : p := h
theorem Ze {p : Prop} (h : p := by simpa using hct) : p := h
theorem Zd {p : Prop} (h : p := by simpa using hno) : p := h
theorem Zc {p : Prop} (h : p := by simpa using h3) : p := h
theorem Zb {p : Prop} (h : p := by simpa using ho2) : p := h
theorem Za {p : Prop} (h : p := by simpa using hg) : p := h
theorem Z0 {p : Prop} (h : p := by unfold I64 at *; omega) : p := h

theorem ltn {a b:Nat} (h:Nat.blt a b=true):a<b:=by simpa [Nat.blt_eq] using h
theorem len {a b:Nat} (h:Nat.ble a b=true):a<=b:=Nat.le_of_ble_eq_true h
def Fw (r:Option Nat):Fence:={ Fence.wide with round:=r }
theorem Kl (r:Option Nat) (n:Nat):(Fw r).room n:=λ_ h=>by simp [Fw,Fence.wide] at h
theorem zN (r:Option Nat) (n:Nat):(Fw r).depth.isSome=true->1<=n:=λh=>by simp [Fw,Fence.wide] at h
theorem tX {r:Option Nat} {n:Nat} {P:Program} {f:FuncId} {args:Array Value} {w:World} {R:Ending->World->Prop} (h:Calls P f args w R):CallsIn (Fw r) n P f args w R :=
 let h':=(callsIn_wide (n:=n)).2 h
 ⟨trivial,λcs _=>h'.2 cs<|room_wide _⟩
theorem uX {r:Option Nat} {n:Nat} {P:Program} {f:FuncId} {args:Array Value} {w:World} {R:Ending->World->Prop} (h:CallsIn (Fw r) n P f args w R):Calls P f args w R :=
 (callsIn_wide (n:=n)).1 ⟨trivial,λcs _=>h.2 cs<|Kl r _⟩

def Rounds (P:Program) (l:Nat) (f:FuncId) (tmps:Array Value) (assign body:Code) (w:World) (R:Value->World->Prop):Prop :=
 RoundIn (Fw none) 0 P l f tmps assign body w λe w'=>∃ v,e = .returned v/\R v w'

def zO (P:Program) (R:Value->World->Prop):Result Next->Prop
 | .ok (.value v) w'=>R v w'
 | .ok .skip w'=>R undef w'
 | .ok (.enter f args) w'=>Calls P f args w' λe w''=>∃ v,e = .returned v/\R v w''
 | .ok (.round l f tmps assign body) w'=>Rounds P l f tmps assign body w' R
 | .ok (.row row args) w'=>Rows P row args w' R
 | _=>False
def OpV (P:Program) (r:Option Nat) (o:Oper) (a:Act) (w:World) (R:Value->World->Prop):Prop:=zO P R ((o.semAt r a.eval).run P w)
def OpW (P:Program) (r:Option Nat) (o:Oper) (a:Act) (w:World) (K:Act->World->Prop):Prop:=OpV P r o a w λv w'=>K (a.put o.dst v) w'

theorem jg {P:Program} {R R':Value->World->Prop} (hk:∀ v w,R v w->R' v w) {x:Result Next} (h:zO P R x):zO P R' x:=by
 cases x with
 | halt _ _=>exact h
 | ok n w' =>
  cases n <;> first
   | exact h.elim
   | exact hk _ _ h
   | exact Calls.mono h λ_ _ ⟨v,e,k⟩=>⟨v,e,hk _ _ k⟩
   | exact RoundIn.mono h λ_ _ ⟨v,e,k⟩=>⟨v,e,hk _ _ k⟩
   | exact Rows.mono h λ_ _ k=>hk _ _ k
theorem OpV.mono {P:Program} {r:Option Nat} {o:Oper} {a:Act} {w:World} {R R':Value->World->Prop} (hk:∀ v w,R v w->R' v w) (h:OpV P r o a w R):OpV P r o a w R':=jg hk h
theorem OpW.mono {P:Program} {r:Option Nat} {o:Oper} {a:Act} {w:World} {K K':Act->World->Prop} (hk:∀ a w,K a w->K' a w) (h:OpW P r o a w K):OpW P r o a w K':=OpV.mono (λ_ _ k=>hk _ _ k) h

theorem IL {r:Option Nat} {n:Nat} {P:Program} {l:Nat} {f:FuncId} {tmps:Array Value} {assign body:Code} {w:World} {R:Ending->World->Prop}
  (h:RoundIn (Fw none) 0 P l f tmps assign body w R):RoundIn (Fw r) n P l f tmps assign body w R:=⟨trivial,λc cs _=>h.2 c cs<|Kl none _⟩

theorem OpW.wpIn {P:Program} {r:Option Nat} {o:Oper} {a:Act} {w:World} {K:Act->World->Prop} {Q:Exit->Act->World->Prop} (h:OpW P r o a w K):o.wpIn (Fw r) 0 P a w K Q:=by
 refine ⟨λ_ _=>trivial,?_⟩
 unfold OpW OpV at h
 show o.uponIn (Fw r) 0 P a K Q ((o.semAt r a.eval).run P w)
 generalize (o.semAt r a.eval).run P w=x at *
 cases x with
 | halt _ _=>exact h.elim
 | ok n w' =>
  cases n <;> first
   | exact h.elim
   | exact h
   | exact ⟨zN r _,tX (Calls.mono h λ_ _ ⟨v,e,k⟩=>by subst e; exact k)⟩
   | exact ⟨zN r _,IL (RoundIn.mono h λ_ _ ⟨v,e,k⟩=>by subst e; exact k)⟩
   | exact ⟨zN r _,λc cs _=>let ⟨v,w',k,s⟩:=h c cs; ⟨v,w',k,stepsIn_wide.2 s⟩⟩

/-! ## A list of operations, in its order -/
def LsW (P:Program) (r:Option Nat) (ops:Array Oper) (K:Act->World->Prop):List Oper->Act->World->Prop
 | [],a,w=>K a w
 | o::rest,a,w=>if Region.wanted o (yielded ops a.tmps) then OpW P r o a w (LsW P r ops K rest) else LsW P r ops K rest (a.put o.dst undef) w

theorem LsW.wpListIn {P : Program} {r : Option Nat} {ops : Array Oper} {K : Act -> World -> Prop} {Q : Exit -> Act -> World -> Prop} (hQ : ∀ a w, K a w -> Q .normal a w) :
  ∀ (l:List Oper) (a:Act) (w:World),LsW P r ops K l a w->Go.wpListIn (Fw r) 0 P ops Q l a w
 | [],a,w,h=>hQ a w h
 | o::rest,a,w,h=>by
  unfold LsW at h
  unfold Go.wpListIn
  split
  .rename_i hw
   rw [if_pos hw] at h
   exact OpW.wpIn<|OpW.mono (λa w h=>LsW.wpListIn hQ rest a w h) h
  .rename_i hw
   rw [if_neg hw] at h
   exact ⟨λ_ _=>trivial,LsW.wpListIn hQ rest _ w h⟩

theorem LsW.region {P:Program} {r:Option Nat} {id:Nat} {l:List Oper} {Q:Exit->Act->World->Prop} {a:Act} {w:World} (h:LsW P r l.toArray (Q .normal) l a w) :
  (Code.region id l.toArray false).wpIn (Fw r) 0 P Q a w:=wpIn_region_lit<|LsW.wpListIn (λ_ _ h=>h) l a w h

/-! ## The judgement on a list of operations -/
structure Cx where
 P:Program
 r:Option Nat
 n:Nat
 ds:List Deferred
 w0:World
def St (c:Cx) (ops:Array Oper) (K:Act->World->Prop) (rest:List Oper) (e:Env) (h:SH):Prop :=
 ∀ a w,Kn c.n c.ds a e->Holds w h->Same c.w0 w->LsW c.P c.r ops K rest a w
def Nx (c:Cx) (K:Act->World->Prop) (e:Env) (h:SH):Prop:=∀ a w,Kn c.n c.ds a e->Holds w h->Same c.w0 w->K a w

section
variable {c:Cx} {ops:Array Oper} {K:Act->World->Prop} {rest:List Oper} {e:Env} {h:SH}
theorem sN (hk:Nx c K e h):St c ops K [] e h:=hk

def Vop (P:Program) (e:Env) (h:SH) (op:Op) (ty:TypeId) (v:Value):Prop :=
 (∀ k,op≠.defer k)/\(∀ cs b,op≠.select cs b)/\∀ (ρ : Operand->Value) (w:World) (d:Option Tmp) (pos:String) (after:Array Edge) (g:Option (Nat×Bool)),(∀ x u,e.ev? x=some u -> ρ x=u)->Holds w h ->
  (execOp ρ ⟨d,op,ty,pos,after,g⟩).run P w = .ok (.value v) w

theorem Kn.evs {n:Nat} {ds:List Deferred} {a:Act} {e:Env} (h:Kn n ds a e):∀ x u,e.ev? x=some u->a.eval x=u:=λ_ _ hx=>h.ev hx

theorem IM {d:Nat} {op:Op} {ty:TypeId} {pos:String} {after:Array Edge} {v:Value} (hv:Vop c.P e h op ty v) (hd:d<c.n) (hn:St c ops K rest ((d,v)::e) h) :
  St c ops K (⟨some d,op,ty,pos,after,none⟩::rest) e h:=λa w hk hh hs=>by
 unfold LsW
 rw [if_pos (by simp [Region.wanted])]
 unfold OpW OpV
 rw [Oper.semAt_eq _ _ _ hv.1,hv.2.2 a.eval w _ _ _ _ hk.evs hh]
 exact hn _ w (hk.put v hd) hh hs
theorem st_valg {d g gd:Nat} {op:Op} {ty:TypeId} {pos:String} {after:Array Edge} {v:Value} {want:Bool} (hg:((ops[g]?).bind (·.dst))=some gd) (hgv:e.get? gd=some (.bool want))
  (hv:Vop c.P e h op ty v) (hd:d<c.n) (hn:St c ops K rest ((d,v)::e) h) :
  St c ops K (⟨some d,op,ty,pos,after,some (g,want)⟩::rest) e h:=λa w hk hh hs=>by
 unfold LsW
 have hy:yielded ops a.tmps g=some want:=by
  unfold yielded
  cases ho:ops[g]? with
  | none=>simp [ho] at hg
  | some o=>simp only [ho,Option.bind_some] at hg; simp [hg,hk.get gd _ hgv]
 rw [if_pos (by simp [Region.wanted,hy])]
 unfold OpW OpV
 rw [Oper.semAt_eq _ _ _ hv.1,hv.2.2 a.eval w _ _ _ _ hk.evs hh]
 exact hn _ w (hk.put v hd) hh hs
theorem st_skip {d g gd:Nat} {op:Op} {ty:TypeId} {pos:String} {after:Array Edge} {want b:Bool} (hg:((ops[g]?).bind (·.dst))=some gd) (hgv:e.get? gd=some (.bool b)) (hb:b = !want) (hd:d<c.n)
  (hn:St c ops K rest ((d,undef)::e) h) :
  St c ops K (⟨some d,op,ty,pos,after,some (g,want)⟩::rest) e h:=λa w hk hh hs=>by
 unfold LsW
 have hy:yielded ops a.tmps g=some b:=by
  unfold yielded
  cases ho:ops[g]? with
  | none=>simp [ho] at hg
  | some o=>simp only [ho,Option.bind_some] at hg; simp [hg,hk.get gd _ hgv]
 rw [if_neg (by subst hb; cases want <;> simp [Region.wanted,hy])]
 exact hn _ w (hk.put undef hd) hh hs
theorem St.weaken {e':Env} (hs:Env.sub e' e) (hn:St c ops K rest e' h):St c ops K rest e h:=λa w hk hh hw=>hn a w (hk.weaken hs) hh hw
theorem Nx.weaken {e':Env} (hs:Env.sub e' e) (hn:Nx c K e' h):Nx c K e h:=λa w hk hh hw=>hn a w (hk.weaken hs) hh hw
theorem Nx.perm {h':SH} (hp:h.Perm h') (hn:Nx c K e h'):Nx c K e h:=λa w hk hh hw=>hn a w hk (hh.perm hp) hw
theorem St.perm {h':SH} (hp:h.Perm h') (hn:St c ops K rest e h'):St c ops K rest e h:=λa w hk hh hw=>hn a w hk (hh.perm hp) hw
end

inductive Keep (e:Env):List Nat->Env->Prop
 | nil:Keep e [] []
 | cons {k:Nat} {v:Value} {ks:List Nat} {e':Env}:e.get? k=some v->Keep e ks e'->Keep e (k::ks) ((k,v)::e')
theorem Keep.sub {e e':Env} {ks:List Nat} (h:Keep e ks e'):Env.sub e' e:=by
 induction h with
 | nil=>trivial
 | cons h1 _ ih=>exact ⟨h1,ih⟩
/-! ## Operations that yield a value -/
section
variable {P:Program} {e:Env} {h:SH} {ty:TypeId}
theorem vM {x:Operand} {v:Value} (hx:e.ev? x=some v):Vop P e h (.move x) ty v :=
 ⟨by simp,by simp,λρ w d pos after g hρ _=>by simp [execOp,hρ x v hx]⟩
theorem vA {x:Operand} {v:Value} (hx:e.ev? x=some v):Vop P e h (.assign x) ty v :=
 ⟨by simp,by simp,λρ w d pos after g hρ _=>by simp [execOp,hρ x v hx]⟩
theorem vQ {x y z:Operand} {v:Value} (hx:e.ev? x=some (.bool true)) (hy:e.ev? y=some v):Vop P e h (.pick x y z) ty v :=
 ⟨by simp,by simp,λρ w d pos after g hρ _=>by simp [execOp,hρ x _ hx,hρ y v hy,asBool]⟩
theorem vP {x y z:Operand} {v:Value} (hx:e.ev? x=some (.bool false)) (hz:e.ev? z=some v):Vop P e h (.pick x y z) ty v :=
 ⟨by simp,by simp,λρ w d pos after g hρ _=>by simp [execOp,hρ x _ hx,hρ z v hz,asBool]⟩
theorem vN {x:Operand} {a:Addr} (hx:e.ev? x=some (.pointer (some a))):Vop P e h (.nilCheck x) ty (.pointer (some a)):=
 ⟨by simp,by simp,λρ w d pos after g hρ _=>by simp [execOp,hρ x _ hx]⟩
theorem bX {fn : Fn} {first cap : Array Operand} {vf vc : List Value} (h1 : first.toList.mapM e.ev? = some vf) (h2 : cap.toList.mapM e.ev? = some vc) :
  Vop P e h (.makeFunc fn first cap) ty (.func fn vf.toArray vc.toArray):=by
 have key:∀ (ρ : Operand->Value),(∀ x u,e.ev? x=some u -> ρ x=u)->∀ (l:List Operand) (vs:List Value),l.mapM e.ev? = some vs->l.map ρ = vs:=by
  intro ρ hρ l
  induction l with
  | nil=>intro vs hv; simpa using hv.symm
  | cons x t ih =>
   intro vs hv
   simp only [List.mapM_cons,Option.bind_eq_bind,Option.bind_eq_some_iff,Option.pure_def,Option.some.injEq] at hv
   obtain ⟨u,hu,us,hus,rfl⟩:=hv
   simp [hρ x u hu,ih us hus]
 refine ⟨by simp,by simp,λρ w d pos after g hρ _=>?_⟩
 have e1:Array.map ρ first=vf.toArray:=by
  apply Array.toList_inj.1; simpa using key ρ hρ first.toList vf h1
 have e2:Array.map ρ cap=vc.toArray:=by
  apply Array.toList_inj.1; simpa using key ρ hρ cap.toList vc h2
 simp [execOp,Instr.makeFunc,e1,e2]
end

def I64 (n:Int):Prop := -9223372036854775808<=n/\n<=9223372036854775807
theorem I64.wrap {n:Int} (h:I64 n):IntKind.i64.wrap n=n:=IntWalk.i64_in n (by unfold I64 at h; omega)
theorem I64.of {n:Int} (h1 : -1000000000<=n) (h2:n<=1000000000):I64 n:=by unfold I64; omega

def cl (l:List Value) (T:TypeId):Obj:=.cells l.toArray T (0,0)
theorem bZ {b off:Nat} {l:List Value} {T:TypeId} {v:Value} (h:l[off]? = some v):Rd (pt b (cl l T)) ⟨b,off,none⟩ v:=rd_pt Zp

def At (h:SH) (p:Addr) (v:Value):Prop:=∃ r h',Sel h r h'/\Rd r p v
theorem bV {r:Res} {t:SH} {p:Addr} {v:Value} (h:Rd r p v):At (r::t) p v:=⟨r,t,.here,h⟩
theorem Nq {x:Res} {t:SH} {p:Addr} {v:Value} (h:At t p v):At (x::t) p v:=let ⟨r,h',s,q⟩:=h; ⟨r,x::h',.there s,q⟩
theorem At.cell {w:World} {h:SH} {p:Addr} {v:Value} (ha:At h p v) (hh:Holds w h):w.cell? p=some v:=let ⟨_,_,s,q⟩:=ha; q.at s hh
inductive SetAt:List Value->Nat->Value->List Value->Prop
 | zero {x v:Value} {t:List Value}:SetAt (x::t) 0 v (v::t)
 | succ {x v:Value} {t t':List Value} {n:Nat}:SetAt t n v t'->SetAt (x::t) (n+1) v (x::t')
 | set {t:List Value} {n:Nat} {v:Value}:SetAt t n v (t.set n v)
theorem SetAt.eq {l l':List Value} {n:Nat} {v:Value} (h:SetAt l n v l'):l.set n v=l':=by
 induction h with
 | zero=>rfl
 | succ _ ih=>simp [ih]
 | set=>rfl

/-! ## What a type of the program is -/
def Sz (P:Program) (T:TypeId) (n:Nat):Prop:=∀ w:World,(sizeOf T).run P w = .ok n w
def Ld1 (P:Program) (T:TypeId):Prop:=∀ (w:World) (a:Addr) (v:Value),w.cell? a=some v->(Instr.loadAt T<|.pointer<|some a).run P w = .ok v w
def LdN (P:Program) (T:TypeId) (n:Nat):Prop:=∀ (w:World) (b o:Nat) (vs:List Value),vs.length=n->(∀ i,i<n->w.cell? ⟨b,o+i,none⟩=vs[i]?)->(Instr.loadAt T<|.pointer<|some ⟨b,o,none⟩).run P w = .ok (.agg vs.toArray) w
def Fa (P:Program) (S:TypeId) (f off:Nat):Prop:=∀ (b o:Nat) (w:World),(Instr.fieldAt S (.pointer<|some ⟨b,o,none⟩) f).run P w = .ok (.pointer<|some ⟨b,o+off,none⟩) w
def SlE (P:Program) (T E:TypeId) (sz:Nat):Prop:=P.underlying T=some (.slice E)/\Sz P E sz
def Enters (P:Program) (k:FuncId):Prop:=∀ (args:Array Value) (w:World),(callFunc k args).run P w = .ok (.enter k args) w
def Al (P:Program) (T:TypeId) (zs:List Value):Prop:=∀ w:World,(Instr.alloc T true (.tuple #[])).run P w = .ok (.pointer<|some ⟨w.heap.size,0,none⟩) (w.alloc<|cl zs T)

def Nr:TypeDesc->Bool
 | .struct _ | .array _ _=>false
 | _=>true
theorem Ld1.of {P:Program} {T:TypeId} {d:TypeDesc} (h:P.underlying T=some d) (hd:Nr d=true):Ld1 P T:=λw a v hv=>by
 have hi:(isAgg T).run P w = .ok false w:=by
  unfold isAgg
  simp only [Sem.run_bind,run_underlying h,Result.andThen_ok]
  cases d <;> first | rfl | (simp [Nr] at hd)
 unfold Instr.loadAt loadVar
 simp [Instr.sureAddr,hi,hv]
theorem Sz.of {P:Program} {T:TypeId} {n:Nat} {i:TypeInfo} (h:P.info? T=some i) (hn:i.size=n):Sz P T n:=λw=>by simp [sizeOf,typeInfo,h,hn]

theorem LdN.of {P : Program} {T : TypeId} {n : Nat} {fs : Array Field} (h : P.underlying T = some (.struct fs)) (hs : Sz P T n) : LdN P T n := λw b o vs hl hv => by
 have hi:(isAgg T).run P w = .ok true w:=by unfold isAgg; simp only [Sem.run_bind,run_underlying h,Result.andThen_ok]; rfl
 have key:∀ (k:Nat) (m:Nat) (acc:Array Value),m+k=n->acc=(vs.take m).toArray->(loadCellsFrom ⟨b,o,none⟩ m k acc).run P w = .ok vs.toArray w:=by
  intro k
  induction k with
  | zero =>
   intro m acc hm ha
   have:m=n:=by omega
   subst this
   simp [loadCellsFrom,ha,List.take_of_length_le (Nat.le_of_eq hl)]
  | succ k ih =>
   intro m acc hm ha
   have hmn:m<n:=by omega
   have hc:=hv m hmn
   have hlt:m<vs.length:=by omega
   rw [Zy hlt] at hc
   unfold loadCellsFrom
   simp only [Sem.run_bind,run_load,Addr.add_lit,hc,Result.andThen_ok]
   refine ih (m+1) _ (by omega) ?_
   rw [ha,List.take_succ_eq_append_getElem hlt]
   simp
 unfold Instr.loadAt loadVar loadCells
 simp only [Instr.sureAddr,Sem.run_bind,Sem.run_pure,Result.andThen_ok,hi,if_true,hs w,key n 0 #[] (by omega) (by simp)]

section
variable {P:Program} {e:Env} {h h':SH} {ty:TypeId}

/-! ## Integers and truths -/
theorem aI {t t':TypeId} {x y:Operand} {a b:Int} (hx:e.ev? x=some (.int .i64 a)) (hy:e.ev? y=some (.int .i64 b)) (hr:I64 (a+b)):Vop P e h (.binOp .add t x y t') ty (.int .i64 (a+b)):=
 ⟨by simp,by simp,λρ w d pos after g hρ _=>by simp [execOp,hρ x _ hx,hρ y _ hy,eqGuard_add,binOp_add,Op.intArith,hr.wrap]⟩
theorem xP {t t':TypeId} {x y:Operand} {a b:Int} (hx:e.ev? x=some (.int .i64 a)) (hy:e.ev? y=some (.int .i64 b)) (hr:I64 (a - b)):Vop P e h (.binOp .sub t x y t') ty (.int .i64 (a - b)):=
 ⟨by simp,by simp,λρ w d pos after g hρ _=>by simp [execOp,hρ x _ hx,hρ y _ hy,eqGuard_sub,binOp_sub,Op.intArith,hr.wrap]⟩
theorem El {t t':TypeId} {x y:Operand} {a b:Int} (hx:e.ev? x=some (.int .i64 a)) (hy:e.ev? y=some (.int .i64 b)):Vop P e h (.binOp .add t x y t') ty (.int .i64 (IntKind.i64.wrap (a+b))):=
 ⟨by simp,by simp,λρ w d pos after g hρ _=>by simp [execOp,hρ x _ hx,hρ y _ hy,eqGuard_add,binOp_add,Op.intArith]⟩
theorem aO {t t':TypeId} {x y:Operand} {k:IntKind} {a b:Int} (hx:e.ev? x=some (.int k a)) (hy:e.ev? y=some (.int k b)):Vop P e h (.binOp .lss t x y t') ty (.bool (decide (a<b))):=
 ⟨by simp,by simp,λρ w d pos after g hρ _=>by simp [execOp,hρ x _ hx,hρ y _ hy,eqGuard_lss,binOp_lss]⟩
theorem CY {t t':TypeId} {x y:Operand} {k:IntKind} {a b:Int} (hx:e.ev? x=some (.int k a)) (hy:e.ev? y=some (.int k b)):Vop P e h (.binOp .leq t x y t') ty (.bool (decide (a<=b))):=
 ⟨by simp,by simp,λρ w d pos after g hρ _=>by simp [execOp,hρ x _ hx,hρ y _ hy,eqGuard_leq,binOp_leq]⟩
theorem dh {t t':TypeId} {x y:Operand} {k:IntKind} {a b:Int} (hx:e.ev? x=some (.int k a)) (hy:e.ev? y=some (.int k b)):Vop P e h (.binOp .gtr t x y t') ty (.bool (decide (b<a))):=
 ⟨by simp,by simp,λρ w d pos after g hρ _=>by simp [execOp,hρ x _ hx,hρ y _ hy,eqGuard_gtr,binOp_gtr]⟩
theorem qE {t t':TypeId} {x y:Operand} {k:IntKind} {a b:Int} (hx:e.ev? x=some (.int k a)) (hy:e.ev? y=some (.int k b)):Vop P e h (.binOp .geq t x y t') ty (.bool (decide (b<=a))):=
 ⟨by simp,by simp,λρ w d pos after g hρ _=>by simp [execOp,hρ x _ hx,hρ y _ hy,eqGuard_geq,binOp_geq]⟩
theorem dX {t t':TypeId} {x y:Operand} {k:IntKind} {a b:Int} (hx:e.ev? x=some (.int k a)) (hy:e.ev? y=some (.int k b)):Vop P e h (.binOp .eql t x y t') ty (.bool (a == b)):=
 ⟨by simp,by simp,λρ w d pos after g hρ _=>by simp [execOp,hρ x _ hx,hρ y _ hy,eqGuard_at_int,binOp_eql]⟩
theorem bT {t t':TypeId} {x y:Operand} {k:IntKind} {a b:Int} (hx:e.ev? x=some (.int k a)) (hy:e.ev? y=some (.int k b)):Vop P e h (.binOp .neq t x y t') ty (.bool (a != b)):=
 ⟨by simp,by simp,λρ w d pos after g hρ _=>by simp [execOp,hρ x _ hx,hρ y _ hy,eqGuard_at_int,binOp_neq]⟩
theorem bg {t:TypeId} {x:Operand} {b:Bool} (hx:e.ev? x=some (.bool b)):Vop P e h (.unOp .not t x) ty (.bool (!b)):=
 ⟨by simp,by simp,λρ w d pos after g hρ _=>by simp [execOp,hρ x _ hx,Op.unary]⟩
theorem ah {x:Operand} {i:Nat} {vs:Array Value} {v:Value} (hx:e.ev? x=some (.tuple vs)) (hv:vs[i]? = some v):Vop P e h (.extract x i) ty v :=
 ⟨by simp,by simp,λρ w d pos after g hρ _=>by simp [execOp,hρ x _ hx,Instr.extract,hv]⟩

/-! ## Addresses and loads -/
theorem vF {S:TypeId} {x:Operand} {f off b o o':Nat} (hx:e.ev? x=some (.pointer (some ⟨b,o,none⟩))) (hf:Fa P S f off) (ho:o+off=o'):Vop P e h (.fieldAddr S x f) ty (.pointer (some ⟨b,o',none⟩)):=
 ⟨by simp,by simp,λρ w d pos after g hρ _=>by subst ho; simp [execOp,hρ x _ hx,hf b o w]⟩
theorem v_load {T:TypeId} {x:Operand} {p:Addr} {v:Value} (hx:e.ev? x=some (.pointer (some p))) (hT:Ld1 P T) (ha:At h p v):Vop P e h (.load T x) ty v :=
 ⟨by simp,by simp,λρ w d pos after g hρ hh=>by simp [execOp,hρ x _ hx,hT w p v (ha.cell hh)]⟩
theorem v_loadN {T:TypeId} {x:Operand} {b o n:Nat} {vs:List Value} (hx:e.ev? x=some (.pointer (some ⟨b,o,none⟩))) (hT:LdN P T n) (hl:vs.length=n) (hr:∀ i,(hi:i<vs.length)->At h ⟨b,o+i,none⟩ vs[i]) :
  Vop P e h (.load T x) ty (.agg vs.toArray):=
 ⟨by simp,by simp,λρ w d pos after g hρ hh=>by
  have:=hT w b o vs hl<|λi hi=>by rw [Zy (by omega)]; exact (hr i<|by omega).cell hh
  simp [execOp,hρ x _ hx,this]⟩
theorem aC {t ty':TypeId} {x:Operand} {a:Option Addr} {n cp:Nat} {E:TypeId} (hx:e.ev? x=some (.slice a n cp)) (ht:P.underlying t=some (.slice E)):Vop P e h (.call { callee:=.builtin .len,args := #[x],argTypes := #[t] }) ty' (.int .i64 n):=
 ⟨by simp,by simp,λρ w d pos after g hρ _=>by simp [execOp,resolve,invoke,builtin,hρ x _ hx,Builtin.len_,run_underlying ht,goInt]⟩
theorem vI {T E:TypeId} {x y:Operand} {b o n cp sz k o':Nat} {kd:IntKind} {i:Int} (hx:e.ev? x=some (.slice (some ⟨b,o,none⟩) n cp)) (hy:e.ev? y=some (.int kd i)) (hT:SlE P T E sz) (hi:i=(k:Int)) (hk:k<n) (ho:o+k * sz=o') :
  Vop P e h (.indexAddr T x y) ty (.pointer<|some ⟨b,o',none⟩):=
 ⟨by simp,by simp,λρ w d pos after g hρ _=>by
  subst hi ho
  have h0:(0:Int)<=k/\(k:Int)<n:=by omega
  simp only [execOp,hρ x _ hx,hρ y _ hy,Instr.indexAt,Sem.run_bind,asIntOf,Sem.run_pure,Result.andThen_ok,run_underlying hT.1,if_pos h0,hT.2 w,Int.toNat_natCast,Addr.add_lit]⟩
/-! ## Calls -/
theorem Em {ρ : Operand->Value} (hρ : ∀ x u,e.ev? x=some u -> ρ x=u):∀ (l:List Operand) (vs:List Value),l.mapM e.ev? = some vs->l.map ρ = vs
 | [],vs,hv=>by simpa using hv.symm
 | x::t,vs,hv=>by
  simp only [List.mapM_cons,Option.bind_eq_bind,Option.bind_eq_some_iff,Option.pure_def,Option.some.injEq] at hv
  obtain ⟨u,hu,us,hus,rfl⟩:=hv
  simp [hρ x u hu,Em hρ t us hus]
theorem ru {f:Operand} {az:Array Operand} {ts:Array TypeId} {k:FuncId} {fi cp:Array Value} {vs:List Value} {args:Array Value} (hf:e.ev? f=some (.func (.func k) fi cp)) (has:az.toList.mapM e.ev? = some vs) (hE:Enters P k) (ha:fi++vs.toArray++cp=args)
  {ρ : Operand->Value} (hρ : ∀ x u,e.ev? x=some u -> ρ x=u) (w:World) (d:Option Tmp) (pos:String) (after:Array Edge) (g:Option (Nat×Bool)) :
  (execOp ρ ⟨d,.call { callee:=.value f,args:=az,argTypes:=ts },ty,pos,after,g⟩).run P w = .ok (.enter k args) w:=by
 have e1:Array.map ρ az=vs.toArray:=by
  apply Array.toList_inj.1; simpa using Em hρ az.toList vs has
 simp only [execOp,resolve,hρ f _ hf,Deferred.ofValue,e1,Sem.run_bind,Sem.run_pure,Result.andThen_ok,invoke]
 rw [<- ha]
 exact hE _ _
end

section
variable {c:Cx} {ops:Array Oper} {K:Act->World->Prop} {rest:List Oper} {e:Env} {h h' hr:SH}
theorem eD {d:Option Nat} {op:Op} {ty:TypeId} {pos:String} {after:Array Edge} (hd:∀ k,op≠.defer k)
  (hop:∀ a w,Kn c.n c.ds a e->Holds w h->Same c.w0 w->zO c.P (λv w'=>LsW c.P c.r ops K rest (a.put d v) w') ((execOp a.eval ⟨d,op,ty,pos,after,none⟩).run c.P w)) :
  St c ops K (⟨d,op,ty,pos,after,none⟩::rest) e h:=λa w hk hh hs=>by
 unfold LsW
 rw [if_pos (by simp [Region.wanted])]
 unfold OpW OpV
 rw [Oper.semAt_eq _ _ _ hd]
 exact hop a w hk hh hs

theorem st_call {d:Nat} {f:Operand} {az:Array Operand} {ts:Array TypeId} {ty:TypeId} {pos:String} {after:Array Edge} {k:FuncId} {fi cp:Array Value} {vs:List Value} {args:Array Value} {hf:SH} {R:Value->SH->Prop}
  (hv:e.ev? f=some (.func (.func k) fi cp)) (has:az.toList.mapM e.ev? = some vs) (hE:Enters c.P k) (ha:fi++vs.toArray++cp=args) (ct:Ct c.P k args hf R) (pk:Pk h hf hr) (hd:d<c.n)
  (hn:∀ v h',R v h'->St c ops K rest ((d,v)::e) (h'++hr)) :
  St c ops K (⟨some d,.call { callee:=.value f,args:=az,argTypes:=ts },ty,pos,after,none⟩::rest) e h :=
 eD (by simp) λa w hk hh hs=>by
  rw [ru hv has hE ha hk.evs]
  exact (ct hr w<|hh.pk pk).mono λ_ w' ⟨v,h',he,hR,hH,hS⟩=>⟨v,he,hn v h' hR _ w' (hk.put v hd) hH<|hs.trans hS⟩
def Reads (P:Program) (k:FuncId) (args:Array Value) (hf:SH) (v:Value):Prop:=Ct P k args hf λu h'=>u=v/\h'=hf
theorem Reads.more {P:Program} {k:FuncId} {args:Array Value} {hf big x:SH} {v:Value} (h:Reads P k args hf v) (pk:Pk big hf x):Reads P k args big v:=λhr w hh=>by
 have hp:(big++hr).Perm (hf++(x++hr)):=(pk.perm.append_right hr).trans<|by rw [List.append_assoc]
 exact (h (x++hr) w<|hh.perm hp).mono λ_ _ ⟨u,h',he,⟨hu,hh'⟩,hH,hS⟩=>⟨u,big,he,⟨hu,rfl⟩,by subst hh'; exact hH.perm hp.symm,hS⟩
theorem Ns {d:Nat} {f:Operand} {az:Array Operand} {ts:Array TypeId} {ty:TypeId} {pos:String} {after:Array Edge} {k:FuncId} {fi cp:Array Value} {vs:List Value} {args:Array Value} {hf:SH} {v:Value}
  (hv:e.ev? f=some (.func (.func k) fi cp)) (has:az.toList.mapM e.ev? = some vs) (hE:Enters c.P k) (ha:fi++vs.toArray++cp=args) (ct:Reads c.P k args hf v) (pk:Pk h hf hr) (hd:d<c.n)
  (hn:St c ops K rest ((d,v)::e) h) :
  St c ops K (⟨some d,.call { callee:=.value f,args:=az,argTypes:=ts },ty,pos,after,none⟩::rest) e h :=
 eD (by simp) λa w hk hh hs=>by
  rw [ru hv has hE ha hk.evs]
  exact (ct hr w<|hh.pk pk).mono λ_ w' ⟨u,h',he,⟨hu,hh'⟩,hH,hS⟩=>⟨u,he,by subst hu hh'; exact hn _ w' (hk.put _ hd) (hH.perm pk.perm.symm) (hs.trans hS)⟩
theorem Lt {d g gd:Nat} {f:Operand} {az:Array Operand} {ts:Array TypeId} {ty:TypeId} {pos:String} {after:Array Edge} {k:FuncId} {fi cp:Array Value} {vs:List Value} {args:Array Value} {hf:SH} {v:Value} {want:Bool}
  (hg:((ops[g]?).bind (·.dst))=some gd) (hgv:e.get? gd=some (.bool want))
  (hv:e.ev? f=some (.func (.func k) fi cp)) (has:az.toList.mapM e.ev? = some vs) (hE:Enters c.P k) (ha:fi++vs.toArray++cp=args) (ct:Reads c.P k args hf v) (pk:Pk h hf hr) (hd:d<c.n)
  (hn:St c ops K rest ((d,v)::e) h) :
  St c ops K (⟨some d,.call { callee:=.value f,args:=az,argTypes:=ts },ty,pos,after,some (g,want)⟩::rest) e h:=λa w hk hh hs=>by
 unfold LsW
 have hy:yielded ops a.tmps g=some want:=by
  unfold yielded
  cases ho:ops[g]? with
  | none=>simp [ho] at hg
  | some o=>simp only [ho,Option.bind_some] at hg; simp [hg,hk.get gd _ hgv]
 rw [if_pos (by simp [Region.wanted,hy])]
 unfold OpW OpV
 rw [Oper.semAt_eq _ _ _ (by simp),ru hv has hE ha hk.evs]
 exact (ct hr w<|hh.pk pk).mono λ_ w' ⟨u,h',he,⟨hu,hh'⟩,hH,hS⟩=>⟨u,he,by subst hu hh'; exact hn _ w' (hk.put _ hd) (hH.perm pk.perm.symm) (hs.trans hS)⟩

/-! ## Stores and new blocks -/
theorem Same.setCell (w:World) (a:Addr) (v:Value):Same w (w.setCell a v):=⟨rfl,rfl,rfl,Nat.le_refl _,by simp [World.setCell],λ_ _=>by simp⟩
theorem Holds.setCell {w:World} {b off:Nat} {l:List Value} {T:TypeId} {k:SH} (hh:Holds w (pt b (cl l T)::k)) (v:Value):Holds (w.setCell ⟨b,off,none⟩ v) (pt b (cl (l.set off v) T)::k):=by
 have h1:w.heap[b]? = some (cl l T):=hh.1
 obtain ⟨hlt,hb⟩:=Array.getElem?_eq_some_iff.1 h1
 refine Holds.modify hh ?_ λk hk=>?_
 .show (w.heap.modify b _)[b]? = _
  rw [Array.getElem?_eq_getElem (by rw [Array.size_modify]; exact hlt),Array.getElem_modify_self,hb]
  simp [cl]
 .show (w.heap.modify b _)[k]? = _
  rw [Array.getElem?_modify,if_neg (λe=>hk e.symm)]

def St1 (P:Program) (T:TypeId):Prop:=Sz P T 1
theorem zP {P:Program} {T:TypeId} (hT:Sz P T 1) {v:Value} (hv:v.oneCell'=true) {w:World} {b off:Nat} {l:List Value} {E:TypeId} (hb:w.heap[b]? = some (cl l E)) (ho:off<l.length) :
  (Instr.storeAt T (.pointer<|some ⟨b,off,none⟩) v).run P w = .ok () (w.setCell ⟨b,off,none⟩ v):=by
 have hcl:w.cell? ⟨b,off,none⟩=some l[off]:=by simp [World.cell?,hb,cl,ho]
 have hfz:w.frozen? ⟨b,off,none⟩=false:=by simp [World.frozen?,hb,cl]
 have hcs:v.cells = #[v]:=by cases v <;> first | rfl | (simp [Value.oneCell'] at hv)
 unfold Instr.storeAt storeVar
 simp only [Instr.sureAddr,Sem.run_bind,Sem.run_pure,Result.andThen_ok,hT w,hcs]
 simp [storeCells,run_store _ _ _ _ _ hv,hcl,hfz,Addr.add_zero']

theorem Nt {T E:TypeId} {x y:Operand} {ty:TypeId} {pos:String} {after:Array Edge} {b off:Nat} {l l':List Value} {v:Value} {k:SH}
  (hx:e.ev? x=some (.pointer<|some ⟨b,off,none⟩)) (hy:e.ev? y=some v) (hT:Sz c.P T 1) (hv:v.oneCell'=true) (hs:Sel h (pt b<|cl l E) k) (ho:off<l.length) (hl:SetAt l off v l')
  (hn:St c ops K rest e (pt b (cl l' E)::k)) :
  St c ops K (⟨none,.store T x y,ty,pos,after,none⟩::rest) e h :=
 eD (by simp) λa w hk hh hs'=>by
  have hh':=hh.sel hs
  have hr:=zP hT hv (E:=E) (l:=l) hh'.1 ho
  simp only [execOp,hk.ev hx,hk.ev hy,Sem.run_bind,hr,Result.andThen_ok,Sem.run_pure]
  rw [<- hl.eq] at hn
  exact hn _ _ hk (Holds.setCell hh' v)<|hs'.trans<|Same.setCell _ _ _

theorem Nu {d:Nat} {T ty:TypeId} {pos:String} {after:Array Edge} {zs:List Value} (hA:Al c.P T zs) (hd:d<c.n)
  (hn:∀ b,St c ops K rest ((d,.pointer (some ⟨b,0,none⟩))::e) (pt b (cl zs T)::h)) :
  St c ops K (⟨some d,.alloc T,ty,pos,after,none⟩::rest) e h :=
 eD (by simp) λa w hk hh hs=>by
  simp only [execOp,Sem.run_bind,hA w,Result.andThen_ok,Sem.run_pure]
  exact hn _ _ _ (hk.put _ hd) (Holds.alloc hh _)<|hs.trans (Grew.alloc _ _ rfl).toSame
theorem st_box {d:Nat} {T ty:TypeId} {x:Operand} {pos:String} {after:Array Edge} {v:Value} {zs:List Value} (hx:e.ev? x=some v) (hz:v.cells=zs.toArray) (hd:d<c.n)
  (hn:∀ b,St c ops K rest ((d,.pointer (some ⟨b,0,none⟩))::e) (pt b (cl zs T)::h)) :
  St c ops K (⟨some d,.box T x,ty,pos,after,none⟩::rest) e h :=
 eD (by simp) λa w hk hh hs=>by
  simp only [execOp,hk.ev hx,Instr.box,newVar,newRow,hz,Sem.run_bind,run_newObj_alloc,Result.andThen_ok,Sem.run_pure]
  exact hn _ _ _ (hk.put _ hd) (Holds.alloc hh _)<|hs.trans (Grew.alloc _ _ rfl).toSame
end

def Cd (c:Cx) (x:Code) (Q:Exit->Act->World->Prop) (e:Env) (h:SH):Prop:=∀ a w,Kn c.n c.ds a e->Holds w h->Same c.w0 w->x.wpIn (Fw c.r) 0 c.P Q a w
def Xt (c:Cx) (ex:Exit) (Q:Exit->Act->World->Prop) (e:Env) (h:SH):Prop:=∀ a w,Kn c.n c.ds a e->Holds w h->Same c.w0 w->Q ex a w
def Behind (c:Cx) (y:Code) (Q:Exit->Act->World->Prop):Act->World->Prop:=λa w=>y.wpIn (Fw c.r) 0 c.P Q a w

inductive Pm:SH->SH->Prop
 | refl {h:SH}:Pm h h
 | cons {h h1 k:SH} {x:Res}:Sel h x h1->Pm h1 k->Pm h (x::k)
theorem Pm.perm {h k:SH} (p:Pm h k):h.Perm k:=by
 induction p with
 | refl=>exact .refl _
 | cons s _ ih=>exact s.perm.trans (ih.cons _)

section
variable {c:Cx} {Q:Exit->Act->World->Prop} {e:Env} {h:SH}
theorem Cd.weaken {x:Code} {e':Env} {h':SH} (hs:Env.sub e' e) (hp:h.Perm h') (hc:Cd c x Q e' h'):Cd c x Q e h:=λa w hk hh hw=>hc a w (hk.weaken hs) (hh.perm hp) hw
theorem Xt.weaken {ex:Exit} {e':Env} {h':SH} (hs:Env.sub e' e) (hp:h.Perm h') (hc:Xt c ex Q e' h'):Xt c ex Q e h:=λa w hk hh hw=>hc a w (hk.weaken hs) (hh.perm hp) hw
theorem Holds.drop {w:World} {h':SH} {r:Res} (s:Sel h r h') (hh:Holds w h):Holds w h':=(Holds.sel s hh).2.2
theorem cK (hx:Xt c .normal Q e h):Cd c .skip Q e h:=λa w hk hh hw=>wpIn_skip<|hx a w hk hh hw
theorem FZ {l:Nat} (hx:Xt c .normal Q e h):Cd c (.label l) Q e h:=λa w hk hh hw=>wpIn_label<|hx a w hk hh hw
theorem cT (hx:Xt c .ret Q e h):Cd c .ret Q e h:=λa w hk hh hw=>wpIn_ret<|hx a w hk hh hw
theorem aB {id:Nat} (hx:Xt c (.exit id) Q e h):Cd c (.exit id) Q e h:=λa w hk hh hw=>wpIn_exit<|hx a w hk hh hw
theorem cS {x y:Code} (hx:Cd c x (Exit.then (Behind c y Q) Q) e h):Cd c (.seq x y) Q e h:=λa w hk hh hw=>wpIn_seq<|hx a w hk hh hw
theorem cB {id:Nat} {x:Code} (hx:Cd c x (Exit.inBlock id Q) e h):Cd c (.block id x) Q e h:=λa w hk hh hw=>wpIn_block<|hx a w hk hh hw
theorem cC {x:Operand} {y z:Code} {t:Bool} (hx:e.ev? x=some (.bool t)) (ht:t=true->Cd c y Q e h) (hf:t=false->Cd c z Q e h):Cd c (.cond x y z) Q e h :=
 λa w hk hh hw=>wpIn_cond_split (hk.ev hx) (λq=>ht q a w hk hh hw)<|λq=>hf q a w hk hh hw
theorem aQ {x:Operand} {y z:Code} (hx:e.ev? x=some (.bool true)) (ht:Cd c y Q e h):Cd c (.cond x y z) Q e h:=cC hx (λ_=>ht) (λq=>by cases q)
theorem aG {x:Operand} {y z:Code} (hx:e.ev? x=some (.bool false)) (hf:Cd c z Q e h):Cd c (.cond x y z) Q e h:=cC hx (λq=>by cases q) (λ_=>hf)
theorem cR {id:Nat} {l:List Oper} (hs:St c l.toArray (Q .normal) l e h):Cd c (.region id l.toArray false) Q e h:=λa w hk hh hw=>LsW.region<|hs a w hk hh hw

/-! ### Ways out -/
theorem xT {y:Code} (hy:Cd c y Q e h):Xt c .normal (Exit.then (Behind c y Q) Q) e h:=hy
theorem nT {y:Code} (hy:Cd c y Q e h):Nx c (Exit.then (Behind c y Q) Q .normal) e h:=hy
theorem ax (hy:Xt c .normal Q e h):Nx c (Q .normal) e h:=hy
theorem xE {id:Nat} {K:Act->World->Prop} (hx:Xt c (.exit id) Q e h):Xt c (.exit id) (Exit.then K Q) e h:=hx
theorem xR {K:Act->World->Prop} (hx:Xt c .ret Q e h):Xt c .ret (Exit.then K Q) e h:=hx
theorem xB {id:Nat} (hx:Xt c .normal Q e h):Xt c .normal (Exit.inBlock id Q) e h:=hx
theorem xW {id:Nat} (hx:Xt c .ret Q e h):Xt c .ret (Exit.inBlock id Q) e h:=hx
theorem xY {id:Nat} (hx:Xt c .normal Q e h):Xt c (.exit id) (Exit.inBlock id Q) e h:=λa w hk hh hw=>by
 simp only [Exit.inBlock,if_true]; exact hx a w hk hh hw
theorem gm {id id':Nat} (hne:id'≠id) (hx:Xt c (.exit id') Q e h):Xt c (.exit id') (Exit.inBlock id Q) e h:=λa w hk hh hw=>by
 simp only [Exit.inBlock,if_neg hne]; exact hx a w hk hh hw

/-! ### A loop -/
theorem exists_least {p:Nat->Prop} (h:∃ n,p n):∃ n,p n/\∀ m,p m->n<=m:=by
 obtain ⟨n,hn⟩:=h
 induction n using Nat.strongRecOn with
 | _ n ih =>
  by_cases hm:∃ m,m<n/\p m
  .obtain ⟨m,h1,h2⟩:=hm; exact ih m h1 h2
  .exact ⟨n,hn,λm h2=>by
    rcases Nat.lt_or_ge m n with h1 | h1
    .exact absurd ⟨m,h1,h2⟩ hm
    .exact h1⟩
noncomputable def least (p:Nat->Prop):Nat:=Classical.epsilon λn=>p n/\∀ m,p m->n<=m
theorem pO {p:Nat->Prop} (h:∃ n,p n):p (least p)/\∀ m,p m->least p<=m:=Classical.epsilon_spec (exists_least h)
def Km {σ : Type} (c:Cx) (E : σ -> Env) (H : σ -> SH) (Φ : σ -> Prop) (μ : σ -> Nat) (s : σ) (a:Act) (w:World):Prop :=
 ∃ s',Φ s' /\ μ s' < μ s/\Kn c.n c.ds a (E s')/\Holds w (H s')/\Same c.w0 w
theorem cd_loop {σ : Type} {x : Code} (E : σ -> Env) (H : σ -> SH) (Φ : σ -> Prop) (μ : σ -> Nat) (s0 : σ) (h0 : Φ s0) (hs : Env.sub (E s0) e) (hp : Sub (H s0) h)
    (hr:∀ s,Φ s->Cd c x (Exit.then (Km c E H Φ μ s) Q) (E s) (H s)):Cd c (.loop x) Q e h:=λa w hk hh hw=>by
  let p:Act->World->Nat->Prop:=λa w n=>∃ s,Φ s /\ μ s=n/\Kn c.n c.ds a (E s)/\Holds w (H s)/\Same c.w0 w
  have hmin:∀ a w n,p a w n->p a w (least<|p a w)/\least (p a w)<=n:=λa w n hn=>⟨(pO ⟨n,hn⟩).1,(pO ⟨n,hn⟩).2 n hn⟩
  refine wpIn_loop (λa w=>∃ n,p a w n) (λa w=>least<|p a w) ⟨_,s0,h0,rfl,hk.weaken hs,hh.sub hp,hw⟩ λa w ⟨n,hn⟩=>?_
  obtain ⟨⟨s,h1,h2,h3,h4,h5⟩,_⟩:=hmin a w n hn
  refine wpIn_mono (hr s h1 a w h3 h4 h5) λex a' w' hq=>?_
  cases ex <;> first
    | exact hq
    | (obtain ⟨s', g1, g2, g3, g4, g5⟩ := hq
       have hp':p a' w' (μ s'):=⟨s',g1,rfl,g3,g4,g5⟩
       exact ⟨⟨_,hp'⟩,Nat.lt_of_le_of_lt (hmin a' w' _ hp').2 (h2 ▸ g2)⟩)
theorem Nv {σ : Type} {E : σ -> Env} {H : σ -> SH} {Φ : σ -> Prop} {μ : σ -> Nat} {s : σ} (s' : σ) (h1 : Φ s') (h2 : μ s' < μ s) (hs:Env.sub (E s') e) (hp:Sub (H s') h) :
  Xt c .normal (Exit.then (Km c E H Φ μ s) Q) e h:=λ_ _ hk hh hw=>⟨s',h1,h2,hk.weaken hs,hh.sub hp,hw⟩

/-! ### The function -/
def Post (w0:World) (hr:SH) (R:Value->SH->Prop) (en:Ending) (w:World):Prop:=∃ v h',en = .returned v/\R v h'/\Holds w (h'++hr)/\Same w0 w
def Env.ofArgs:Nat->List Value->Env
 | _,[]=>[]
 | i,v::t=>(i,v)::Env.ofArgs (i+1) t
theorem Env.ofArgs_get {l:List Value}:∀ {i j:Nat} {v:Value},(Env.ofArgs i l).get? j=some v->i<=j/\l[j - i]? = some v:=by
 induction l with
 | nil=>intro i j v hv; simp [Env.ofArgs,Env.get?] at hv
 | cons x t ih =>
  intro i j v hv
  by_cases hij:i=j
  .subst hij
   simp only [Env.ofArgs,Env.get?,Nat.beq_refl,cond_true,Option.some.injEq] at hv
   simp [hv]
  .simp only [Env.ofArgs,Env.get?,zM hij,cond_false] at hv
   obtain ⟨h1,h2⟩:=ih hv
   refine ⟨by omega,?_⟩
   rw [show j - i=(j - (i+1))+1 by omega]
   simpa using h2
theorem aJ {P:Program} {k:FuncId} {fn:Func} {x:Code} {n:Nat} {l:List Value} {hf:SH} {R:Value->SH->Prop} (hF:P.funcs[k]? = some fn) (hb:fn.body=some x) (hnt:fn.ntmps=n) (hn:l.length<=n)
  (hc:∀ (hr:SH) (w0:World),Cd ⟨P,none,n,[],w0⟩ x (bodyPost P fn<|Post w0 hr R) (Env.ofArgs 0 l) (hf++hr)):Ct P k l.toArray hf R:=λhr w hh=>by
 refine uX (r:=none) (n:=0)<|callsIn_of_wp hF hb trivial<|hc hr w _ w ⟨?_,rfl,λi v hi=>?_⟩ hh<|Same.refl w
 .simp; omega
 .obtain ⟨_,h2⟩:=Env.ofArgs_get hi
  simp only [Nat.sub_zero] at h2
  have hlt:i<l.length:=(List.getElem?_eq_some_iff.1 h2).1
  rw [Zy hlt,Option.some.injEq] at h2
  simp [Array.getElem?_append,hlt,h2]

def Env.res? (e:Env):List ResultVar->Option (List Value)
 | []=>some []
 | .tmp t::rest=>(e.get? t).bind λv=>(Env.res? e rest).map (v :: ·)
 | .cell _ _::_=>none
def lg:List Value->Value
 | [v]=>v
 | vs=>.tuple vs.toArray
theorem mW {P : Program} {fn : Func} {n : Nat} {ds : List Deferred} {a : Act} (hk : Kn n ds a e) {vs : List Value} (hr : e.res? fn.results.toList = some vs) (w : World) :
  (results fn a.tmps).run P w = .ok (lg vs) w:=by
 have key : ∀ (f : ResultVar -> Sem Value) (_ : ∀ t, f (.tmp t) = pure (a.tmps.getD t undef)) (l : List ResultVar) (vs : List Value), e.res? l = some vs -> (l.mapM f).run P w = .ok vs w := by
  intro f hf l
  induction l with
  | nil=>intro vs hv; simp [Env.res?] at hv; subst hv; simp
  | cons x t ih =>
   intro vs hv
   cases x with
   | cell a' t'=>simp [Env.res?] at hv
   | tmp t' =>
    simp only [Env.res?,Option.bind_eq_some_iff,Option.map_eq_some_iff] at hv
    obtain ⟨u,hu,us,hus,rfl⟩:=hv
    simp [List.mapM_cons,ih us hus,hf,Array.getD_eq_getD_getElem?,hk.get t' u hu]
 unfold results
 rw [<- Array.toArray_toList (xs:=fn.results),List.mapM_toArray]
 simp only [Sem.run_bind,Sem.run_map]
 rw [key _ (λ_=>rfl) _ _ hr]
 simp only [Result.andThen_ok,Sem.run_pure]
 cases vs with
 | nil=>simp [lg]
 | cons v t=>cases t <;> simp [lg]
section
variable {P:Program} {n:Nat} {w0:World} {fn:Func} {hr h':SH} {R:Value->SH->Prop} {r:Option Nat} {vs:List Value}
theorem xt_ret (hv:e.res? fn.results.toList=some vs) (hR:R (lg vs) h') (hp:Sub (h'++hr) h):Xt ⟨P,r,n,[],w0⟩ .ret (bodyPost P fn (Post w0 hr R)) e h :=
 λa w hk hh hw=>⟨hk.defers,_,mW hk hv w,_,h',rfl,hR,hh.sub hp,hw⟩
theorem xt_end (hv:e.res? fn.results.toList=some vs) (hR:R (lg vs) h') (hp:Sub (h'++hr) h):Xt ⟨P,r,n,[],w0⟩ .normal (bodyPost P fn (Post w0 hr R)) e h :=
 λa w hk hh hw=>⟨hk.defers,_,mW hk hv w,_,h',rfl,hR,hh.sub hp,hw⟩
end
end

theorem F3 (m j:Nat):(Array.replicate m false).getD j false=false:=by
 rcases Nat.lt_or_ge j m with h | h
 .simp [h]
 .simp [h]

section
variable {c:Cx} {ops:Array Oper} {pre:Nat->Bool} {hC:SH} {K:Act->World->Prop}

def opH (c : Cx) (ops : Array Oper) (pre : Nat -> Bool) (hC : SH) (i : Nat) (N : Act -> SH -> Prop) (a : Act) (h : SH) : Prop :=
 match ops[i]? with
 | none=>False
 | some o=>if Region.wanted o (yielded ops a.tmps) then ∀ w,Holds w h->Same c.w0 w->OpV c.P c.r o a w λv w'=>∃ h',Holds w' h'/\Same c.w0 w'/\(pre i=true->Sub hC h->Sub hC h')/\N (a.put o.dst v) h'
   else N (a.put o.dst undef) h
def zQ (c:Cx) (ops:Array Oper) (pre:Nat->Bool) (hC:SH) (K:Act->World->Prop):Nat->Array Bool->Act->SH->Prop
 | 0,listed,a,h=>Region.ready .any ops listed=[]/\∀ w,Holds w h->Same c.w0 w->K a w
 | f+1,listed,a,h=>(Region.ready .any ops listed=[]->∀ w,Holds w h->Same c.w0 w->K a w)/\∀ i∈Region.ready .any ops listed,opH c ops pre hC i (zQ c ops pre hC K f (listed.setIfInBounds i true)) a h

theorem zQ.wp {Q : Exit -> Act -> World -> Prop} (hQ : ∀ a w, K a w -> Q .normal a w) : ∀ (f : Nat) (listed : Array Bool) (a : Act) (h : SH) (w : World), zQ c ops pre hC K f listed a h -> Holds w h -> Same c.w0 w ->
  wpAnyIn (Fw c.r) 0 c.P .any ops Q f listed a w
 | 0,_,_,_,w,H,h1,h2=>⟨H.1,hQ _ _ (H.2 w h1 h2)⟩
 | f + 1, listed, a, h, w, H, h1, h2 => by
  refine ⟨λh0=>hQ _ _ (H.1 h0 w h1 h2),λi hi=>?_⟩
  have hh:=H.2 i hi
  unfold opH at hh
  unfold wpOpIn
  split
  .rename_i ho; rw [ho] at hh; exact hh.elim
  .rename_i o ho
   simp only [ho] at hh
   split
   .rename_i hw
    rw [if_pos hw] at hh
    exact OpW.wpIn ((hh w h1 h2).mono λv w' ⟨h',g1,g2,_,g4⟩=>zQ.wp hQ f _ _ h' w' g4 g1 g2)
   .rename_i hw
    rw [if_neg hw] at hh
    exact ⟨λ_ _=>trivial,zQ.wp hQ f _ _ h w hh h1 h2⟩

/-! ### What waits for what -/
inductive Dep (ops:Array Oper):Nat->Nat->Prop
 | direct {j i:Nat} {o:Oper} {e:Edge}:ops[j]? = some o->e∈o.after->Region.binds .any e=true->e.on=i->Dep ops j i
 | trans {j i:Nat} {o:Oper} {e:Edge}:ops[j]? = some o->e∈o.after->Region.binds .any e=true->Dep ops e.on i->Dep ops j i
def Closed (ops:Array Oper) (listed:Array Bool):Prop:=∀ j o,ops[j]? = some o->listed.getD j false=true->∀ e∈o.after,Region.binds .any e=true->listed.getD e.on false=true
theorem Dep.listed {listed:Array Bool} (hc:Closed ops listed) {j i:Nat} (h:Dep ops j i) (hj:listed.getD j false=true):listed.getD i false=true:=by
 induction h with
 | direct ho he hb hi=>subst hi; exact hc _ _ ho hj _ he hb
 | trans ho he hb _ ih=>exact ih (hc _ _ ho hj _ he hb)
theorem Dep.notReady {listed:Array Bool} (hc:Closed ops listed) {j i:Nat} (h:Dep ops j i) (hi:listed.getD i false=false):j ∉ Region.ready .any ops listed:=λhr=>by
 obtain ⟨_,o,ho,hall⟩:=mem_ready.1 hr
 cases h with
 | direct ho' he hb hi' =>
  rw [ho] at ho'; cases ho'
  subst hi'
  rw [hall _ he hb] at hi; cases hi
 | trans ho' he hb hd =>
  rw [ho] at ho'; cases ho'
  rw [hd.listed hc (hall _ he hb)] at hi; cases hi
theorem Closed.set {listed:Array Bool} (hc:Closed ops listed) {i:Nat} (hi:i∈Region.ready .any ops listed):Closed ops (listed.setIfInBounds i true):=λj o ho hl e he hb=>by
 obtain ⟨_,oi,hoi,hall⟩:=mem_ready.1 hi
 by_cases hij:i=j
 .subst hij
  rw [hoi] at ho; cases ho
  exact getD_set_true<|hall e he hb
 .rw [getD_set_ne false hij] at hl
  exact getD_set_true<|hc j o ho hl e he hb

/-! ### An operation that only reads what stays may be taken first -/
def ku (c:Cx) (ops:Array Oper) (hC:SH) (o:Oper) (v:Value) (a:Act):Prop :=
 (Region.wanted o (yielded ops a.tmps)=true/\∀ x w,Holds w (hC++x)->Same c.w0 w->OpV c.P c.r o a w λu w'=>u=v/\Holds w' (hC++x)/\Same c.w0 w') \/
 (Region.wanted o (yielded ops a.tmps)=false/\v=undef)

theorem CZ {r:Option Nat} {o:Oper} (hs:∀ cs b,o.op≠.select cs b) (hd:∀ k,o.op≠.defer k) (a:Act) (dst:Option Tmp) (v:Value) (h:∀ d,dst=some d->d ∉ o.looksAt ops) :
  o.semAt r (a.put dst v).eval=o.semAt r a.eval:=by
 rw [Oper.semAt_eq _ _ _ hd,Oper.semAt_eq _ _ _ hd,execOp_put o hs a dst v h]

theorem ku.put {oi oj:Oper} {v:Value} {a:Act} (hs:∀ cs b,oi.op≠.select cs b) (hd:∀ k,oi.op≠.defer k) (hap:∀ d,oj.dst=some d->d ∉ oi.looksAt ops) (u:Value) (hy:ku c ops hC oi v a):ku c ops hC oi v (a.put oj.dst u):=by
 unfold ku OpV at *
 rw [CZ hs hd a oj.dst u hap,wanted_put oi a oj.dst u hap]
 exact hy

theorem ku.opH {i:Nat} {o:Oper} {v:Value} {a:Act} {h hP:SH} (hi:ops[i]? = some o) (hsub:Sub hP h) (hy:ku c ops hP o v a) {N:Act->SH->Prop} (hn:N (a.put o.dst v) h):opH c ops pre hC i N a h:=by
 unfold Ck.opH
 simp only [hi]
 rcases hy with ⟨hw,hv⟩ | ⟨hw,rfl⟩
 .simp only [hw,if_true]
  intro w h1 h2
  obtain ⟨x,hx⟩:=hsub
  exact (hv x w (h1.perm hx) h2).mono λu w' ⟨e,g1,g2⟩=>⟨h,g1.perm hx.symm,g2,λ_ hs=>hs,e ▸ hn⟩
 .simp only [hw,Bool.false_eq_true,if_false]; exact hn

theorem zR {i : Nat} {oi : Oper} {v : Value} {hP : SH} (hkp : hP = hC \/ hP = []) (hi : ops[i]? = some oi) (hsel : ∀ (j : Nat) (o : Oper), ops[j]? = some o -> (∀ cs b, o.op ≠ .select cs b) /\ ∀ k, o.op ≠ .defer k) :
  ∀ (f:Nat) (listed:Array Bool) (a:Act) (h:SH),Closed ops listed->Sub hP h ->
   (∀ j oj,ops[j]? = some oj->j≠i->listed.getD j true=false->(∀ e∈oj.after,Region.binds .any e=true->e.on≠i)->oi.apart ops oj=true) ->
   (hP=[]\/∀ j,j≠i->listed.getD j true=false->pre j=false->Dep ops j i) ->
   i∈Region.ready .any ops listed->ku c ops hP oi v a ->
   zQ c ops pre hC K f (listed.setIfInBounds i true) (a.put oi.dst v) h->zQ c ops pre hC K (f+1) listed a h:=by
 intro f
 induction f with
 | zero =>
  intro listed a h _ hsub _ _ hr hy H
  refine ⟨λh0=>(by rw [h0] at hr; cases hr),λj hj=>?_⟩
  by_cases hji:j=i
  .subst hji; exact hy.opH hi hsub H
  .have:=ready_mono hj hji
   rw [H.1] at this
   cases this
 | succ f ih =>
  intro listed a h hcl hsub hfree hdep hr hy H
  refine ⟨λh0=>(by rw [h0] at hr; cases hr),λj hj=>?_⟩
  by_cases hji:j=i
  .subst hji; exact hy.opH hi hsub H
  .have h1 := H.2 j<|ready_mono hj hji
   obtain ⟨hjun,oj,hoj,hall⟩:=mem_ready.1 hj
   have hiun:listed.getD i false=false:=by
    have h0:=(mem_ready.1 hr).1
    rcases Nat.lt_or_ge i listed.size with h' | h'
    .simp [h'] at h0 ⊢; exact h0
    .simp [Array.getElem?_eq_none h']
   have hkeep : ∀ h', (pre j = true -> Sub hC h -> Sub hC h') -> Sub hP h' := λh' k => by
    rcases hdep with h0 | hdep
    .subst h0; exact Sub.nil _
    .rcases hkp with h0 | h0
     .subst h0
      refine k ?_ hsub
      cases hp:pre j with
      | true=>rfl
      | false=>exact absurd hj ((hdep j hji hjun hp).notReady hcl hiun)
     .subst h0; exact Sub.nil _
   have hnot:∀ e∈oj.after,Region.binds .any e=true->e.on≠i:=λe he hb heq=>by
    have h1:=hall e he hb
    rw [heq,hiun] at h1; cases h1
   obtain ⟨ap1,ap2,ap3⟩:=Oper.apart_spec<|hfree j oj hoj hji hjun hnot
   have hnext : ∀ (u : Value) (h' : SH), Sub hP h' -> zQ c ops pre hC K f ((listed.setIfInBounds i true).setIfInBounds j true) ((a.put oi.dst v).put oj.dst u) h' -> zQ c ops pre hC K (f + 1) (listed.setIfInBounds j true) (a.put oj.dst u) h' := by
    intro u h' hs' hN
    refine ih _ _ h' (hcl.set hj) hs' (λk ok hk hki hun hno=>hfree k ok hk hki ?_ hno) (hdep.imp id λhdep k hki hun hp=>hdep k hki (by
      by_cases hjk:j=k
      .subst hjk; exact hjun
      .rw [getD_set_ne true hjk] at hun; exact hun) hp) (ready_mono hr (Ne.symm hji)) (hy.put (hsel i oi hi).1 (hsel i oi hi).2 ap3 u) ?_
    .by_cases hjk:j=k
     .subst hjk; exact hjun
     .rw [getD_set_ne true hjk] at hun; exact hun
    .rw [Array.setIfInBounds_comm _ _ hji,<- Act.put_comm a v u ap2]
     exact hN
   unfold opH at h1 ⊢
   simp only [hoj] at h1 ⊢
   rw [wanted_put oj a oi.dst v ap1] at h1
   split
   .rename_i hw
    rw [if_pos hw] at h1
    intro w g1 g2
    have h2:=h1 w g1 g2
    unfold OpV at h2 ⊢
    rw [CZ (hsel j oj hoj).1 (hsel j oj hoj).2 a oi.dst v ap1] at h2
    exact jg (λu w' ⟨h',k1,k2,k3,k4⟩=>⟨h',k1,k2,k3,hnext u h' (hkeep h' k3) k4⟩) h2
   .rename_i hw
    rw [if_neg hw] at h1
    exact hnext undef h hsub h1

/-! ### The check of an order -/
def tb (M:Array Nat) (j i:Nat):Bool:=(M.getD j 0).testBit i
def tbOk (ops:Array Oper) (M:Array Nat):Bool :=
 (List.range ops.size).all λj=>(List.range ops.size).all λi => !tb M j i || (match ops[j]? with
  | some o=>o.after.any λe=>Region.binds .any e && (e.on == i || (decide (e.on<j) && tb M e.on i))
  | none=>false)
theorem Nw {M:Array Nat} (hok:tbOk ops M=true):∀ (j i:Nat),j<ops.size->i<ops.size->tb M j i=true->Dep ops j i:=by
 intro j
 induction j using Nat.strongRecOn with
 | _ j ih =>
  intro i hj hi ht
  have h1:=List.all_eq_true.1 (List.all_eq_true.1 hok j<|List.mem_range.2 hj) i<|List.mem_range.2 hi
  rw [ht] at h1
  simp only [Bool.not_true,Bool.false_or] at h1
  cases ho:ops[j]? with
  | none=>rw [ho] at h1; cases h1
  | some o =>
   rw [ho] at h1
   obtain ⟨e,he,hb⟩:=Array.any_eq_true'.1 h1
   simp only [Bool.and_eq_true,Bool.or_eq_true,beq_iff_eq,decide_eq_true_eq] at hb
   rcases hb.2 with h2 | ⟨h2,h3⟩
   .exact .direct ho he hb.1 h2
   .exact .trans ho he hb.1<|ih e.on h2 i (by omega) hi h3

inductive Ord where
 | nil
 | cons (x:Nat×Bool) (t:Ord)
 | two (i:Nat) (t:Ord) (j:Nat) (u:Ord)
 | three (i:Nat) (t:Ord) (j:Nat) (u:Ord) (k:Nat) (v:Ord)
 | pure (i:Nat) (t:Ord)
def Ord.length:Ord->Nat
 | .nil=>0
 | .cons _ t=>t.length+1
 | .two _ t _ _=>t.length+1
 | .three _ t _ _ _ _=>t.length+1
 | .pure _ t=>t.length+1
def ork:List (Nat×Nat)->Ord->Ord
 | [],o=>o
 | (i,0)::t,o=>.cons (i,false) (ork t o)
 | (i,1)::t,o=>.cons (i,true) (ork t o)
 | (i,_)::t,o=>.pure i (ork t o)
def ol:List (Nat×Bool)->Ord->Ord
 | [],o=>o
 | x::t,o=>.cons x (ol t o)
def ry (ops : Array Oper) (pre : Nat -> Bool) (M : Array Nat) : Ord -> Array Bool -> Bool
 | .nil,listed=>(Region.ready .any ops listed).isEmpty
 | .cons (i,true) t,listed=>(Region.ready .any ops listed).contains i && Region.free .any ops listed i && pre i &&
   ((List.range ops.size).all λj=>j == i || listed.getD j true || pre j || tb M j i) && ry ops pre M t (listed.setIfInBounds i true)
 | .cons (i,false) t,listed=>decide (Region.ready .any ops listed=[i]) && ry ops pre M t (listed.setIfInBounds i true)
 | .two i t j u,listed=>decide (Region.ready .any ops listed=[i,j]) && decide (t.length=u.length) && ry ops pre M t (listed.setIfInBounds i true) && ry ops pre M u (listed.setIfInBounds j true)
 | .three i t j u k v,listed=>decide (Region.ready .any ops listed=[i,j,k]) && decide (t.length=u.length) && decide (t.length=v.length) && ry ops pre M t (listed.setIfInBounds i true) && ry ops pre M u (listed.setIfInBounds j true) && ry ops pre M v (listed.setIfInBounds k true)
 | .pure i t,listed=>(Region.ready .any ops listed).contains i && Region.free .any ops listed i && ry ops pre M t (listed.setIfInBounds i true)
def uY (ops:Array Oper):Bool:=ops.all λo=>match o.op with | .select _ _=>false | .defer _=>false | _=>true
theorem tu (h:uY ops=true):∀ (j:Nat) (o:Oper),ops[j]? = some o->(∀ cs b,o.op≠.select cs b)/\∀ k,o.op≠.defer k:=λj o ho=>by
 have hm:o∈ops:=Array.mem_of_getElem? ho
 have:=Array.all_eq_true'.1 h o hm
 exact ⟨(λcs b e=>by rw [e] at this; cases this),(λk e=>by rw [e] at this; cases this)⟩

def DrL (c : Cx) (ops : Array Oper) (pre : Nat -> Bool) (hC : SH) (K : Act -> World -> Prop) : Ord -> Env -> SH -> Prop
 | .nil,e,h=>Nx c K e h
 | .cons (i,true) t,e,h=>Sub hC h/\∃ o v,ops[i]? = some o/\(∀ a,Kn c.n c.ds a e->ku c ops hC o v a)/\∃ e',(∀ a,Kn c.n c.ds a e->Kn c.n c.ds (a.put o.dst v) e')/\DrL c ops pre hC K t e' h
 | .cons (i,false) t,e,h=>∃ o,ops[i]? = some o/\(∀ a,Kn c.n c.ds a e->Region.wanted o (yielded ops a.tmps)=true)/\St c ops (λa' w'=>∃ e' h',Kn c.n c.ds a' e'/\Holds w' h'/\Same c.w0 w'/\(pre i=true->Sub hC h->Sub hC h')/\DrL c ops pre hC K t e' h') [o] e h
 | .two i t j u,e,h =>
   (∃ o,ops[i]? = some o/\(∀ a,Kn c.n c.ds a e->Region.wanted o (yielded ops a.tmps)=true)/\St c ops (λa' w'=>∃ e' h',Kn c.n c.ds a' e'/\Holds w' h'/\Same c.w0 w'/\(pre i=true->Sub hC h->Sub hC h')/\DrL c ops pre hC K t e' h') [o] e h) /\
   (∃ o,ops[j]? = some o/\(∀ a,Kn c.n c.ds a e->Region.wanted o (yielded ops a.tmps)=true)/\St c ops (λa' w'=>∃ e' h',Kn c.n c.ds a' e'/\Holds w' h'/\Same c.w0 w'/\(pre j=true->Sub hC h->Sub hC h')/\DrL c ops pre hC K u e' h') [o] e h)
 | .three i t j u k v,e,h =>
   (∃ o,ops[i]? = some o/\(∀ a,Kn c.n c.ds a e->Region.wanted o (yielded ops a.tmps)=true)/\St c ops (λa' w'=>∃ e' h',Kn c.n c.ds a' e'/\Holds w' h'/\Same c.w0 w'/\(pre i=true->Sub hC h->Sub hC h')/\DrL c ops pre hC K t e' h') [o] e h) /\
   (∃ o,ops[j]? = some o/\(∀ a,Kn c.n c.ds a e->Region.wanted o (yielded ops a.tmps)=true)/\St c ops (λa' w'=>∃ e' h',Kn c.n c.ds a' e'/\Holds w' h'/\Same c.w0 w'/\(pre j=true->Sub hC h->Sub hC h')/\DrL c ops pre hC K u e' h') [o] e h) /\
   (∃ o,ops[k]? = some o/\(∀ a,Kn c.n c.ds a e->Region.wanted o (yielded ops a.tmps)=true)/\St c ops (λa' w'=>∃ e' h',Kn c.n c.ds a' e'/\Holds w' h'/\Same c.w0 w'/\(pre k=true->Sub hC h->Sub hC h')/\DrL c ops pre hC K v e' h') [o] e h)
 | .pure i t,e,h=>∃ o v,ops[i]? = some o/\(∀ a,Kn c.n c.ds a e->ku c ops [] o v a)/\∃ e',(∀ a,Kn c.n c.ds a e->Kn c.n c.ds (a.put o.dst v) e')/\DrL c ops pre hC K t e' h

theorem jV {i:Nat} {e:Env} {h:SH} {a:Act} {N:Act->SH->Prop} {L:Env->SH->Prop} (hk:Kn c.n c.ds a e)
  (H:∃ o,ops[i]? = some o/\(∀ a,Kn c.n c.ds a e->Region.wanted o (yielded ops a.tmps)=true)/\St c ops (λa' w'=>∃ e' h',Kn c.n c.ds a' e'/\Holds w' h'/\Same c.w0 w'/\(pre i=true->Sub hC h->Sub hC h')/\L e' h') [o] e h)
  (hN:∀ a' e' h',Kn c.n c.ds a' e'->L e' h'->N a' h'):opH c ops pre hC i N a h:=by
 obtain ⟨o,ho,hwant,hs⟩:=H
 unfold opH
 simp only [ho]
 rw [if_pos (hwant a hk)]
 intro w h1 h2
 have h3:=hs a w hk h1 h2
 unfold LsW at h3
 rw [if_pos (hwant a hk)] at h3
 exact OpV.mono (λv w' ⟨e',h',k1,k2,k3,k4,k5⟩=>⟨h',k2,k3,k4,hN _ e' h' k1 k5⟩) h3

theorem DrL.any {M : Array Nat} (hsel : uY ops = true) (hM : tbOk ops M = true) : ∀ (p : Ord) (listed : Array Bool) (e : Env) (h : SH) (a : Act), listed.size = ops.size -> Closed ops listed -> ry ops pre M p listed = true ->
  DrL c ops pre hC K p e h->Kn c.n c.ds a e->zQ c ops pre hC K p.length listed a h
 | .nil,listed,e,h,a,_,_,hB,H,hk=>⟨by simpa [ry] using hB,λw h1 h2=>H a w hk h1 h2⟩
 | .cons (i,true) t,listed,e,h,a,hsz,hcl,hB,H,hk=>by
  simp only [ry,Bool.and_eq_true] at hB
  obtain ⟨⟨⟨⟨hr,hf⟩,hp⟩,hd⟩,hB'⟩:=hB
  obtain ⟨hsub,o,v,ho,hy,e',he',hn⟩:=H
  have hr':i∈Region.ready .any ops listed:=by simpa using hr
  have hilt:i<ops.size:=(Array.getElem?_eq_some_iff.1 ho).1
  refine zR (.inl rfl) ho (tu hsel) t.length listed a h hcl hsub (Region.free_spec ho hf) (.inr λj hji hun hpj=>?_) hr' (hy a hk)
   (DrL.any hsel hM t _ e' h _ Zh (hcl.set hr') hB' hn<|he' a hk)
  have hjlt:j<ops.size:=by
   rcases Nat.lt_or_ge j ops.size with h' | h'
   .exact h'
   .rw [<- hsz] at h'; simp [Array.getElem?_eq_none h'] at hun
  have h1:=List.all_eq_true.1 hd j<|List.mem_range.2 hjlt
  simp only [Bool.or_eq_true,beq_iff_eq,hji,hun,hpj,Bool.false_eq_true,or_false,false_or] at h1
  exact Nw hM j i hjlt hilt h1
 | .cons (i,false) t,listed,e,h,a,hsz,hcl,hB,H,hk=>by
  simp only [ry,Bool.and_eq_true,decide_eq_true_eq] at hB
  obtain ⟨hr,hB'⟩:=hB
  refine ⟨λh0=>(by rw [hr] at h0; cases h0),λj hj=>?_⟩
  rw [hr] at hj
  have hji:j=i:=Zg
  subst hji
  have hrj:j∈Region.ready .any ops listed:=by rw [hr]; simp
  exact jV hk H λa' e' h' k1 k2=>DrL.any hsel hM t _ e' h' a' Zh (hcl.set hrj) hB' k2 k1
 | .two i t k u,listed,e,h,a,hsz,hcl,hB,H,hk=>by
  simp only [ry,Bool.and_eq_true,decide_eq_true_eq] at hB
  obtain ⟨⟨⟨hr,hlen⟩,hB1⟩,hB2⟩:=hB
  refine ⟨λh0=>(by rw [hr] at h0; cases h0),λj hj=>?_⟩
  have hrj:=hj
  rw [hr] at hj
  have hji:j=i\/j=k:=Zg
  rcases hji with e' | e'
  .subst e'
   exact jV hk H.1 λa' e' h' k1 k2=>DrL.any hsel hM t _ e' h' a' Zh (hcl.set hrj) hB1 k2 k1
  .subst e'
   refine jV hk H.2 λa' e' h' k1 k2=>?_
   have:=DrL.any hsel hM u _ e' h' a' Zh (hcl.set hrj) hB2 k2 k1
   rw [<- hlen] at this
   exact this
 | .three i t k u l v,listed,e,h,a,hsz,hcl,hB,H,hk=>by
  simp only [ry,Bool.and_eq_true,decide_eq_true_eq] at hB
  obtain ⟨⟨⟨⟨⟨hr,hlen⟩,hlen2⟩,hB1⟩,hB2⟩,hB3⟩:=hB
  refine ⟨λh0=>(by rw [hr] at h0; cases h0),λj hj=>?_⟩
  have hrj:=hj
  rw [hr] at hj
  have hji:j=i\/j=k\/j=l:=Zg
  rcases hji with e' | e' | e'
  .subst e'
   exact jV hk H.1 λa' e' h' k1 k2=>DrL.any hsel hM t _ e' h' a' Zh (hcl.set hrj) hB1 k2 k1
  .subst e'
   refine jV hk H.2.1 λa' e' h' k1 k2=>?_
   have:=DrL.any hsel hM u _ e' h' a' Zh (hcl.set hrj) hB2 k2 k1
   rw [<- hlen] at this
   exact this
  .subst e'
   refine jV hk H.2.2 λa' e' h' k1 k2=>?_
   have:=DrL.any hsel hM v _ e' h' a' Zh (hcl.set hrj) hB3 k2 k1
   rw [<- hlen2] at this
   exact this
 | .pure i t,listed,e,h,a,hsz,hcl,hB,H,hk=>by
  simp only [ry,Bool.and_eq_true] at hB
  obtain ⟨⟨hr,hf⟩,hB'⟩:=hB
  obtain ⟨o,v,ho,hy,e',he',hn⟩:=H
  have hr':i∈Region.ready .any ops listed:=by simpa using hr
  exact zR (.inr rfl) ho (tu hsel) t.length listed a h hcl (Sub.nil _) (Region.free_spec ho hf) (.inl rfl) hr' (hy a hk)
   (DrL.any hsel hM t _ e' h _ Zh (hcl.set hr') hB' hn<|he' a hk)
theorem jC {c:Cx} {id:Nat} {l:List Oper} {Q:Exit->Act->World->Prop} {e:Env} {h:SH} (p:Ord) (pre:Nat->Bool) (hC:SH) (hm:c.P.follows .mixedOrders=true)
  (hB:(uY l.toArray && tbOk l.toArray (Region.before l.toArray) && ry l.toArray pre (Region.before l.toArray) p (Array.replicate l.toArray.size false) && decide (p.length=l.toArray.size))=true)
  (hd:DrL c l.toArray pre hC (Q .normal) p e h):Cd c (.region id l.toArray true) Q e h:=λa w hk hh hw=>by
 simp only [Bool.and_eq_true,decide_eq_true_eq] at hB
 obtain ⟨⟨⟨h1,h2⟩,h3⟩,h4⟩:=hB
 refine wpIn_region_any hm ?_
 rw [<- h4]
 have hcl:Closed l.toArray (Array.replicate l.toArray.size false):=λj o _ hl=>by rw [F3] at hl; cases hl
 have hany:=DrL.any h1 h2 p _ e h a (by simp) hcl h3 hd hk
 rw [h4] at hany ⊢
 exact zQ.wp (λ_ _ hq=>hq) _ _ _ _ _ hany (Holds.grew hh<|Grew.drawn w _)<|hw.trans (Grew.drawn w _).toSame

/-! ### The steps of such a walk -/
variable {e:Env} {h:SH} {t:Ord}
theorem bB (hn:Nx c K e h):DrL c ops pre hC K .nil e h:=hn
theorem dr_val {i d:Nat} {op:Op} {ty:TypeId} {pos:String} {after:Array Edge} {v:Value} (hi:ops[i]? = some ⟨some d,op,ty,pos,after,none⟩) (hs:Sub hC h) (hv:Vop c.P e hC op ty v) (hd:d<c.n)
  (hn:DrL c ops pre hC K t ((d,v)::e) h):DrL c ops pre hC K (.cons (i,true) t) e h :=
 ⟨hs,_,v,hi,λa hk=>.inl ⟨by simp [Region.wanted],λx w h1 h2=>by
  unfold OpV
  rw [Oper.semAt_eq _ _ _ hv.1,hv.2.2 a.eval w _ _ _ _ hk.evs (bn.append.1 h1).1]
  exact ⟨rfl,h1,h2⟩⟩,_,λa hk=>hk.put v hd,hn⟩
theorem fI {g gd:Nat} {b:Bool} (hg:((ops[g]?).bind (·.dst))=some gd) (hgv:e.get? gd=some (.bool b)) {n:Nat} {ds:List Deferred} {a:Act} (hk:Kn n ds a e):yielded ops a.tmps g=some b:=by
 unfold yielded
 cases ho:ops[g]? with
 | none=>simp [ho] at hg
 | some o=>simp only [ho,Option.bind_some] at hg; simp [hg,hk.get gd _ hgv]
theorem dr_valg {i d g gd:Nat} {op:Op} {ty:TypeId} {pos:String} {after:Array Edge} {v:Value} {want:Bool} (hi:ops[i]? = some ⟨some d,op,ty,pos,after,some (g,want)⟩) (hg:((ops[g]?).bind (·.dst))=some gd) (hgv:e.get? gd=some (.bool want))
  (hs:Sub hC h) (hv:Vop c.P e hC op ty v) (hd:d<c.n)
  (hn:DrL c ops pre hC K t ((d,v)::e) h):DrL c ops pre hC K (.cons (i,true) t) e h :=
 ⟨hs,_,v,hi,λa hk=>.inl ⟨by simp [Region.wanted,fI hg hgv hk],λx w h1 h2=>by
  unfold OpV
  rw [Oper.semAt_eq _ _ _ hv.1,hv.2.2 a.eval w _ _ _ _ hk.evs (bn.append.1 h1).1]
  exact ⟨rfl,h1,h2⟩⟩,_,λa hk=>hk.put v hd,hn⟩
theorem dr_skip {i d g gd:Nat} {op:Op} {ty:TypeId} {pos:String} {after:Array Edge} {want b:Bool} (hi:ops[i]? = some ⟨some d,op,ty,pos,after,some (g,want)⟩) (hg:((ops[g]?).bind (·.dst))=some gd) (hgv:e.get? gd=some (.bool b)) (hb:b = !want)
  (hs:Sub hC h) (hd:d<c.n) (hn:DrL c ops pre hC K t ((d,undef)::e) h):DrL c ops pre hC K (.cons (i,true) t) e h :=
 ⟨hs,_,undef,hi,λa hk=>.inr ⟨by subst hb; cases want <;> simp [Region.wanted,fI hg hgv hk],rfl⟩,_,λa hk=>hk.put undef hd,hn⟩
/-! Those that look at no block. -/
theorem drp_val {i d:Nat} {op:Op} {ty:TypeId} {pos:String} {after:Array Edge} {v:Value} (hi:ops[i]? = some ⟨some d,op,ty,pos,after,none⟩) (hv:Vop c.P e [] op ty v) (hd:d<c.n)
  (hn:DrL c ops pre hC K t ((d,v)::e) h):DrL c ops pre hC K (.pure i t) e h :=
 ⟨_,v,hi,λa hk=>.inl ⟨by simp [Region.wanted],λx w h1 h2=>by
  unfold OpV
  rw [Oper.semAt_eq _ _ _ hv.1,hv.2.2 a.eval w _ _ _ _ hk.evs trivial]
  exact ⟨rfl,h1,h2⟩⟩,_,λa hk=>hk.put v hd,hn⟩
theorem Ny {i d g gd:Nat} {op:Op} {ty:TypeId} {pos:String} {after:Array Edge} {v:Value} {want:Bool} (hi:ops[i]? = some ⟨some d,op,ty,pos,after,some (g,want)⟩) (hg:((ops[g]?).bind (·.dst))=some gd) (hgv:e.get? gd=some (.bool want))
  (hv:Vop c.P e [] op ty v) (hd:d<c.n)
  (hn:DrL c ops pre hC K t ((d,v)::e) h):DrL c ops pre hC K (.pure i t) e h :=
 ⟨_,v,hi,λa hk=>.inl ⟨by simp [Region.wanted,fI hg hgv hk],λx w h1 h2=>by
  unfold OpV
  rw [Oper.semAt_eq _ _ _ hv.1,hv.2.2 a.eval w _ _ _ _ hk.evs trivial]
  exact ⟨rfl,h1,h2⟩⟩,_,λa hk=>hk.put v hd,hn⟩
theorem Nz {i d g gd:Nat} {op:Op} {ty:TypeId} {pos:String} {after:Array Edge} {want b:Bool} (hi:ops[i]? = some ⟨some d,op,ty,pos,after,some (g,want)⟩) (hg:((ops[g]?).bind (·.dst))=some gd) (hgv:e.get? gd=some (.bool b)) (hb:b = !want)
  (hd:d<c.n) (hn:DrL c ops pre hC K t ((d,undef)::e) h):DrL c ops pre hC K (.pure i t) e h :=
 ⟨_,undef,hi,λa hk=>.inr ⟨by subst hb; cases want <;> simp [Region.wanted,fI hg hgv hk],rfl⟩,_,λa hk=>hk.put undef hd,hn⟩
theorem xQ {f:Operand} {az:Array Operand} {ts:Array TypeId} {ty:TypeId} {pos:String} {after:Array Edge} {d:Option Nat} {gu:Option (Nat×Bool)} {k:FuncId} {fi cp:Array Value} {vs:List Value} {args:Array Value} {hf hr:SH} {v:Value}
  (hv:e.ev? f=some (.func (.func k) fi cp)) (has:az.toList.mapM e.ev? = some vs) (hE:Enters c.P k) (ha:fi++vs.toArray++cp=args) (ct:Reads c.P k args hf v) (pk:Pk hC hf hr) {a:Act} (hk:Kn c.n c.ds a e)
  (hw:Region.wanted ⟨d,.call { callee:=.value f,args:=az,argTypes:=ts },ty,pos,after,gu⟩ (yielded ops a.tmps)=true) :
  ku c ops hC ⟨d,.call { callee:=.value f,args:=az,argTypes:=ts },ty,pos,after,gu⟩ v a :=
 .inl ⟨hw,λx w h1 h2=>by
  unfold OpV
  rw [Oper.semAt_eq _ _ _ (by simp),ru hv has hE ha hk.evs]
  have hp:(hC++x).Perm (hf++(hr++x)):=(pk.perm.append_right x).trans<|by rw [List.append_assoc]
  exact (ct (hr++x) w (h1.perm hp)).mono λ_ w' ⟨u,h',he,⟨hu,hh'⟩,hH,hS⟩=>⟨u,he,hu,by subst hh'; exact hH.perm hp.symm,h2.trans hS⟩⟩
theorem dr_call {i d:Nat} {f:Operand} {az:Array Operand} {ts:Array TypeId} {ty:TypeId} {pos:String} {after:Array Edge} {k:FuncId} {fi cp:Array Value} {vs:List Value} {args:Array Value} {hf hr:SH} {v:Value}
  (hi:ops[i]? = some ⟨some d,.call { callee:=.value f,args:=az,argTypes:=ts },ty,pos,after,none⟩) (hs:Sub hC h)
  (hv:e.ev? f=some (.func (.func k) fi cp)) (has:az.toList.mapM e.ev? = some vs) (hE:Enters c.P k) (ha:fi++vs.toArray++cp=args) (ct:Reads c.P k args hf v) (pk:Pk hC hf hr) (hd:d<c.n)
  (hn:DrL c ops pre hC K t ((d,v)::e) h):DrL c ops pre hC K (.cons (i,true) t) e h :=
 ⟨hs,_,v,hi,λ_ hk=>xQ hv has hE ha ct pk hk (by simp [Region.wanted]),_,λ_ hk=>hk.put v hd,hn⟩
theorem NA {i d g gd:Nat} {f:Operand} {az:Array Operand} {ts:Array TypeId} {ty:TypeId} {pos:String} {after:Array Edge} {k:FuncId} {fi cp:Array Value} {vs:List Value} {args:Array Value} {hf hr:SH} {v:Value} {want:Bool}
  (hi:ops[i]? = some ⟨some d,.call { callee:=.value f,args:=az,argTypes:=ts },ty,pos,after,some (g,want)⟩) (hg:((ops[g]?).bind (·.dst))=some gd) (hgv:e.get? gd=some (.bool want)) (hs:Sub hC h)
  (hv:e.ev? f=some (.func (.func k) fi cp)) (has:az.toList.mapM e.ev? = some vs) (hE:Enters c.P k) (ha:fi++vs.toArray++cp=args) (ct:Reads c.P k args hf v) (pk:Pk hC hf hr) (hd:d<c.n)
  (hn:DrL c ops pre hC K t ((d,v)::e) h):DrL c ops pre hC K (.cons (i,true) t) e h :=
 ⟨hs,_,v,hi,λ_ hk=>xQ hv has hE ha ct pk hk (by simp [Region.wanted,fI hg hgv hk]),_,λ_ hk=>hk.put v hd,hn⟩
def EffK (c:Cx) (ops:Array Oper) (pre:Nat->Bool) (hC:SH) (K:Act->World->Prop) (i:Nat) (t:Ord) (h:SH) (a':Act) (w':World):Prop :=
 ∃ e' h',Kn c.n c.ds a' e'/\Holds w' h'/\Same c.w0 w'/\(pre i=true->Sub hC h->Sub hC h')/\DrL c ops pre hC K t e' h'
theorem aT {i:Nat} {d:Option Nat} {op:Op} {ty:TypeId} {pos:String} {after:Array Edge} (hi:ops[i]? = some ⟨d,op,ty,pos,after,none⟩)
  (hn:St c ops (EffK c ops pre hC K i t h) [⟨d,op,ty,pos,after,none⟩] e h):DrL c ops pre hC K (.cons (i,false) t) e h :=
 ⟨_,hi,λ_ _=>by simp [Region.wanted],hn⟩
theorem NB {i:Nat} {h0:SH} (hs:pre i=true->Sub hC h0->Sub hC h) (hn:DrL c ops pre hC K t e h):St c ops (EffK c ops pre hC K i t h0) [] e h :=
 λ_ _ hk hh hw=>⟨e,h,hk,hh,hw,hs,hn⟩
theorem nJ {i j:Nat} {t u:Ord} {d d':Option Nat} {op op':Op} {ty ty':TypeId} {pos pos':String} {after after':Array Edge} (hi:ops[i]? = some ⟨d,op,ty,pos,after,none⟩) (hj:ops[j]? = some ⟨d',op',ty',pos',after',none⟩)
  (h1:St c ops (EffK c ops pre hC K i t h) [⟨d,op,ty,pos,after,none⟩] e h) (h2:St c ops (EffK c ops pre hC K j u h) [⟨d',op',ty',pos',after',none⟩] e h):DrL c ops pre hC K (.two i t j u) e h :=
 ⟨⟨_,hi,λ_ _=>by simp [Region.wanted],h1⟩,⟨_,hj,λ_ _=>by simp [Region.wanted],h2⟩⟩
theorem DrL.weaken {e':Env} (hs:Env.sub e' e) (hn:DrL c ops pre hC K t e' h):DrL c ops pre hC K t e h:=by
 cases t with
 | nil=>exact Nx.weaken hs hn
 | cons p t =>
  obtain ⟨i,b⟩:=p
  cases b with
  | true =>
   obtain ⟨h1,o,v,h2,h3,e2,h4,h5⟩:=hn
   exact ⟨h1,o,v,h2,λa hk=>h3 a (hk.weaken hs),e2,λa hk=>h4 a (hk.weaken hs),h5⟩
  | false =>
   obtain ⟨o,h1,h2,h3⟩:=hn
   exact ⟨o,h1,λa hk=>h2 a (hk.weaken hs),λa w hk hh hw=>h3 a w (hk.weaken hs) hh hw⟩
 | two i t j u =>
  obtain ⟨⟨o,h1,h2,h3⟩,⟨o',h4,h5,h6⟩⟩:=hn
  exact ⟨⟨o,h1,λa hk=>h2 a (hk.weaken hs),λa w hk hh hw=>h3 a w (hk.weaken hs) hh hw⟩,⟨o',h4,λa hk=>h5 a (hk.weaken hs),λa w hk hh hw=>h6 a w (hk.weaken hs) hh hw⟩⟩
 | three i t j u k v =>
  obtain ⟨⟨o,h1,h2,h3⟩,⟨o',h4,h5,h6⟩,⟨o'',h7,h8,h9⟩⟩:=hn
  exact ⟨⟨o,h1,λa hk=>h2 a (hk.weaken hs),λa w hk hh hw=>h3 a w (hk.weaken hs) hh hw⟩,⟨o',h4,λa hk=>h5 a (hk.weaken hs),λa w hk hh hw=>h6 a w (hk.weaken hs) hh hw⟩,⟨o'',h7,λa hk=>h8 a (hk.weaken hs),λa w hk hh hw=>h9 a w (hk.weaken hs) hh hw⟩⟩
 | pure i t =>
  obtain ⟨o,v,h2,h3,e2,h4,h5⟩:=hn
  exact ⟨o,v,h2,λa hk=>h3 a (hk.weaken hs),e2,λa hk=>h4 a (hk.weaken hs),h5⟩
end
theorem bC {c:Cx} {id:Nat} {l:List Oper} {Q:Exit->Act->World->Prop} {e:Env} {h:SH} (p:Ord) (pre:Nat->Bool) (hm:c.P.follows .mixedOrders=true)
  (hB:(uY l.toArray && tbOk l.toArray (Region.before l.toArray) && ry l.toArray pre (Region.before l.toArray) p (Array.replicate l.toArray.size false) && decide (p.length=l.toArray.size))=true)
  (hd:DrL c l.toArray pre h (Q .normal) p e h):Cd c (.region id l.toArray true) Q e h:=jC p pre h hm hB hd
def allR':Nat->Nat->Ord
 | _,0=>.nil
 | i,n+1=>.cons (i,true) (allR' (i+1) n)
def allR (n:Nat):Ord:=allR' 0 n
end Go.Ck
