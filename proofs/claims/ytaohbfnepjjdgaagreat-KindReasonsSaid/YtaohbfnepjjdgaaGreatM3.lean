/-
  A region that draws its order: one walk along an order that is checked by computation serves every order. Operations that only read what stays may come ahead of those with an effect. Generic: nothing of the program is named here. No condition.
  Rows that grow: make,a list of elements,append,slices of rows,copy,clear. Generic: nothing of the program is named here. No condition.
  Slice expressions,clear,copy,pointers compared,maps from numbers. Generic: nothing of the program is named here. No condition.
  Maps from numbers: look-up,store,make. Pairs of numbers and truths held against each other. Generic: nothing of the program is named here. No condition.
  A range over a function: the statement,the rounds,the calls of yield,the function's end with marks among its deferred calls. Generic: nothing of the program is named here. No condition.
-/
import Derived.Test.YtaohbfnepjjdgaaGreatM2
import Derived.Deep.DeepAppendWide
import Derived.LaidEqlPtr
import Derived.Laws.CopyRow
set_option linter.unusedVariables false
set_option linter.unusedSimpArgs false
namespace Go.Ck
open Go

theorem getD_falses (m j:Nat):(Array.replicate m false).getD j false=false:=by
 rcases Nat.lt_or_ge j m with h | h
 ·simp [h]
 ·simp [h]

section
variable {c:Cx} {ops:Array Oper} {pre:Nat→Bool} {hC:SH} {K:Act→World→Prop}

def opH (c : Cx) (ops : Array Oper) (pre : Nat → Bool) (hC : SH) (i : Nat) (N : Act → SH → Prop) (a : Act) (h : SH) : Prop :=
 match ops[i]? with
 | none=>False
 | some o=>if Region.wanted o (yielded ops a.tmps) then ∀ w,Holds w h→Same c.w0 w→OpV c.P c.r o a w fun v w'=>∃ h',Holds w' h'∧Same c.w0 w'∧(pre i=true→Sub hC h→Sub hC h')∧N (a.put o.dst v) h'
   else N (a.put o.dst undef) h
def AnyH (c:Cx) (ops:Array Oper) (pre:Nat→Bool) (hC:SH) (K:Act→World→Prop):Nat→Array Bool→Act→SH→Prop
 | 0,listed,a,h=>Region.ready .any ops listed=[]∧∀ w,Holds w h→Same c.w0 w→K a w
 | f+1,listed,a,h=>(Region.ready .any ops listed=[]→∀ w,Holds w h→Same c.w0 w→K a w)∧∀ i∈Region.ready .any ops listed,opH c ops pre hC i (AnyH c ops pre hC K f (listed.setIfInBounds i true)) a h

theorem AnyH.wp {Q : Exit → Act → World → Prop} (hQ : ∀ a w, K a w → Q .normal a w) : ∀ (f : Nat) (listed : Array Bool) (a : Act) (h : SH) (w : World), AnyH c ops pre hC K f listed a h → Holds w h → Same c.w0 w →
  wpAnyIn (Fw c.r) 0 c.P .any ops Q f listed a w
 | 0,_,_,_,w,H,h1,h2=>⟨H.1,hQ _ _ (H.2 w h1 h2)⟩
 | f + 1, listed, a, h, w, H, h1, h2 => by
  refine ⟨fun h0=>hQ _ _ (H.1 h0 w h1 h2),fun i hi=>?_⟩
  have hh:=H.2 i hi
  unfold opH at hh
  unfold wpOpIn
  split
  ·rename_i ho; rw [ho] at hh; exact hh.elim
  ·rename_i o ho
   simp only [ho] at hh
   split
   ·rename_i hw
    rw [if_pos hw] at hh
    exact OpW.wpIn ((hh w h1 h2).mono fun v w' ⟨h',g1,g2,_,g4⟩=>AnyH.wp hQ f _ _ h' w' g4 g1 g2)
   ·rename_i hw
    rw [if_neg hw] at hh
    exact ⟨fun _ _=>trivial,AnyH.wp hQ f _ _ h w hh h1 h2⟩

/-! ### What waits for what -/
inductive Dep (ops:Array Oper):Nat→Nat→Prop
 | direct {j i:Nat} {o:Oper} {e:Edge}:ops[j]? = some o→e∈o.after→Region.binds .any e=true→e.on=i→Dep ops j i
 | trans {j i:Nat} {o:Oper} {e:Edge}:ops[j]? = some o→e∈o.after→Region.binds .any e=true→Dep ops e.on i→Dep ops j i
def Closed (ops:Array Oper) (listed:Array Bool):Prop:=∀ j o,ops[j]? = some o→listed.getD j false=true→∀ e∈o.after,Region.binds .any e=true→listed.getD e.on false=true
theorem Dep.listed {listed:Array Bool} (hc:Closed ops listed) {j i:Nat} (h:Dep ops j i) (hj:listed.getD j false=true):listed.getD i false=true:=by
 induction h with
 | direct ho he hb hi=>subst hi; exact hc _ _ ho hj _ he hb
 | trans ho he hb _ ih=>exact ih (hc _ _ ho hj _ he hb)
theorem Dep.notReady {listed:Array Bool} (hc:Closed ops listed) {j i:Nat} (h:Dep ops j i) (hi:listed.getD i false=false):j ∉ Region.ready .any ops listed:=fun hr=>by
 obtain ⟨_,o,ho,hall⟩:=mem_ready.1 hr
 cases h with
 | direct ho' he hb hi' =>
  rw [ho] at ho'; cases ho'
  subst hi'
  rw [hall _ he hb] at hi; cases hi
 | trans ho' he hb hd =>
  rw [ho] at ho'; cases ho'
  rw [hd.listed hc (hall _ he hb)] at hi; cases hi
theorem Closed.set {listed:Array Bool} (hc:Closed ops listed) {i:Nat} (hi:i∈Region.ready .any ops listed):Closed ops (listed.setIfInBounds i true):=fun j o ho hl e he hb=>by
 obtain ⟨_,oi,hoi,hall⟩:=mem_ready.1 hi
 by_cases hij:i=j
 ·subst hij
  rw [hoi] at ho; cases ho
  exact getD_set_true (hall e he hb)
 ·rw [getD_set_ne false hij] at hl
  exact getD_set_true (hc j o ho hl e he hb)

/-! ### An operation that only reads what stays may be taken first -/
def YieldsH (c:Cx) (ops:Array Oper) (hC:SH) (o:Oper) (v:Value) (a:Act):Prop :=
 (Region.wanted o (yielded ops a.tmps)=true∧∀ x w,Holds w (hC++x)→Same c.w0 w→OpV c.P c.r o a w fun u w'=>u=v∧Holds w' (hC++x)∧Same c.w0 w') ∨
 (Region.wanted o (yielded ops a.tmps)=false∧v=undef)

theorem semAt_put {r:Option Nat} {o:Oper} (hs:∀ cs b,o.op≠.select cs b) (hd:∀ k,o.op≠.defer k) (a:Act) (dst:Option Tmp) (v:Value) (h:∀ d,dst=some d→d ∉ o.looksAt ops) :
  o.semAt r (a.put dst v).eval=o.semAt r a.eval:=by
 rw [Oper.semAt_eq _ _ _ hd,Oper.semAt_eq _ _ _ hd,execOp_put o hs a dst v h]

theorem YieldsH.put {oi oj:Oper} {v:Value} {a:Act} (hs:∀ cs b,oi.op≠.select cs b) (hd:∀ k,oi.op≠.defer k) (hap:∀ d,oj.dst=some d→d ∉ oi.looksAt ops) (u:Value) (hy:YieldsH c ops hC oi v a):YieldsH c ops hC oi v (a.put oj.dst u):=by
 unfold YieldsH OpV at *
 rw [semAt_put hs hd a oj.dst u hap,wanted_put oi a oj.dst u hap]
 exact hy

theorem YieldsH.opH {i:Nat} {o:Oper} {v:Value} {a:Act} {h hP:SH} (hi:ops[i]? = some o) (hsub:Sub hP h) (hy:YieldsH c ops hP o v a) {N:Act→SH→Prop} (hn:N (a.put o.dst v) h):opH c ops pre hC i N a h:=by
 unfold Ck.opH
 simp only [hi]
 rcases hy with ⟨hw,hv⟩ | ⟨hw,rfl⟩
 ·simp only [hw,if_true]
  intro w h1 h2
  obtain ⟨x,hx⟩:=hsub
  exact (hv x w (h1.perm hx) h2).mono fun u w' ⟨e,g1,g2⟩=>⟨h,g1.perm hx.symm,g2,fun _ hs=>hs,e ▸ hn⟩
 ·simp only [hw,Bool.false_eq_true,if_false]; exact hn

theorem anyH_first {i : Nat} {oi : Oper} {v : Value} {hP : SH} (hkp : hP = hC ∨ hP = []) (hi : ops[i]? = some oi) (hsel : ∀ (j : Nat) (o : Oper), ops[j]? = some o → (∀ cs b, o.op ≠ .select cs b) ∧ ∀ k, o.op ≠ .defer k) :
  ∀ (f:Nat) (listed:Array Bool) (a:Act) (h:SH),Closed ops listed→Sub hP h →
   (∀ j oj,ops[j]? = some oj→j≠i→listed.getD j true=false→(∀ e∈oj.after,Region.binds .any e=true→e.on≠i)→oi.apart ops oj=true) →
   (hP=[]∨∀ j,j≠i→listed.getD j true=false→pre j=false→Dep ops j i) →
   i∈Region.ready .any ops listed→YieldsH c ops hP oi v a →
   AnyH c ops pre hC K f (listed.setIfInBounds i true) (a.put oi.dst v) h→AnyH c ops pre hC K (f+1) listed a h:=by
 intro f
 induction f with
 | zero =>
  intro listed a h _ hsub _ _ hr hy H
  refine ⟨fun h0=>(by rw [h0] at hr; cases hr),fun j hj=>?_⟩
  by_cases hji:j=i
  ·subst hji; exact hy.opH hi hsub H
  ·have:=ready_mono hj hji
   rw [H.1] at this
   cases this
 | succ f ih =>
  intro listed a h hcl hsub hfree hdep hr hy H
  refine ⟨fun h0=>(by rw [h0] at hr; cases hr),fun j hj=>?_⟩
  by_cases hji:j=i
  ·subst hji; exact hy.opH hi hsub H
  ·have h1 := H.2 j (ready_mono hj hji)
   obtain ⟨hjun,oj,hoj,hall⟩:=mem_ready.1 hj
   have hiun:listed.getD i false=false:=by
    have h0:=(mem_ready.1 hr).1
    rcases Nat.lt_or_ge i listed.size with h' | h'
    ·simp [h'] at h0 ⊢; exact h0
    ·simp [Array.getElem?_eq_none h']
   have hkeep : ∀ h', (pre j = true → Sub hC h → Sub hC h') → Sub hP h' := fun h' k => by
    rcases hdep with h0 | hdep
    ·subst h0; exact Sub.nil _
    ·rcases hkp with h0 | h0
     ·subst h0
      refine k ?_ hsub
      cases hp:pre j with
      | true=>rfl
      | false=>exact absurd hj ((hdep j hji hjun hp).notReady hcl hiun)
     ·subst h0; exact Sub.nil _
   have hnot:∀ e∈oj.after,Region.binds .any e=true→e.on≠i:=fun e he hb heq=>by
    have h1:=hall e he hb
    rw [heq,hiun] at h1; cases h1
   obtain ⟨ap1,ap2,ap3⟩:=Oper.apart_spec (hfree j oj hoj hji hjun hnot)
   have hnext : ∀ (u : Value) (h' : SH), Sub hP h' → AnyH c ops pre hC K f ((listed.setIfInBounds i true).setIfInBounds j true) ((a.put oi.dst v).put oj.dst u) h' → AnyH c ops pre hC K (f + 1) (listed.setIfInBounds j true) (a.put oj.dst u) h' := by
    intro u h' hs' hN
    refine ih _ _ h' (hcl.set hj) hs' (fun k ok hk hki hun hno=>hfree k ok hk hki ?_ hno) (hdep.imp id fun hdep k hki hun hp=>hdep k hki (by
      by_cases hjk:j=k
      ·subst hjk; exact hjun
      ·rw [getD_set_ne true hjk] at hun; exact hun) hp) (ready_mono hr (Ne.symm hji)) (hy.put (hsel i oi hi).1 (hsel i oi hi).2 ap3 u) ?_
    ·by_cases hjk:j=k
     ·subst hjk; exact hjun
     ·rw [getD_set_ne true hjk] at hun; exact hun
    ·rw [Array.setIfInBounds_comm _ _ hji,← Act.put_comm a v u ap2]
     exact hN
   unfold opH at h1 ⊢
   simp only [hoj] at h1 ⊢
   rw [wanted_put oj a oi.dst v ap1] at h1
   split
   ·rename_i hw
    rw [if_pos hw] at h1
    intro w g1 g2
    have h2:=h1 w g1 g2
    unfold OpV at h2 ⊢
    rw [semAt_put (hsel j oj hoj).1 (hsel j oj hoj).2 a oi.dst v ap1] at h2
    exact opUpon_mono (fun u w' ⟨h',k1,k2,k3,k4⟩=>⟨h',k1,k2,k3,hnext u h' (hkeep h' k3) k4⟩) h2
   ·rename_i hw
    rw [if_neg hw] at h1
    exact hnext undef h hsub h1

/-! ### The check of an order -/
def tb (M:Array Nat) (j i:Nat):Bool:=(M.getD j 0).testBit i
def tbOk (ops:Array Oper) (M:Array Nat):Bool :=
 (List.range ops.size).all fun j=>(List.range ops.size).all fun i => !tb M j i || (match ops[j]? with
  | some o=>o.after.any fun e=>Region.binds .any e && (e.on == i || (decide (e.on<j) && tb M e.on i))
  | none=>false)
theorem tbOk_dep {M : Array Nat} (hok : tbOk ops M = true) : ∀ (j i : Nat), j < ops.size → i < ops.size → tb M j i = true → Dep ops j i := by
 intro j
 induction j using Nat.strongRecOn with
 | _ j ih =>
  intro i hj hi ht
  have h1:=List.all_eq_true.1 (List.all_eq_true.1 hok j (List.mem_range.2 hj)) i (List.mem_range.2 hi)
  rw [ht] at h1
  simp only [Bool.not_true,Bool.false_or] at h1
  cases ho:ops[j]? with
  | none=>rw [ho] at h1; cases h1
  | some o =>
   rw [ho] at h1
   obtain ⟨e,he,hb⟩:=Array.any_eq_true'.1 h1
   simp only [Bool.and_eq_true,Bool.or_eq_true,beq_iff_eq,decide_eq_true_eq] at hb
   rcases hb.2 with h2 | ⟨h2,h3⟩
   ·exact .direct ho he hb.1 h2
   ·exact .trans ho he hb.1 (ih e.on h2 i (by omega) hi h3)

inductive Ord where
 | nil
 | cons (x:Nat×Bool) (t:Ord)
 | two (i:Nat) (t:Ord) (j:Nat) (u:Ord)
 | three (i:Nat) (t:Ord) (j:Nat) (u:Ord) (k:Nat) (v:Ord)
 | pure (i:Nat) (t:Ord)
def Ord.length:Ord→Nat
 | .nil=>0
 | .cons _ t=>t.length+1
 | .two _ t _ _=>t.length+1
 | .three _ t _ _ _ _=>t.length+1
 | .pure _ t=>t.length+1
def ork:List (Nat×Nat)→Ord→Ord
 | [],o=>o
 | (i,0)::t,o=>.cons (i,false) (ork t o)
 | (i,1)::t,o=>.cons (i,true) (ork t o)
 | (i,_)::t,o=>.pure i (ork t o)
def ol:List (Nat×Bool)→Ord→Ord
 | [],o=>o
 | x::t,o=>.cons x (ol t o)
def okPi (ops : Array Oper) (pre : Nat → Bool) (M : Array Nat) : Ord → Array Bool → Bool
 | .nil,listed=>(Region.ready .any ops listed).isEmpty
 | .cons (i,true) t,listed=>(Region.ready .any ops listed).contains i && Region.free .any ops listed i && pre i &&
   ((List.range ops.size).all fun j=>j == i || listed.getD j true || pre j || tb M j i) && okPi ops pre M t (listed.setIfInBounds i true)
 | .cons (i,false) t,listed=>decide (Region.ready .any ops listed=[i]) && okPi ops pre M t (listed.setIfInBounds i true)
 | .two i t j u,listed=>decide (Region.ready .any ops listed=[i,j]) && decide (t.length=u.length) && okPi ops pre M t (listed.setIfInBounds i true) && okPi ops pre M u (listed.setIfInBounds j true)
 | .three i t j u k v,listed=>decide (Region.ready .any ops listed=[i,j,k]) && decide (t.length=u.length) && decide (t.length=v.length) && okPi ops pre M t (listed.setIfInBounds i true) && okPi ops pre M u (listed.setIfInBounds j true) && okPi ops pre M v (listed.setIfInBounds k true)
 | .pure i t,listed=>(Region.ready .any ops listed).contains i && Region.free .any ops listed i && okPi ops pre M t (listed.setIfInBounds i true)
def noSelDef (ops:Array Oper):Bool:=ops.all fun o=>match o.op with | .select _ _=>false | .defer _=>false | _=>true
theorem noSelDef_spec (h:noSelDef ops=true):∀ (j:Nat) (o:Oper),ops[j]? = some o→(∀ cs b,o.op≠.select cs b)∧∀ k,o.op≠.defer k:=fun j o ho=>by
 have hm:o∈ops:=Array.mem_of_getElem? ho
 have:=Array.all_eq_true'.1 h o hm
 exact ⟨(fun cs b e=>by rw [e] at this; cases this),(fun k e=>by rw [e] at this; cases this)⟩

def DrL (c : Cx) (ops : Array Oper) (pre : Nat → Bool) (hC : SH) (K : Act → World → Prop) : Ord → Env → SH → Prop
 | .nil,e,h=>Nx c K e h
 | .cons (i,true) t,e,h=>Sub hC h∧∃ o v,ops[i]? = some o∧(∀ a,Kn c.n c.ds a e→YieldsH c ops hC o v a)∧∃ e',(∀ a,Kn c.n c.ds a e→Kn c.n c.ds (a.put o.dst v) e')∧DrL c ops pre hC K t e' h
 | .cons (i,false) t,e,h=>∃ o,ops[i]? = some o∧(∀ a,Kn c.n c.ds a e→Region.wanted o (yielded ops a.tmps)=true)∧St c ops (fun a' w'=>∃ e' h',Kn c.n c.ds a' e'∧Holds w' h'∧Same c.w0 w'∧(pre i=true→Sub hC h→Sub hC h')∧DrL c ops pre hC K t e' h') [o] e h
 | .two i t j u,e,h =>
   (∃ o,ops[i]? = some o∧(∀ a,Kn c.n c.ds a e→Region.wanted o (yielded ops a.tmps)=true)∧St c ops (fun a' w'=>∃ e' h',Kn c.n c.ds a' e'∧Holds w' h'∧Same c.w0 w'∧(pre i=true→Sub hC h→Sub hC h')∧DrL c ops pre hC K t e' h') [o] e h) ∧
   (∃ o,ops[j]? = some o∧(∀ a,Kn c.n c.ds a e→Region.wanted o (yielded ops a.tmps)=true)∧St c ops (fun a' w'=>∃ e' h',Kn c.n c.ds a' e'∧Holds w' h'∧Same c.w0 w'∧(pre j=true→Sub hC h→Sub hC h')∧DrL c ops pre hC K u e' h') [o] e h)
 | .three i t j u k v,e,h =>
   (∃ o,ops[i]? = some o∧(∀ a,Kn c.n c.ds a e→Region.wanted o (yielded ops a.tmps)=true)∧St c ops (fun a' w'=>∃ e' h',Kn c.n c.ds a' e'∧Holds w' h'∧Same c.w0 w'∧(pre i=true→Sub hC h→Sub hC h')∧DrL c ops pre hC K t e' h') [o] e h) ∧
   (∃ o,ops[j]? = some o∧(∀ a,Kn c.n c.ds a e→Region.wanted o (yielded ops a.tmps)=true)∧St c ops (fun a' w'=>∃ e' h',Kn c.n c.ds a' e'∧Holds w' h'∧Same c.w0 w'∧(pre j=true→Sub hC h→Sub hC h')∧DrL c ops pre hC K u e' h') [o] e h) ∧
   (∃ o,ops[k]? = some o∧(∀ a,Kn c.n c.ds a e→Region.wanted o (yielded ops a.tmps)=true)∧St c ops (fun a' w'=>∃ e' h',Kn c.n c.ds a' e'∧Holds w' h'∧Same c.w0 w'∧(pre k=true→Sub hC h→Sub hC h')∧DrL c ops pre hC K v e' h') [o] e h)
 | .pure i t,e,h=>∃ o v,ops[i]? = some o∧(∀ a,Kn c.n c.ds a e→YieldsH c ops [] o v a)∧∃ e',(∀ a,Kn c.n c.ds a e→Kn c.n c.ds (a.put o.dst v) e')∧DrL c ops pre hC K t e' h

theorem opH_of_eff {i:Nat} {e:Env} {h:SH} {a:Act} {N:Act→SH→Prop} {L:Env→SH→Prop} (hk:Kn c.n c.ds a e)
  (H:∃ o,ops[i]? = some o∧(∀ a,Kn c.n c.ds a e→Region.wanted o (yielded ops a.tmps)=true)∧St c ops (fun a' w'=>∃ e' h',Kn c.n c.ds a' e'∧Holds w' h'∧Same c.w0 w'∧(pre i=true→Sub hC h→Sub hC h')∧L e' h') [o] e h)
  (hN:∀ a' e' h',Kn c.n c.ds a' e'→L e' h'→N a' h'):opH c ops pre hC i N a h:=by
 obtain ⟨o,ho,hwant,hs⟩:=H
 unfold opH
 simp only [ho]
 rw [if_pos (hwant a hk)]
 intro w h1 h2
 have h3:=hs a w hk h1 h2
 unfold LsW at h3
 rw [if_pos (hwant a hk)] at h3
 exact OpV.mono (fun v w' ⟨e',h',k1,k2,k3,k4,k5⟩=>⟨h',k2,k3,k4,hN _ e' h' k1 k5⟩) h3

theorem DrL.any {M : Array Nat} (hsel : noSelDef ops = true) (hM : tbOk ops M = true) : ∀ (p : Ord) (listed : Array Bool) (e : Env) (h : SH) (a : Act), listed.size = ops.size → Closed ops listed → okPi ops pre M p listed = true →
  DrL c ops pre hC K p e h→Kn c.n c.ds a e→AnyH c ops pre hC K p.length listed a h
 | .nil,listed,e,h,a,_,_,hB,H,hk=>⟨by simpa [okPi] using hB,fun w h1 h2=>H a w hk h1 h2⟩
 | .cons (i,true) t,listed,e,h,a,hsz,hcl,hB,H,hk=>by
  simp only [okPi,Bool.and_eq_true] at hB
  obtain ⟨⟨⟨⟨hr,hf⟩,hp⟩,hd⟩,hB'⟩:=hB
  obtain ⟨hsub,o,v,ho,hy,e',he',hn⟩:=H
  have hr':i∈Region.ready .any ops listed:=by simpa using hr
  have hilt:i<ops.size:=(Array.getElem?_eq_some_iff.1 ho).1
  refine anyH_first (.inl rfl) ho (noSelDef_spec hsel) t.length listed a h hcl hsub (Region.free_spec ho hf) (.inr fun j hji hun hpj=>?_) hr' (hy a hk)
   (DrL.any hsel hM t _ e' h _ (by simpa using hsz) (hcl.set hr') hB' hn (he' a hk))
  have hjlt:j<ops.size:=by
   rcases Nat.lt_or_ge j ops.size with h' | h'
   ·exact h'
   ·rw [← hsz] at h'; simp [Array.getElem?_eq_none h'] at hun
  have h1:=List.all_eq_true.1 hd j (List.mem_range.2 hjlt)
  simp only [Bool.or_eq_true,beq_iff_eq,hji,hun,hpj,Bool.false_eq_true,or_false,false_or] at h1
  exact tbOk_dep hM j i hjlt hilt h1
 | .cons (i,false) t,listed,e,h,a,hsz,hcl,hB,H,hk=>by
  simp only [okPi,Bool.and_eq_true,decide_eq_true_eq] at hB
  obtain ⟨hr,hB'⟩:=hB
  refine ⟨fun h0=>(by rw [hr] at h0; cases h0),fun j hj=>?_⟩
  rw [hr] at hj
  have hji:j=i:=by simpa using hj
  subst hji
  have hrj:j∈Region.ready .any ops listed:=by rw [hr]; simp
  exact opH_of_eff hk H fun a' e' h' k1 k2=>DrL.any hsel hM t _ e' h' a' (by simpa using hsz) (hcl.set hrj) hB' k2 k1
 | .two i t k u,listed,e,h,a,hsz,hcl,hB,H,hk=>by
  simp only [okPi,Bool.and_eq_true,decide_eq_true_eq] at hB
  obtain ⟨⟨⟨hr,hlen⟩,hB1⟩,hB2⟩:=hB
  refine ⟨fun h0=>(by rw [hr] at h0; cases h0),fun j hj=>?_⟩
  have hrj:=hj
  rw [hr] at hj
  have hji:j=i∨j=k:=by simpa using hj
  rcases hji with e' | e'
  ·subst e'
   exact opH_of_eff hk H.1 fun a' e' h' k1 k2=>DrL.any hsel hM t _ e' h' a' (by simpa using hsz) (hcl.set hrj) hB1 k2 k1
  ·subst e'
   refine opH_of_eff hk H.2 fun a' e' h' k1 k2=>?_
   have:=DrL.any hsel hM u _ e' h' a' (by simpa using hsz) (hcl.set hrj) hB2 k2 k1
   rw [← hlen] at this
   exact this
 | .three i t k u l v,listed,e,h,a,hsz,hcl,hB,H,hk=>by
  simp only [okPi,Bool.and_eq_true,decide_eq_true_eq] at hB
  obtain ⟨⟨⟨⟨⟨hr,hlen⟩,hlen2⟩,hB1⟩,hB2⟩,hB3⟩:=hB
  refine ⟨fun h0=>(by rw [hr] at h0; cases h0),fun j hj=>?_⟩
  have hrj:=hj
  rw [hr] at hj
  have hji:j=i∨j=k∨j=l:=by simpa using hj
  rcases hji with e' | e' | e'
  ·subst e'
   exact opH_of_eff hk H.1 fun a' e' h' k1 k2=>DrL.any hsel hM t _ e' h' a' (by simpa using hsz) (hcl.set hrj) hB1 k2 k1
  ·subst e'
   refine opH_of_eff hk H.2.1 fun a' e' h' k1 k2=>?_
   have:=DrL.any hsel hM u _ e' h' a' (by simpa using hsz) (hcl.set hrj) hB2 k2 k1
   rw [← hlen] at this
   exact this
  ·subst e'
   refine opH_of_eff hk H.2.2 fun a' e' h' k1 k2=>?_
   have:=DrL.any hsel hM v _ e' h' a' (by simpa using hsz) (hcl.set hrj) hB3 k2 k1
   rw [← hlen2] at this
   exact this
 | .pure i t,listed,e,h,a,hsz,hcl,hB,H,hk=>by
  simp only [okPi,Bool.and_eq_true] at hB
  obtain ⟨⟨hr,hf⟩,hB'⟩:=hB
  obtain ⟨o,v,ho,hy,e',he',hn⟩:=H
  have hr':i∈Region.ready .any ops listed:=by simpa using hr
  exact anyH_first (.inr rfl) ho (noSelDef_spec hsel) t.length listed a h hcl (Sub.nil _) (Region.free_spec ho hf) (.inl rfl) hr' (hy a hk)
   (DrL.any hsel hM t _ e' h _ (by simpa using hsz) (hcl.set hr') hB' hn (he' a hk))
theorem cd_draw {c:Cx} {id:Nat} {l:List Oper} {Q:Exit→Act→World→Prop} {e:Env} {h:SH} (p:Ord) (pre:Nat→Bool) (hC:SH) (hm:c.P.follows .mixedOrders=true)
  (hB:(noSelDef l.toArray && tbOk l.toArray (Region.before l.toArray) && okPi l.toArray pre (Region.before l.toArray) p (Array.replicate l.toArray.size false) && decide (p.length=l.toArray.size))=true)
  (hd:DrL c l.toArray pre hC (Q .normal) p e h):Cd c (.region id l.toArray true) Q e h:=fun a w hk hh hw=>by
 simp only [Bool.and_eq_true,decide_eq_true_eq] at hB
 obtain ⟨⟨⟨h1,h2⟩,h3⟩,h4⟩:=hB
 refine wpIn_region_any hm ?_
 rw [← h4]
 have hcl:Closed l.toArray (Array.replicate l.toArray.size false):=fun j o _ hl=>by rw [getD_falses] at hl; cases hl
 have hany:=DrL.any h1 h2 p _ e h a (by simp) hcl h3 hd hk
 rw [h4] at hany ⊢
 exact AnyH.wp (fun _ _ hq=>hq) _ _ _ _ _ hany (Holds.grew hh (Grew.drawn w _)) (hw.trans (Grew.drawn w _).toSame)

/-! ### The steps of such a walk -/
variable {e:Env} {h:SH} {t:Ord}
theorem dr_nil (hn:Nx c K e h):DrL c ops pre hC K .nil e h:=hn
theorem dr_val {i d:Nat} {op:Op} {ty:TypeId} {pos:String} {after:Array Edge} {v:Value} (hi:ops[i]? = some ⟨some d,op,ty,pos,after,none⟩) (hs:Sub hC h) (hv:Vop c.P e hC op ty v) (hd:d<c.n)
  (hn:DrL c ops pre hC K t ((d,v)::e) h):DrL c ops pre hC K (.cons (i,true) t) e h :=
 ⟨hs,_,v,hi,fun a hk=>.inl ⟨by simp [Region.wanted],fun x w h1 h2=>by
  unfold OpV
  rw [Oper.semAt_eq _ _ _ hv.1,hv.2.2 a.eval w _ _ _ _ hk.evs (HoldsF.append.1 h1).1]
  exact ⟨rfl,h1,h2⟩⟩,_,fun a hk=>hk.put v hd,hn⟩
theorem yields_guard {g gd:Nat} {b:Bool} (hg:((ops[g]?).bind (·.dst))=some gd) (hgv:e.get? gd=some (.bool b)) {n:Nat} {ds:List Deferred} {a:Act} (hk:Kn n ds a e):yielded ops a.tmps g=some b:=by
 unfold yielded
 cases ho:ops[g]? with
 | none=>simp [ho] at hg
 | some o=>simp only [ho,Option.bind_some] at hg; simp [hg,hk.get gd _ hgv]
theorem dr_valg {i d g gd:Nat} {op:Op} {ty:TypeId} {pos:String} {after:Array Edge} {v:Value} {want:Bool} (hi:ops[i]? = some ⟨some d,op,ty,pos,after,some (g,want)⟩) (hg:((ops[g]?).bind (·.dst))=some gd) (hgv:e.get? gd=some (.bool want))
  (hs:Sub hC h) (hv:Vop c.P e hC op ty v) (hd:d<c.n)
  (hn:DrL c ops pre hC K t ((d,v)::e) h):DrL c ops pre hC K (.cons (i,true) t) e h :=
 ⟨hs,_,v,hi,fun a hk=>.inl ⟨by simp [Region.wanted,yields_guard hg hgv hk],fun x w h1 h2=>by
  unfold OpV
  rw [Oper.semAt_eq _ _ _ hv.1,hv.2.2 a.eval w _ _ _ _ hk.evs (HoldsF.append.1 h1).1]
  exact ⟨rfl,h1,h2⟩⟩,_,fun a hk=>hk.put v hd,hn⟩
theorem dr_skip {i d g gd:Nat} {op:Op} {ty:TypeId} {pos:String} {after:Array Edge} {want b:Bool} (hi:ops[i]? = some ⟨some d,op,ty,pos,after,some (g,want)⟩) (hg:((ops[g]?).bind (·.dst))=some gd) (hgv:e.get? gd=some (.bool b)) (hb:b = !want)
  (hs:Sub hC h) (hd:d<c.n) (hn:DrL c ops pre hC K t ((d,undef)::e) h):DrL c ops pre hC K (.cons (i,true) t) e h :=
 ⟨hs,_,undef,hi,fun a hk=>.inr ⟨by subst hb; cases want <;> simp [Region.wanted,yields_guard hg hgv hk],rfl⟩,_,fun a hk=>hk.put undef hd,hn⟩
/-! Those that look at no block. -/
theorem drp_val {i d:Nat} {op:Op} {ty:TypeId} {pos:String} {after:Array Edge} {v:Value} (hi:ops[i]? = some ⟨some d,op,ty,pos,after,none⟩) (hv:Vop c.P e [] op ty v) (hd:d<c.n)
  (hn:DrL c ops pre hC K t ((d,v)::e) h):DrL c ops pre hC K (.pure i t) e h :=
 ⟨_,v,hi,fun a hk=>.inl ⟨by simp [Region.wanted],fun x w h1 h2=>by
  unfold OpV
  rw [Oper.semAt_eq _ _ _ hv.1,hv.2.2 a.eval w _ _ _ _ hk.evs trivial]
  exact ⟨rfl,h1,h2⟩⟩,_,fun a hk=>hk.put v hd,hn⟩
theorem drp_valg {i d g gd:Nat} {op:Op} {ty:TypeId} {pos:String} {after:Array Edge} {v:Value} {want:Bool} (hi:ops[i]? = some ⟨some d,op,ty,pos,after,some (g,want)⟩) (hg:((ops[g]?).bind (·.dst))=some gd) (hgv:e.get? gd=some (.bool want))
  (hv:Vop c.P e [] op ty v) (hd:d<c.n)
  (hn:DrL c ops pre hC K t ((d,v)::e) h):DrL c ops pre hC K (.pure i t) e h :=
 ⟨_,v,hi,fun a hk=>.inl ⟨by simp [Region.wanted,yields_guard hg hgv hk],fun x w h1 h2=>by
  unfold OpV
  rw [Oper.semAt_eq _ _ _ hv.1,hv.2.2 a.eval w _ _ _ _ hk.evs trivial]
  exact ⟨rfl,h1,h2⟩⟩,_,fun a hk=>hk.put v hd,hn⟩
theorem drp_skip {i d g gd:Nat} {op:Op} {ty:TypeId} {pos:String} {after:Array Edge} {want b:Bool} (hi:ops[i]? = some ⟨some d,op,ty,pos,after,some (g,want)⟩) (hg:((ops[g]?).bind (·.dst))=some gd) (hgv:e.get? gd=some (.bool b)) (hb:b = !want)
  (hd:d<c.n) (hn:DrL c ops pre hC K t ((d,undef)::e) h):DrL c ops pre hC K (.pure i t) e h :=
 ⟨_,undef,hi,fun a hk=>.inr ⟨by subst hb; cases want <;> simp [Region.wanted,yields_guard hg hgv hk],rfl⟩,_,fun a hk=>hk.put undef hd,hn⟩
theorem yields_call {f:Operand} {az:Array Operand} {ts:Array TypeId} {ty:TypeId} {pos:String} {after:Array Edge} {d:Option Nat} {gu:Option (Nat×Bool)} {k:FuncId} {fi cp:Array Value} {vs:List Value} {args:Array Value} {hf hr:SH} {v:Value}
  (hv:e.ev? f=some (.func (.func k) fi cp)) (has:az.toList.mapM e.ev? = some vs) (hE:Enters c.P k) (ha:fi++vs.toArray++cp=args) (ct:Reads c.P k args hf v) (pk:Pk hC hf hr) {a:Act} (hk:Kn c.n c.ds a e)
  (hw:Region.wanted ⟨d,.call { callee:=.value f,args:=az,argTypes:=ts },ty,pos,after,gu⟩ (yielded ops a.tmps)=true) :
  YieldsH c ops hC ⟨d,.call { callee:=.value f,args:=az,argTypes:=ts },ty,pos,after,gu⟩ v a :=
 .inl ⟨hw,fun x w h1 h2=>by
  unfold OpV
  rw [Oper.semAt_eq _ _ _ (by simp),run_call hv has hE ha hk.evs]
  have hp:(hC++x).Perm (hf++(hr++x)):=(pk.perm.append_right x).trans (by rw [List.append_assoc])
  exact (ct (hr++x) w (h1.perm hp)).mono fun _ w' ⟨u,h',he,⟨hu,hh'⟩,hH,hS⟩=>⟨u,he,hu,by subst hh'; exact hH.perm hp.symm,h2.trans hS⟩⟩
theorem dr_call {i d:Nat} {f:Operand} {az:Array Operand} {ts:Array TypeId} {ty:TypeId} {pos:String} {after:Array Edge} {k:FuncId} {fi cp:Array Value} {vs:List Value} {args:Array Value} {hf hr:SH} {v:Value}
  (hi:ops[i]? = some ⟨some d,.call { callee:=.value f,args:=az,argTypes:=ts },ty,pos,after,none⟩) (hs:Sub hC h)
  (hv:e.ev? f=some (.func (.func k) fi cp)) (has:az.toList.mapM e.ev? = some vs) (hE:Enters c.P k) (ha:fi++vs.toArray++cp=args) (ct:Reads c.P k args hf v) (pk:Pk hC hf hr) (hd:d<c.n)
  (hn:DrL c ops pre hC K t ((d,v)::e) h):DrL c ops pre hC K (.cons (i,true) t) e h :=
 ⟨hs,_,v,hi,fun _ hk=>yields_call hv has hE ha ct pk hk (by simp [Region.wanted]),_,fun _ hk=>hk.put v hd,hn⟩
theorem dr_callg {i d g gd:Nat} {f:Operand} {az:Array Operand} {ts:Array TypeId} {ty:TypeId} {pos:String} {after:Array Edge} {k:FuncId} {fi cp:Array Value} {vs:List Value} {args:Array Value} {hf hr:SH} {v:Value} {want:Bool}
  (hi:ops[i]? = some ⟨some d,.call { callee:=.value f,args:=az,argTypes:=ts },ty,pos,after,some (g,want)⟩) (hg:((ops[g]?).bind (·.dst))=some gd) (hgv:e.get? gd=some (.bool want)) (hs:Sub hC h)
  (hv:e.ev? f=some (.func (.func k) fi cp)) (has:az.toList.mapM e.ev? = some vs) (hE:Enters c.P k) (ha:fi++vs.toArray++cp=args) (ct:Reads c.P k args hf v) (pk:Pk hC hf hr) (hd:d<c.n)
  (hn:DrL c ops pre hC K t ((d,v)::e) h):DrL c ops pre hC K (.cons (i,true) t) e h :=
 ⟨hs,_,v,hi,fun _ hk=>yields_call hv has hE ha ct pk hk (by simp [Region.wanted,yields_guard hg hgv hk]),_,fun _ hk=>hk.put v hd,hn⟩
def EffK (c:Cx) (ops:Array Oper) (pre:Nat→Bool) (hC:SH) (K:Act→World→Prop) (i:Nat) (t:Ord) (h:SH) (a':Act) (w':World):Prop :=
 ∃ e' h',Kn c.n c.ds a' e'∧Holds w' h'∧Same c.w0 w'∧(pre i=true→Sub hC h→Sub hC h')∧DrL c ops pre hC K t e' h'
theorem dr_eff {i:Nat} {d:Option Nat} {op:Op} {ty:TypeId} {pos:String} {after:Array Edge} (hi:ops[i]? = some ⟨d,op,ty,pos,after,none⟩)
  (hn:St c ops (EffK c ops pre hC K i t h) [⟨d,op,ty,pos,after,none⟩] e h):DrL c ops pre hC K (.cons (i,false) t) e h :=
 ⟨_,hi,fun _ _=>by simp [Region.wanted],hn⟩
theorem dr_nextR {i:Nat} {h0:SH} (hs:pre i=true→Sub hC h0→Sub hC h) (hn:DrL c ops pre hC K t e h):St c ops (EffK c ops pre hC K i t h0) [] e h :=
 fun _ _ hk hh hw=>⟨e,h,hk,hh,hw,hs,hn⟩
theorem dr_two {i j:Nat} {t u:Ord} {d d':Option Nat} {op op':Op} {ty ty':TypeId} {pos pos':String} {after after':Array Edge} (hi:ops[i]? = some ⟨d,op,ty,pos,after,none⟩) (hj:ops[j]? = some ⟨d',op',ty',pos',after',none⟩)
  (h1:St c ops (EffK c ops pre hC K i t h) [⟨d,op,ty,pos,after,none⟩] e h) (h2:St c ops (EffK c ops pre hC K j u h) [⟨d',op',ty',pos',after',none⟩] e h):DrL c ops pre hC K (.two i t j u) e h :=
 ⟨⟨_,hi,fun _ _=>by simp [Region.wanted],h1⟩,⟨_,hj,fun _ _=>by simp [Region.wanted],h2⟩⟩
theorem DrL.weaken {e' : Env} (hs : Env.sub e' e) (hn : DrL c ops pre hC K t e' h) : DrL c ops pre hC K t e h := by
 cases t with
 | nil=>exact Nx.weaken hs hn
 | cons p t =>
  obtain ⟨i,b⟩:=p
  cases b with
  | true =>
   obtain ⟨h1,o,v,h2,h3,e2,h4,h5⟩:=hn
   exact ⟨h1,o,v,h2,fun a hk=>h3 a (hk.weaken hs),e2,fun a hk=>h4 a (hk.weaken hs),h5⟩
  | false =>
   obtain ⟨o,h1,h2,h3⟩:=hn
   exact ⟨o,h1,fun a hk=>h2 a (hk.weaken hs),fun a w hk hh hw=>h3 a w (hk.weaken hs) hh hw⟩
 | two i t j u =>
  obtain ⟨⟨o,h1,h2,h3⟩,⟨o',h4,h5,h6⟩⟩:=hn
  exact ⟨⟨o,h1,fun a hk=>h2 a (hk.weaken hs),fun a w hk hh hw=>h3 a w (hk.weaken hs) hh hw⟩,⟨o',h4,fun a hk=>h5 a (hk.weaken hs),fun a w hk hh hw=>h6 a w (hk.weaken hs) hh hw⟩⟩
 | three i t j u k v =>
  obtain ⟨⟨o,h1,h2,h3⟩,⟨o',h4,h5,h6⟩,⟨o'',h7,h8,h9⟩⟩:=hn
  exact ⟨⟨o,h1,fun a hk=>h2 a (hk.weaken hs),fun a w hk hh hw=>h3 a w (hk.weaken hs) hh hw⟩,⟨o',h4,fun a hk=>h5 a (hk.weaken hs),fun a w hk hh hw=>h6 a w (hk.weaken hs) hh hw⟩,⟨o'',h7,fun a hk=>h8 a (hk.weaken hs),fun a w hk hh hw=>h9 a w (hk.weaken hs) hh hw⟩⟩
 | pure i t =>
  obtain ⟨o,v,h2,h3,e2,h4,h5⟩:=hn
  exact ⟨o,v,h2,fun a hk=>h3 a (hk.weaken hs),e2,fun a hk=>h4 a (hk.weaken hs),h5⟩
end
theorem cd_drawh {c:Cx} {id:Nat} {l:List Oper} {Q:Exit→Act→World→Prop} {e:Env} {h:SH} (p:Ord) (pre:Nat→Bool) (hm:c.P.follows .mixedOrders=true)
  (hB:(noSelDef l.toArray && tbOk l.toArray (Region.before l.toArray) && okPi l.toArray pre (Region.before l.toArray) p (Array.replicate l.toArray.size false) && decide (p.length=l.toArray.size))=true)
  (hd:DrL c l.toArray pre h (Q .normal) p e h):Cd c (.region id l.toArray true) Q e h:=cd_draw p pre h hm hB hd
def allR':Nat→Nat→Ord
 | _,0=>.nil
 | i,n+1=>.cons (i,true) (allR' (i+1) n)
def allR (n:Nat):Ord:=allR' 0 n
end Go.Ck
namespace Go.Ck
open Go Go.RowKit

def Inf (P:Program) (E:TypeId) (z:Value) (sz bytes:Nat):Prop:=(P.info? E).map (fun i=>(i.zero,i.size,i.bytes))=some (some z,sz,bytes)
theorem Inf.parts {P:Program} {E:TypeId} {z:Value} {sz bytes:Nat} (h:Inf P E z sz bytes):∃ i,P.info? E=some i∧i.zero=some z∧i.size=sz∧i.bytes=bytes:=by
 unfold Inf at h
 cases hi:P.info? E with
 | none=>rw [hi] at h; cases h
 | some i=>rw [hi] at h; simp at h; exact ⟨i,rfl,h.1,h.2.1,h.2.2⟩
theorem Inf.sz {P:Program} {E:TypeId} {z:Value} {sz bytes:Nat} (h:Inf P E z sz bytes):Sz P E sz:=by
 obtain ⟨i,hi,_,hs,_⟩:=h.parts
 exact Sz.of hi hs

def ints (l:List Int):List Value:=l.map (Value.int .i64)
def bools (l:List Bool):List Value:=l.map Value.bool
theorem ints_length (l:List Int):(ints l).length=l.length:=by simp [ints]
theorem bools_length (l:List Bool):(bools l).length=l.length:=by simp [bools]
theorem run_buildSlice' {P:Program} (w:World) (t e:TypeId) (len:Nat) (parts:Array (Nat×Value)) (cells:Array Value) (ie:TypeInfo) (z:Value)
  (hu:P.underlying t=some (.slice e)) (hie:P.info? e=some ie) (hz:ie.zero=some z) (hsmall:¬ len * ie.size>2 ^ 24) (hpos:¬ len * ie.size=0)
  (h:Instr.fill (fun i=>some (i * ie.size,ie.size)) ((Array.range (len * ie.size)).map (z.cells[· % z.cells.size]!)) parts.toList=some cells) :
  (Instr.buildSlice t len parts).run P w = .ok (.slice (some ⟨w.heap.size,0,none⟩) len len) (w.alloc (.cells cells e)):=by
 simp [Instr.buildSlice,run_underlying hu,sizeOf,typeInfo,zeroValue,hie,hz,hsmall,hpos,h,newRow]

section
variable {c:Cx} {ops:Array Oper} {K:Act→World→Prop} {rest:List Oper} {e:Env} {h h' hr:SH}

theorem st_buildSlice {d : Nat} {T E ty : TypeId} {len : Nat} {parts : Array (Nat × Operand)} {pos : String} {after : Array Edge} {z : Value} {sz bytes : Nat} {vs : List Value} {cells : List Value}
  (hvs:parts.toList.mapM (fun p=>e.ev? p.2)=some vs) (hT:c.P.underlying T=some (.slice E)) (hE:Inf c.P E z sz bytes) (hs1:Nat.ble (len * sz) 16777216=true) (hs2:Nat.beq (len * sz) 0=false)
  (hf:Instr.fill (fun i=>some (i * sz,sz)) ((Array.range (len * sz)).map (z.cells[· % z.cells.size]!)) ((parts.toList.map (·.1)).zip vs)=some cells.toArray) (hd:d<c.n)
  (hnx:∀ b,St c ops K rest ((d,.slice (some ⟨b,0,none⟩) len len)::e) (pt b (cl cells E)::h)) :
  St c ops K (⟨some d,.buildSlice T len parts,ty,pos,after,none⟩::rest) e h :=
 st_any (by simp) fun a w hk hh hs => by
  obtain ⟨ie,h1,h2,h3,h4⟩:=hE.parts
  have hmap:∀ (l:List (Nat×Operand)) (vs:List Value),l.mapM (fun p=>e.ev? p.2)=some vs→(l.map fun p=>(p.1,a.eval p.2))=(l.map (·.1)).zip vs:=by
   intro l
   induction l with
   | nil=>intro vs hv; simp at hv; subst hv; rfl
   | cons p t ih =>
    intro vs hv
    simp only [List.mapM_cons,Option.bind_eq_bind,Option.bind_eq_some_iff,Option.pure_def,Option.some.injEq] at hv
    obtain ⟨u,hu,us,hus,rfl⟩:=hv
    simp [hk.ev hu,ih us hus]
  have hpl:(parts.map fun (i,x)=>(i,a.eval x)).toList=(parts.toList.map (·.1)).zip vs:=by
   rw [← hmap parts.toList vs hvs]; simp
  have:=run_buildSlice' (P:=c.P) w T E len (parts.map fun (i,x)=>(i,a.eval x)) cells.toArray ie z hT h1 h2 (by rw [h3]; have:=Nat.le_of_ble_eq_true hs1; omega)
   (by rw [h3]; intro h0; rw [h0] at hs2; cases hs2) (by rw [h3,hpl]; exact hf)
  simp only [execOp,Sem.run_bind,this,Result.andThen_ok,Sem.run_pure]
  exact hnx _ _ _ (hk.put _ hd) (Holds.alloc hh _) (hs.trans (Grew.alloc _ _ rfl).toSame)

/-! ## A row that grows -/
def vec (v:Value) (E:TypeId) (sz n:Nat) (l:List Value):Res where
 dom b:=∃ m cp,v = .slice (some ⟨b,0,none⟩) m cp
 ok f:=l.length=n * sz∧((v = .slice none 0 0∧n=0)∨∃ b cp j,v = .slice (some ⟨b,0,none⟩) n cp∧f b=some (cl (l++j) E)∧n≤cp∧cp≤maxLen∧(l++j).length=cp * sz)
 loc f g he:=fun ⟨h1,h2⟩=>⟨h1,h2.imp id fun ⟨b,cp,j,hv,hb,hr⟩=>⟨b,cp,j,hv,by rw [← he b ⟨n,cp,hv⟩]; exact hb,hr⟩⟩
 pres f:=fun ⟨_,h2⟩ b ⟨m,cp,hv⟩=>by
  rcases h2 with ⟨h3,_⟩ | ⟨b',cp',j,h3,hb,_⟩
  ·rw [h3] at hv; cases hv
  ·rw [h3] at hv; cases hv; rw [hb]; rfl
end
end Go.Ck
namespace Go.Ck
open Go Go.RowKit

section
variable {P:Program} {e:Env} {h h':SH} {ty:TypeId}
def PtT (P:Program) (T E:TypeId):Prop:=P.underlying T=some (.pointer E)
theorem v_eql_slice_nil {T E t':TypeId} {x y:Operand} {a:Option Addr} {n cp:Nat} (hx:e.ev? x=some (.slice a n cp)) (hy:e.ev? y=some (.slice none 0 0)) (hT:P.underlying T=some (.slice E)):Vop P e h (.binOp .eql T x y t') ty (.bool a.isNone):=
 ⟨by simp,by simp,fun ρ w d pos after g hρ _=>by
  have hq:∀ k,(Op.equalIn (k+1) T (.slice a n cp) (.slice none 0 0)).run P w = .ok a.isNone w:=fun k=>by cases a <;> simp [Op.equalIn,run_underlying hT]
  simp [execOp,hρ x _ hx,hρ y _ hy,eqGuard_at_slice,binOp,Op.equal,Op.maxDepth,hq 9999]⟩
theorem v_neq_slice_nil {T E t':TypeId} {x y:Operand} {a:Option Addr} {n cp:Nat} (hx:e.ev? x=some (.slice a n cp)) (hy:e.ev? y=some (.slice none 0 0)) (hT:P.underlying T=some (.slice E)):Vop P e h (.binOp .neq T x y t') ty (.bool (!a.isNone)):=
 ⟨by simp,by simp,fun ρ w d pos after g hρ _=>by
  have hq:∀ k,(Op.equalIn (k+1) T (.slice a n cp) (.slice none 0 0)).run P w = .ok a.isNone w:=fun k=>by cases a <;> simp [Op.equalIn,run_underlying hT]
  simp [execOp,hρ x _ hx,hρ y _ hy,eqGuard_at_slice,binOp,Op.equal,Op.maxDepth,hq 9999]⟩
end

/-! ## A part of a row is written -/
theorem Holds.setRow {w:World} {b:Nat} {l:List Value} {T:TypeId} {k:SH} (hh:Holds w (pt b (cl l T)::k)) (l':List Value):Holds (w.setRow b l'.toArray) (pt b (cl l' T)::k):=
 Holds.modify hh (setRow_heap w b l.toArray l'.toArray T (0,0) hh.1) fun _ hc=>setRow_other w b _ _ hc
theorem Same.setRow (w:World) (b:Nat) (cs:Array Value) {l:List Value} {T:TypeId} (hb:w.heap[b]? = some (cl l T)):Same w (w.setRow b cs):=⟨rfl,rfl,rfl,by simp,fz_one (b:=b) (fun o ho=>by rw [hb] at ho; cases ho; rfl) (fun o ho=>by rw [setRow_heap w b l.toArray cs T (0,0) hb] at ho; cases ho; rfl) fun c hc=>setRow_other w b c _ hc⟩
def splice (l:List Value) (o:Nat) (vs:List Value):List Value:=l.take o++vs++l.drop (o+vs.length)

section
variable {c:Cx} {ops:Array Oper} {K:Act→World→Prop} {rest:List Oper} {e:Env} {h h' hr:SH}
end

/-! ## Maps from numbers -/
def menc (m:List (Int×Value)):List (Value×Value):=m.map fun p=>(.int .i64 p.1,p.2)
def mlook (m:List (Int×Value)) (k:Int):Option Value:=(m.find? (·.1 == k)).map (·.2)
def mupd:List (Int×Value)→Int→Value→List (Int×Value)
 | [],k,v=>[(k,v)]
 | p::t,k,v=>if p.1=k then (k,v)::t else p::mupd t k v
def Brn (es:Array MapEntry) (ck:Nat) (m:List (Int×Value)):Prop:=(∀ x∈es.toList,x.born<ck)∧(es.toList.map (·.born)).Nodup∧(m.map (·.1)).Nodup
def mpr (b:Nat) (m:List (Int×Value)):Res where
 dom:=(· = b)
 ok f:=∃ es ck,f b=some (.map es ck)∧es.toList.map (fun x=>(x.key,x.val))=menc m∧Brn es ck m
 loc f g he:=fun ⟨es,ck,h1,h2⟩=>⟨es,ck,by rw [← he b rfl]; exact h1,h2⟩
 pres f:=fun ⟨es,ck,h1,_⟩ b' hb=>by rw [hb,h1]; rfl

def mfind (m:List (Int×Value)) (k:Int):Option (Nat×Value):=(m.findIdx? (·.1 == k)).bind fun j=>(mlook m k).map fun v=>(j,v)
end Go.Ck
namespace Go.Ck
open Go Go.RowKit

theorem modify_born (f:MapEntry→MapEntry):∀ (l:List MapEntry) (j:Nat),(∀ x,(f x).born=x.born)→(l.modify j f).map (·.born)=l.map (·.born)
 | [],_,_=>by simp
 | x::t,0,h=>by simp [List.modify,h]
 | x::t,j+1,h=>by simp only [List.modify_succ_cons,List.map_cons,modify_born f t j h]
def MpT (P:Program) (T K E:TypeId):Prop:=P.underlying T=some (.map K E)∧P.underlying K=some (.int .i64)

section
variable {P:Program} {e:Env} {h h':SH} {ty:TypeId}
theorem run_getObj_map {w:World} {b:Nat} {es:Array MapEntry} {ck:Nat} (hb:w.heap[b]? = some (.map es ck)):(getObj b).run P w = .ok (.map es ck) w:=by simp [getObj,Sem.run,hb]
end

section
variable {c:Cx} {ops:Array Oper} {K:Act→World→Prop} {rest:List Oper} {e:Env} {h h' hr:SH}
theorem putObj_other (w:World) (b k:Nat) (o:Obj) (hk:k≠b):({ w with heap:=w.heap.setIfInBounds b o }:World).heap[k]? = w.heap[k]? := by
 simp [Array.getElem?_setIfInBounds_ne (Ne.symm hk)]
end

section
variable {P:Program} {e:Env} {h h':SH} {ty:TypeId}
theorem v_build {T : TypeId} {parts : Array (Nat × Operand)} {vs cells : List Value} (hvs : parts.toList.mapM (fun p => e.ev? p.2) = some vs)
  (hb:∀ w,(Instr.build T ((parts.toList.map (·.1)).zip vs).toArray).run P w = .ok (.agg cells.toArray) w):Vop P e h (.build T parts) ty (.agg cells.toArray):=
 ⟨by simp, by simp, fun ρ w d pos after g hρ _ => by
  have hmap:∀ (l:List (Nat×Operand)) (vs:List Value),l.mapM (fun p=>e.ev? p.2)=some vs→(l.map fun p=>(p.1,ρ p.2))=(l.map (·.1)).zip vs:=by
   intro l
   induction l with
   | nil=>intro vs hv; simp at hv; subst hv; rfl
   | cons p t ih =>
    intro vs hv
    simp only [List.mapM_cons,Option.bind_eq_bind,Option.bind_eq_some_iff,Option.pure_def,Option.some.injEq] at hv
    obtain ⟨u,hu,us,hus,rfl⟩:=hv
    simp [hρ _ u hu,ih us hus]
  have hpl:(parts.map fun (i,x)=>(i,ρ x))=((parts.toList.map (·.1)).zip vs).toArray:=by
   rw [← hmap parts.toList vs hvs]
   apply Array.toList_inj.1; simp
  simp only [execOp,hpl,Sem.run_bind,hb w,Result.andThen_ok,Sem.run_pure]⟩
end

/-! ## Guards: what is walked in two ways, and joined -/
def SSub (e' e:Env):Prop:=∀ i v,e'.get? i=some v→e.get? i=some v
theorem uR {e:Env}:SSub e e:=fun _ _ h=>h
theorem uH {e e':Env} {d:Nat} {u v:Value} (hv:u=v) (h:SSub e e'):SSub ((d,u)::e) ((d,v)::e'):=fun i x hx=>by
 subst hv
 by_cases hd:d=i
 ·subst hd; simpa [Env.get?] using hx
 ·simp only [Env.get?,beq_ne hd,cond_false] at hx ⊢; exact h i x hx
theorem uS {e e':Env} {d:Nat} {v:Value} (hn:e.get? d=none) (h:SSub e e'):SSub e ((d,v)::e'):=fun i x hx=>by
 by_cases hd:d=i
 ·subst hd; rw [hn] at hx; cases hx
 ·simp only [Env.get?,beq_ne hd,cond_false]; exact h i x hx
theorem Kn.ssub {n:Nat} {ds:List Deferred} {a:Act} {e e':Env} (h:Kn n ds a e) (hs:SSub e' e):Kn n ds a e':=⟨h.size,h.defers,fun i v hi=>h.get i v (hs i v hi)⟩
theorem bool_want {p:Prop} {b:Bool} (want:Bool) (h1:b = !want→p) (h2:b=want→p):p:=by
 cases b <;> cases want <;> first | exact h1 rfl | exact h2 rfl
theorem bG {e:Env} {g:Nat} {b want:Bool} (hg:e.get? g=some (.bool b)) (h:b=want):e.get? g=some (.bool want):=h ▸ hg
theorem bO {e:Env} {g:Operand} {b want:Bool} (hg:e.ev? g=some (.bool b)) (h:b=want):e.ev? g=some (.bool want):=h ▸ hg
section
variable {c:Cx} {K:Act→World→Prop} {rest:List Oper} {e:Env} {h hC:SH} {pre:Nat→Bool}
theorem st_cut {l:List Oper} {k d:Nat} {v:Value} (h2:(∀ e2,SSub ((d,v)::e) e2→St c l.toArray K (l.drop k) e2 h)→St c l.toArray K rest e h) (h1:St c l.toArray K (l.drop k) ((d,v)::e) h):St c l.toArray K rest e h :=
 h2 fun _ hs a w hk hh hw=>h1 a w (hk.ssub hs) hh hw
def Ord.drop:Nat→Ord→Ord
 | 0,t=>t
 | n+1,.cons _ t=>Ord.drop n t
 | n+1,.pure _ t=>Ord.drop n t
 | _,t=>t
theorem DrL.ssub {ops : Array Oper} {t : Ord} {e' : Env} (hs : SSub e' e) (hn : DrL c ops pre hC K t e' h) : DrL c ops pre hC K t e h := by
 cases t with
 | nil=>exact fun a w hk hh hw=>hn a w (hk.ssub hs) hh hw
 | cons p t =>
  obtain ⟨i,b⟩:=p
  cases b with
  | true =>
   obtain ⟨h1,o,v,h2,h3,e2,h4,h5⟩:=hn
   exact ⟨h1,o,v,h2,fun a hk=>h3 a (hk.ssub hs),e2,fun a hk=>h4 a (hk.ssub hs),h5⟩
  | false =>
   obtain ⟨o,h1,h2,h3⟩:=hn
   exact ⟨o,h1,fun a hk=>h2 a (hk.ssub hs),fun a w hk hh hw=>h3 a w (hk.ssub hs) hh hw⟩
 | two i t j u =>
  obtain ⟨⟨o,h1,h2,h3⟩,⟨o',h4,h5,h6⟩⟩:=hn
  exact ⟨⟨o,h1,fun a hk=>h2 a (hk.ssub hs),fun a w hk hh hw=>h3 a w (hk.ssub hs) hh hw⟩,⟨o',h4,fun a hk=>h5 a (hk.ssub hs),fun a w hk hh hw=>h6 a w (hk.ssub hs) hh hw⟩⟩
 | three i t j u k v =>
  obtain ⟨⟨o,h1,h2,h3⟩,⟨o',h4,h5,h6⟩,⟨o'',h7,h8,h9⟩⟩:=hn
  exact ⟨⟨o,h1,fun a hk=>h2 a (hk.ssub hs),fun a w hk hh hw=>h3 a w (hk.ssub hs) hh hw⟩,⟨o',h4,fun a hk=>h5 a (hk.ssub hs),fun a w hk hh hw=>h6 a w (hk.ssub hs) hh hw⟩,⟨o'',h7,fun a hk=>h8 a (hk.ssub hs),fun a w hk hh hw=>h9 a w (hk.ssub hs) hh hw⟩⟩
 | pure i t =>
  obtain ⟨o,v,h2,h3,e2,h4,h5⟩:=hn
  exact ⟨o,v,h2,fun a hk=>h3 a (hk.ssub hs),e2,fun a hk=>h4 a (hk.ssub hs),h5⟩
theorem dr_cut {ops:Array Oper} {t:Ord} {k d:Nat} {v:Value} (h2:(∀ e2,SSub ((d,v)::e) e2→DrL c ops pre hC K (t.drop k) e2 h)→DrL c ops pre hC K t e h) (h1:DrL c ops pre hC K (t.drop k) ((d,v)::e) h):DrL c ops pre hC K t e h :=
 h2 fun _ hs=>DrL.ssub hs h1
end
section
variable {P:Program} {e:Env} {h:SH} {ty:TypeId}
end
end Go.Ck
namespace Go.Ck
open Go

def Yc (P:Program) (l:Nat) (args:Array Value) (hf:SH) (R:Value→SH→Prop):Prop :=
 ∀ (hr:SH) (w:World),Holds w (hf++hr)→opUpon P (fun v w'=>∃ h',R v h'∧Holds w' (h'++hr)∧Same w w') ((Instr.yield l args).run P w)
def RQ (w0:World) (hr:SH) (R:Value→SH→Prop) (e:Ending) (w:World):Prop:=∃ v,e = .returned v∧∃ h',R v h'∧Holds w (h'++hr)∧Same w0 w
def Mid (P:Program) (l:Nat) (body:Code) (Q:Exit→Act→World→Prop) (a:Act) (w:World):Prop:=∃ w',(Instr.beginRound l).run P w = .ok () w'∧body.wpIn (Fw (some l)) 0 P Q a w'

theorem Holds.putObj {w:World} {b:Nat} {o:Obj} {h:SH} (hh:Holds w (pt b o::h)) (o':Obj):Holds (w.putObj b o') (pt b o'::h):=by
 have hlt:b<w.heap.size:=Holds.lt hh (.inl rfl)
 exact Holds.modify hh (World.putObj_heap_same hlt) fun c hc=>World.putObj_heap_other hc
theorem Same.putObj (w:World) (b:Nat) (o:Obj) {o':Obj} (hb:w.heap[b]? = some o') (h1:melt o'=true) (h2:melt o=true):Same w (w.putObj b o):=⟨rfl,rfl,rfl,by simp,fz_one (b:=b) (fun q hq=>by rw [hb] at hq; cases hq; exact h1)
 (fun q hq=>by rw [World.putObj_heap_same (Array.getElem?_eq_some_iff.1 hb).1] at hq; cases hq; exact h2) fun c hc=>World.putObj_heap_other hc⟩

def Env.params:List Nat→List Value→Env→Env
 | t::ts,v::vs,e=>Env.params ts vs ((t,v)::e)
 | _,_,e=>e
theorem Kn.params {n:Nat}:∀ (ps:List Nat) (vs:List Value) {tm:Array Value} {e:Env},Kn n [] { tmps:=tm,defers:=[] } e→(∀ p∈ps,p<n) →
  Kn n [] { tmps:=(ps.zip vs).foldl (fun tmps p=>tmps.setIfInBounds p.1 p.2) tm,defers:=[] } (Env.params ps vs e)
 | [],vs,tm,e,hk,_=>by simpa [Env.params] using hk
 | t::ts,[],tm,e,hk,_=>by simpa [Env.params] using hk
 | t::ts,v::vs,tm,e,hk,hn=>by
  have h1:=hk.put (d:=t) v (hn t (by simp))
  simp only [Act.put] at h1
  have:=Kn.params ts vs h1 (fun p hp=>hn p (by simp [hp]))
  simpa [Env.params] using this

theorem yc_of {P:Program} {l n:Nat} {rec:Loop} {args:List Value} {hf:SH} {R:Value→SH→Prop} {e:Env} (hsz:args.length=rec.params.size) (hk:Kn n [] { tmps:=rec.tmps,defers:=[] } e) (hps:∀ p∈rec.params.toList,p<n)
  (hc:∀ (hr:SH) (w0:World),Cd ⟨P,some l,n,[],w0⟩ rec.assign (Exit.then (Mid P l rec.body (roundPost P l (RQ w0 hr R))) (fun _ _ _=>False)) (Env.params rec.params.toList args e) (pt l (.loop rec)::hf++hr)) :
  Yc P l args.toArray (pt l (.loop rec)::hf) R:=fun hr w hh=>by
 have h1:w.heap[l]? = some (.loop rec):=hh.1
 rw [run_yield h1 (by simpa using hsz)]
 have hk':=Kn.params rec.params.toList args hk hps
 have hfold:(rec.params.zip args.toArray).foldl (fun tmps (t,a)=>tmps.setIfInBounds t a) rec.tmps=(rec.params.toList.zip args).foldl (fun tmps p=>tmps.setIfInBounds p.1 p.2) rec.tmps:=by
  rw [← Array.foldl_toList]; simp
 show RoundIn (Fw none) 0 P l rec.fn _ rec.assign rec.body w _
 refine roundIn_of_wpIn trivial ?_
 rw [hfold]
 exact hc hr w _ w hk' hh (Same.refl w)

section
variable {c:Cx} {Q:Exit→Act→World→Prop} {e:Env} {h h' h'':SH} {l:Nat} {rec:Loop}
theorem xt_mid {body:Code} {F:Exit→Act→World→Prop} (hr:c.r=some l) (s:Sel h (pt l (.loop rec)) h') (hst:rec.state = .ready) (hb:Cd c body Q e (pt l (.loop { rec with state:=.busy })::h')) :
  Xt c .normal (Exit.then (Mid c.P l body Q) F) e h:=fun a w hk hh hw=>by
 have hh':=hh.sel s
 refine ⟨_,run_beginRound hh'.1 hst,?_⟩
 have:=hb a _ hk (Holds.putObj hh' _) (hw.trans (Same.putObj w l _ hh'.1 rfl rfl))
 rw [hr] at this
 exact this
theorem xt_round {P:Program} {r:Option Nat} {n:Nat} {w0:World} {hr:SH} {R:Value→SH→Prop} (s:Sel h (pt l (.loop rec)) h') (hR:R (.bool true) h'') (hp:Sub (h''++hr) (pt l (.loop { rec with state:=.ready,pending:=none })::h')) :
  Xt ⟨P,r,n,[],w0⟩ .normal (roundPost P l (RQ w0 hr R)) e h:=fun a w hk hh hw=>by
 have hh':=hh.sel s
 exact ⟨_,_,run_endRound none hh'.1,_,rfl,h'',hR,(Holds.putObj hh' _).sub hp,hw.trans (Same.putObj w l _ hh'.1 rfl rfl)⟩
theorem xt_round_ret {P:Program} {r:Option Nat} {n:Nat} {w0:World} {hr:SH} {R:Value→SH→Prop} (s:Sel h (pt l (.loop rec)) h') (hR:R (.bool false) h'') (hp:Sub (h''++hr) (pt l (.loop { rec with state:=.done,pending:=some .ret })::h')) :
  Xt ⟨P,r,n,[],w0⟩ .ret (roundPost P l (RQ w0 hr R)) e h:=fun a w hk hh hw=>by
 have hh':=hh.sel s
 exact ⟨_,_,run_endRound (some .ret) hh'.1,_,rfl,h'',hR,(Holds.putObj hh' _).sub hp,hw.trans (Same.putObj w l _ hh'.1 rfl rfl)⟩
end

def mk (b:Nat):Deferred:={ target:=.collected b,args := #[] }
def marks (bs:List Nat):SH:=bs.map fun b=>pt b (.deferred (some []))
def rec0 (fn:FuncId) (tm:Array Value) (ps:Array Tmp) (assign body:Code) (db:Nat):Loop:=⟨.ready,none,fn,tm,ps,assign,body,db⟩
theorem cd_range {P : Program} {n : Nat} {ds : List Deferred} {w0 : World} {Q : Exit → Act → World → Prop} {e : Env} {h : SH} {g : Operand} {k : FuncId} {fi cp : Array Value} {ps : Array Tmp} {assign body : Code}
  (hg:e.ev? g=some (.func (.func k) fi cp)) (hE:Enters P k)
  (hct:∀ (l db:Nat) (fn:FuncId) (tm:Array Value),Kn n [] { tmps:=tm,defers:=[] } e →
   ∃ R',Ct P k (fi ++ #[.func (.yield l) #[] #[]]++cp) (pt l (.loop (rec0 fn tm ps assign body db))::pt db (.deferred (some []))::h) R' ∧
    ∀ v h',R' v h'→∃ rec h'',Sel h' (pt l (.loop rec)) h''∧rec.state≠.busy∧(match rec.pending with | none=>Xt ⟨P,none,n,mk db::ds,w0⟩ .normal Q e h'' | some x=>Cd ⟨P,none,n,mk db::ds,w0⟩ x Q e h'')) :
  Cd ⟨P,none,n,ds,w0⟩ (.rangeFunc g ps assign body) Q e h:=fun a w hk hh hw=>by
 refine wpIn_rangeFunc fun fn _=>?_
 obtain ⟨R',ct,hR'⟩:=hct (w.heap.size+1) w.heap.size fn a.tmps ⟨hk.size,rfl,hk.get⟩
 have h1:=Holds.alloc (Holds.alloc hh (.deferred (some []))) (.loop (rec0 fn a.tmps ps assign body w.heap.size))
 have hsz:(w.alloc (.deferred (some []))).heap.size=w.heap.size+1:=World.size_alloc _ _
 rw [hsz] at h1
 refine ⟨_,_,_,⟨.fn (.func k) cp,fi ++ #[.func (.yield (w.heap.size+1)) #[] #[]]⟩,(w.alloc (.deferred (some []))).alloc (.loop (rec0 fn a.tmps ps assign body w.heap.size)),k,fi ++ #[.func (.yield (w.heap.size+1)) #[] #[]]++cp,(w.alloc (.deferred (some []))).alloc (.loop (rec0 fn a.tmps ps assign body w.heap.size)),run_enterLoop_outer fn a.tmps ps assign body,?_,fun _ _=>trivial,?_,fun h=>by simp [Fw,Fence.wide] at h,?_⟩
 ·simp only [resolve,hk.ev hg,Deferred.ofValue,Sem.run_bind,Sem.run_pure,Result.andThen_ok]
  simp [Act.eval,rec0]
 ·have:(invoke (.fn (.func k) cp) (fi ++ #[.func (.yield (w.heap.size+1)) #[] #[]])).run P ((w.alloc (.deferred (some []))).alloc (.loop (rec0 fn a.tmps ps assign body w.heap.size))) = .ok (.enter k (fi ++ #[.func (.yield (w.heap.size+1)) #[] #[]]++cp)) ((w.alloc (.deferred (some []))).alloc (.loop (rec0 fn a.tmps ps assign body w.heap.size))):=hE _ _
  exact this
 ·have hgr:Same w ((w.alloc (.deferred (some []))).alloc (.loop (rec0 fn a.tmps ps assign body w.heap.size))):=(Grew.alloc _ _ rfl).toSame.trans (Grew.alloc _ _ rfl).toSame
  have hctw:=ct [] _ (by simpa using h1)
  refine callsIn_fw (Calls.mono hctw fun en w' ⟨v,h',he,hRv,hH,hS⟩=>?_)
  subst he
  obtain ⟨rec,h'',s,hbusy,hj⟩:=hR' v h' hRv
  have hH':=(show Holds w' h' by simpa using hH).sel s
  refine ⟨rec.pending,_,run_endLoop hH'.1 hbusy,?_⟩
  have hk2:Kn n (mk w.heap.size::ds) { a with defers:=[{ target:=.collected w.heap.size,args := #[] }]++a.defers } e:=⟨hk.size,by simp [mk,hk.defers],hk.get⟩
  have hH2:∀ o,Holds (w'.putObj (w.heap.size+1) o) h'':=fun o=>(Holds.putObj hH' o).2.2
  have hS2:∀ r,Same w0 (w'.putObj (w.heap.size+1) (.loop r)):=fun r=>(hw.trans hgr).trans (hS.trans (Same.putObj _ _ _ hH'.1 rfl rfl))
  generalize rec.pending=j at hj ⊢
  cases j with
  | none=>exact hj _ _ hk2 (hH2 _) (hS2 _)
  | some x=>exact hj _ _ hk2 (hH2 _) (hS2 _)

/-! ### The function's end, with marks -/
theorem leavesM {P:Program} {fn:Func} {tm:Array Value} {Rf:Ending→World→Prop} {w0:World} {k:SH}:∀ (bs:List Nat) (w:World),Holds w (marks bs++k)→Same w0 w →
  (∀ w',Holds w' k→Same w0 w'→∃ v,(results fn tm).run P w' = .ok v w'∧Rf (.returned v) w')→LeavesInM (Fw none) 0 P fn tm Rf (bs.map mk) .returning w
 | [],w,hh,hs,hf=>hf w hh hs
 | b::bs,w,hh,hs,hf=>by
  refine ⟨by simp,.inl ⟨b,_,rfl,run_takeDeferred (ds:=[]) hh.1,?_⟩⟩
  exact leavesM bs _ (Holds.putObj hh _).2.2 (hs.trans (Same.putObj _ _ _ hh.1 rfl rfl)) hf
theorem ct_ofM {P:Program} {k:FuncId} {fn:Func} {x:Code} {n:Nat} {l:List Value} {hf:SH} {R:Value→SH→Prop} (hF:P.funcs[k]? = some fn) (hb:fn.body=some x) (hnt:fn.ntmps=n) (hn:l.length≤n)
  (hc:∀ (hr:SH) (w0:World),Cd ⟨P,none,n,[],w0⟩ x (bodyPostM (Fw none) 0 P fn (Post w0 hr R)) (Env.ofArgs 0 l) (hf++hr)):Ct P k l.toArray hf R:=fun hr w hh=>by
 refine calls_fw (r:=none) (n:=0) (callsIn_of_wp_marks hF hb trivial (hc hr w _ w ⟨?_,rfl,fun i v hi=>?_⟩ hh (Same.refl w)))
 ·simp; omega
 ·obtain ⟨_,h2⟩:=Env.ofArgs_get hi
  simp only [Nat.sub_zero] at h2
  have hlt:i<l.length:=(List.getElem?_eq_some_iff.1 h2).1
  rw [List.getElem?_eq_getElem hlt,Option.some.injEq] at h2
  simp [Array.getElem?_append,hlt,h2]
section
variable {P:Program} {r:Option Nat} {n:Nat} {w0:World} {hr:SH} {R:Value→SH→Prop} {fn:Func} {e:Env} {h h':SH} {vs:List Value} {bs:List Nat} {ds:List Deferred}
theorem xt_retM (hds:ds=bs.map mk) (hv:e.res? fn.results.toList=some vs) (hR:R (outOf vs) h') (hp:Sub (marks bs++(h'++hr)) h):Xt ⟨P,r,n,ds,w0⟩ .ret (bodyPostM (Fw none) 0 P fn (Post w0 hr R)) e h :=
 fun a w hk hh hw=>by
  show LeavesInM (Fw none) 0 P fn a.tmps _ a.defers .returning w
  rw [hk.defers,hds]
  exact leavesM bs w (hh.sub hp) hw fun w' h1 h2=>⟨_,run_results hk hv w',_,h',rfl,hR,h1,h2⟩
theorem xt_endM (hds:ds=bs.map mk) (hv:e.res? fn.results.toList=some vs) (hR:R (outOf vs) h') (hp:Sub (marks bs++(h'++hr)) h):Xt ⟨P,r,n,ds,w0⟩ .normal (bodyPostM (Fw none) 0 P fn (Post w0 hr R)) e h :=
 fun a w hk hh hw=>xt_retM (r:=r) (n:=n) (w0:=w0) hds hv hR hp a w hk hh hw
end

/-! ### A loop in which marks are laid -/
section
variable {P:Program} {r:Option Nat} {n:Nat} {ds:List Deferred} {w0:World} {Q:Exit→Act→World→Prop} {e:Env} {h:SH}
def AgainD {σ : Type} (P:Program) (r:Option Nat) (n:Nat) (w0:World) (D : σ → List Deferred) (E : σ → Env) (H : σ → SH) (Φ : σ → Prop) (μ : σ → Nat) (s : σ) (a:Act) (w:World):Prop :=
 ∃ s',Φ s' ∧ μ s' < μ s∧Kn n (D s') a (E s')∧Holds w (H s')∧Same w0 w
theorem cd_loopD {σ : Type} {x : Code} (D : σ → List Deferred) (E : σ → Env) (H : σ → SH) (Φ : σ → Prop) (μ : σ → Nat) (s0 : σ) (h0 : Φ s0) (hd : ds = D s0) (hs : Env.sub (E s0) e) (hp : Sub (H s0) h)
    (hr:∀ s,Φ s→Cd ⟨P,r,n,D s,w0⟩ x (Exit.then (AgainD P r n w0 D E H Φ μ s) Q) (E s) (H s)):Cd ⟨P,r,n,ds,w0⟩ (.loop x) Q e h:=fun a w hk hh hw=>by
  subst hd
  let p:Act→World→Nat→Prop:=fun a w m=>∃ s,Φ s ∧ μ s=m∧Kn n (D s) a (E s)∧Holds w (H s)∧Same w0 w
  have hmin:∀ a w m,p a w m→p a w (least (p a w))∧least (p a w)≤m:=fun a w m hn=>⟨(least_spec ⟨m,hn⟩).1,(least_spec ⟨m,hn⟩).2 m hn⟩
  refine wpIn_loop (fun a w=>∃ m,p a w m) (fun a w=>least (p a w)) ⟨_,s0,h0,rfl,hk.weaken hs,hh.sub hp,hw⟩ fun a w ⟨m,hn⟩=>?_
  obtain ⟨⟨s,h1,h2,h3,h4,h5⟩,_⟩:=hmin a w m hn
  refine wpIn_mono (hr s h1 a w h3 h4 h5) fun ex a' w' hq=>?_
  cases ex <;> first
    | exact hq
    | (obtain ⟨s', g1, g2, g3, g4, g5⟩ := hq
       have hp':p a' w' (μ s'):=⟨s',g1,rfl,g3,g4,g5⟩
       exact ⟨⟨_,hp'⟩,Nat.lt_of_le_of_lt (hmin a' w' _ hp').2 (h2 ▸ g2)⟩)
theorem xt_againD {σ : Type} {D : σ → List Deferred} {E : σ → Env} {H : σ → SH} {Φ : σ → Prop} {μ : σ → Nat} {s : σ} (s' : σ) (h1 : Φ s') (h2 : μ s' < μ s) (hd:ds=D s') (hs:Env.sub (E s') e) (hp:Sub (H s') h) :
  Xt ⟨P,r,n,ds,w0⟩ .normal (Exit.then (AgainD P r n w0 D E H Φ μ s) Q) e h:=fun _ _ hk hh hw=>⟨s',h1,h2,by subst hd; exact hk.weaken hs,hh.sub hp,hw⟩
end

/-! ### Calls of yield -/
section
variable {c:Cx} {ops:Array Oper} {K:Act→World→Prop} {rest:List Oper} {e:Env} {h h' hr:SH}
theorem run_yieldCall {P:Program} {f:Operand} {az:Array Operand} {ts:Array TypeId} {l:Nat} {vs:List Value} (hf:e.ev? f=some (.func (.yield l) #[] #[])) (has:az.toList.mapM e.ev? = some vs)
  {ρ : Operand→Value} (hρ : ∀ x u,e.ev? x=some u → ρ x=u) (w:World) (d:Option Tmp) (ty:TypeId) (pos:String) (after:Array Edge) (g:Option (Nat×Bool)) :
  (execOp ρ ⟨d,.call { callee:=.value f,args:=az,argTypes:=ts },ty,pos,after,g⟩).run P w=(Instr.yield l vs.toArray).run P w:=by
 have e1:Array.map ρ az=vs.toArray:=by
  apply Array.toList_inj.1; simpa using evs_map hρ az.toList vs has
 simp only [execOp,resolve,hρ f _ hf,Deferred.ofValue,e1,Sem.run_bind,Sem.run_pure,Result.andThen_ok,invoke]
 simp
theorem st_yield {d:Nat} {f:Operand} {az:Array Operand} {ts:Array TypeId} {ty:TypeId} {pos:String} {after:Array Edge} {l:Nat} {vs:List Value} {hf:SH} {R:Value→SH→Prop} {gu:Option (Nat×Bool)} {gd:Nat}
  (hgu:gu=none∨∃ g want,gu=some (g,want)∧((ops[g]?).bind (·.dst))=some gd∧e.get? gd=some (.bool want))
  (hv:e.ev? f=some (.func (.yield l) #[] #[])) (has:az.toList.mapM e.ev? = some vs) (yc:Yc c.P l vs.toArray hf R) (pk:Pk h hf hr) (hd:d<c.n)
  (hn:∀ v h',R v h'→St c ops K rest ((d,v)::e) (h'++hr)) :
  St c ops K (⟨some d,.call { callee:=.value f,args:=az,argTypes:=ts },ty,pos,after,gu⟩::rest) e h:=fun a w hk hh hs=>by
 unfold LsW
 have hw:Region.wanted (⟨some d,.call { callee:=.value f,args:=az,argTypes:=ts },ty,pos,after,gu⟩:Oper) (yielded ops a.tmps)=true:=by
  rcases hgu with rfl | ⟨g,want,rfl,hg,hgv⟩
  ·simp [Region.wanted]
  ·simp [Region.wanted,yields_guard hg hgv hk]
 rw [if_pos hw]
 unfold OpW OpV
 rw [Oper.semAt_eq _ _ _ (by simp),run_yieldCall hv has hk.evs]
 refine opUpon_mono (fun v w' ⟨h',hR,hH,hS⟩=>?_) (yc hr w (hh.pk pk))
 exact hn v h' hR _ w' (hk.put v hd) hH (hs.trans hS)
theorem dr_effg {pre:Nat→Bool} {hC:SH} {t:Ord} {i:Nat} {d:Option Nat} {op:Op} {ty:TypeId} {pos:String} {after:Array Edge} {g gd:Nat} {want:Bool} (hi:ops[i]? = some ⟨d,op,ty,pos,after,some (g,want)⟩)
  (hg:((ops[g]?).bind (·.dst))=some gd) (hgv:e.get? gd=some (.bool want)) (hn:St c ops (EffK c ops pre hC K i t h) [⟨d,op,ty,pos,after,some (g,want)⟩] e h):DrL c ops pre hC K (.cons (i,false) t) e h :=
 ⟨_,hi,fun _ hk=>by simp [Region.wanted,yields_guard hg hgv hk],hn⟩
end
end Go.Ck
