/-
  Maps from numbers: look-up,store,make. Pairs of numbers and truths held against each other. Generic: nothing of the program is named here. No condition.
-/
import Derived.Test.YtknmacdbffgjgaaGreatDoorM2
import Derived.Deep.DeepAppendWide
import Derived.LaidEqlPtr
import Derived.Laws.CopyRow
set_option linter.unusedVariables false
set_option linter.unusedSimpArgs false
set_option maxRecDepth 100000
set_option maxHeartbeats 16000000
namespace Go.Ck
open Go

theorem Ff (m j:Nat):(Array.replicate m false).getD j false=false:=by
 rcases Nat.lt_or_ge j m with h | h
 ·simp [h]
 ·simp [h]

section
variable {c:Cx} {ops:Array Oper} {pre:Nat->Bool} {hC:SH} {K:Act->World->Prop}

def opH (c : Cx) (ops : Array Oper) (pre : Nat -> Bool) (hC : SH) (i : Nat) (N : Act -> SH -> Prop) (a : Act) (h : SH) : Prop :=
 match ops[i]? with
 | none=>False
 | some o=>if Region.wanted o (yielded ops a.tmps) then ∀ w,Holds w h->Same c.w0 w->OpV c.P c.r o a w λv w'=>∃ h',Holds w' h'/\Same c.w0 w'/\(pre i=true->Sub hC h->Sub hC h')/\N (a.put o.dst v) h'
   else N (a.put o.dst undef) h
def zo (c:Cx) (ops:Array Oper) (pre:Nat->Bool) (hC:SH) (K:Act->World->Prop):Nat->Array Bool->Act->SH->Prop
 | 0,listed,a,h=>Region.ready .any ops listed=[]/\∀ w,Holds w h->Same c.w0 w->K a w
 | f+1,listed,a,h=>(Region.ready .any ops listed=[]->∀ w,Holds w h->Same c.w0 w->K a w)/\∀ i∈Region.ready .any ops listed,opH c ops pre hC i (zo c ops pre hC K f (listed.setIfInBounds i true)) a h

theorem zo.wp {Q : Exit -> Act -> World -> Prop} (hQ : ∀ a w, K a w -> Q .normal a w) : ∀ (f : Nat) (listed : Array Bool) (a : Act) (h : SH) (w : World), zo c ops pre hC K f listed a h -> Holds w h -> Same c.w0 w ->
  wpAnyIn (Fw c.r) 0 c.P .any ops Q f listed a w
 | 0,_,_,_,w,H,h1,h2=>⟨H.1,hQ _ _ (H.2 w h1 h2)⟩
 | f + 1, listed, a, h, w, H, h1, h2 => by
  refine ⟨λh0=>hQ _ _ (H.1 h0 w h1 h2),λi hi=>?_⟩
  have hh:=H.2 i hi
  unfold opH at hh
  unfold wpOpIn
  split
  ·rename_i ho; rw [ho] at hh; exact hh.elim
  ·rename_i o ho
   simp only [ho] at hh
   split
   ·rename_i hw
    rw [if_pos hw] at hh
    exact OpW.wpIn ((hh w h1 h2).mono λv w' ⟨h',g1,g2,_,g4⟩=>zo.wp hQ f _ _ h' w' g4 g1 g2)
   ·rename_i hw
    rw [if_neg hw] at hh
    exact ⟨λ_ _=>trivial,zo.wp hQ f _ _ h w hh h1 h2⟩

/-! ### What waits for what -/
inductive Dep (ops:Array Oper):Nat->Nat->Prop
 | direct {j i:Nat} {o:Oper} {e:Edge}:ops[j]? = some o->e∈o.after->Region.binds .any e=true->e.on=i->Dep ops j i
 | trans {j i:Nat} {o:Oper} {e:Edge}:ops[j]? = some o->e∈o.after->Region.binds .any e=true->Dep ops e.on i->Dep ops j i
def Closed (ops:Array Oper) (listed:Array Bool):Prop:=∀ j o,ops[j]? = some o->listed.getD j false=true->∀ e∈o.after,Region.binds .any e=true->listed.getD e.on false=true
theorem Dep.listed {listed:Array Bool} (hc:Closed ops listed) {j i:Nat} (h:Dep ops j i) (hj:listed.getD j false=true):listed.getD i false=true:=by
 induction h with
 | direct ho he hb hi=>subst hi; exact hc _ _ ho hj _ he hb
 | trans ho he hb _ ih=>exact ih (hc _ _ ho hj _ he hb)
theorem Dep.notReady {listed:Array Bool} (hc:Closed ops listed) {j i:Nat} (h:Dep ops j i) (hi:listed.getD i false=false):j ∉ Region.ready .any ops listed:=λhr=>by
 obtain ⟨_,o,ho,hall⟩:=mem_ready.1 hr
 cases h with
 | direct ho' he hb hi' =>
  rw [ho] at ho'; cases ho'
  subst hi'
  rw [hall _ he hb] at hi; cases hi
 | trans ho' he hb hd =>
  rw [ho] at ho'; cases ho'
  rw [hd.listed hc (hall _ he hb)] at hi; cases hi
theorem Closed.set {listed:Array Bool} (hc:Closed ops listed) {i:Nat} (hi:i∈Region.ready .any ops listed):Closed ops (listed.setIfInBounds i true):=λj o ho hl e he hb=>by
 obtain ⟨_,oi,hoi,hall⟩:=mem_ready.1 hi
 by_cases hij:i=j
 ·subst hij
  rw [hoi] at ho; cases ho
  exact getD_set_true<|hall e he hb
 ·rw [getD_set_ne false hij] at hl
  exact getD_set_true<|hc j o ho hl e he hb

/-! ### An operation that only reads what stays may be taken first -/
def jT (c:Cx) (ops:Array Oper) (hC:SH) (o:Oper) (v:Value) (a:Act):Prop :=
 (Region.wanted o (yielded ops a.tmps)=true/\∀ x w,Holds w (hC++x)->Same c.w0 w->OpV c.P c.r o a w λu w'=>u=v/\Holds w' (hC++x)/\Same c.w0 w') ∨
 (Region.wanted o (yielded ops a.tmps)=false/\v=undef)

theorem Cb {r:Option Nat} {o:Oper} (hs:∀ cs b,o.op≠.select cs b) (hd:∀ k,o.op≠.defer k) (a:Act) (dst:Option Tmp) (v:Value) (h:∀ d,dst=some d->d ∉ o.looksAt ops) :
  o.semAt r (a.put dst v).eval=o.semAt r a.eval:=by
 rw [Oper.semAt_eq _ _ _ hd,Oper.semAt_eq _ _ _ hd,execOp_put o hs a dst v h]

theorem jT.put {oi oj:Oper} {v:Value} {a:Act} (hs:∀ cs b,oi.op≠.select cs b) (hd:∀ k,oi.op≠.defer k) (hap:∀ d,oj.dst=some d->d ∉ oi.looksAt ops) (u:Value) (hy:jT c ops hC oi v a):jT c ops hC oi v (a.put oj.dst u):=by
 unfold jT OpV at *
 rw [Cb hs hd a oj.dst u hap,wanted_put oi a oj.dst u hap]
 exact hy

theorem jT.opH {i:Nat} {o:Oper} {v:Value} {a:Act} {h hP:SH} (hi:ops[i]? = some o) (hsub:Sub hP h) (hy:jT c ops hP o v a) {N:Act->SH->Prop} (hn:N (a.put o.dst v) h):opH c ops pre hC i N a h:=by
 unfold Ck.opH
 simp only [hi]
 rcases hy with ⟨hw,hv⟩ | ⟨hw,rfl⟩
 ·simp only [hw,if_true]
  intro w h1 h2
  obtain ⟨x,hx⟩:=hsub
  exact (hv x w (h1.perm hx) h2).mono λu w' ⟨e,g1,g2⟩=>⟨h,g1.perm hx.symm,g2,λ_ hs=>hs,e ▸ hn⟩
 ·simp only [hw,Bool.false_eq_true,if_false]; exact hn

theorem zq {i : Nat} {oi : Oper} {v : Value} {hP : SH} (hkp : hP = hC ∨ hP = []) (hi : ops[i]? = some oi) (hsel : ∀ (j : Nat) (o : Oper), ops[j]? = some o -> (∀ cs b, o.op ≠ .select cs b) /\ ∀ k, o.op ≠ .defer k) :
  ∀ (f:Nat) (listed:Array Bool) (a:Act) (h:SH),Closed ops listed->Sub hP h ->
   (∀ j oj,ops[j]? = some oj->j≠i->listed.getD j true=false->(∀ e∈oj.after,Region.binds .any e=true->e.on≠i)->oi.apart ops oj=true) ->
   (hP=[]∨∀ j,j≠i->listed.getD j true=false->pre j=false->Dep ops j i) ->
   i∈Region.ready .any ops listed->jT c ops hP oi v a ->
   zo c ops pre hC K f (listed.setIfInBounds i true) (a.put oi.dst v) h->zo c ops pre hC K (f+1) listed a h:=by
 intro f
 induction f with
 | zero =>
  intro listed a h _ hsub _ _ hr hy H
  refine ⟨λh0=>(by rw [h0] at hr; cases hr),λj hj=>?_⟩
  by_cases hji:j=i
  ·subst hji; exact hy.opH hi hsub H
  ·have:=ready_mono hj hji
   rw [H.1] at this
   cases this
 | succ f ih =>
  intro listed a h hcl hsub hfree hdep hr hy H
  refine ⟨λh0=>(by rw [h0] at hr; cases hr),λj hj=>?_⟩
  by_cases hji:j=i
  ·subst hji; exact hy.opH hi hsub H
  ·have h1 := H.2 j<|ready_mono hj hji
   obtain ⟨hjun,oj,hoj,hall⟩:=mem_ready.1 hj
   have hiun:listed.getD i false=false:=by
    have h0:=(mem_ready.1 hr).1
    rcases Nat.lt_or_ge i listed.size with h' | h'
    ·simp [h'] at h0 ⊢; exact h0
    ·simp [Array.getElem?_eq_none h']
   have hkeep : ∀ h', (pre j = true -> Sub hC h -> Sub hC h') -> Sub hP h' := λh' k => by
    rcases hdep with h0 | hdep
    ·subst h0; exact Sub.nil _
    ·rcases hkp with h0 | h0
     ·subst h0
      refine k ?_ hsub
      cases hp:pre j with
      | true=>rfl
      | false=>exact absurd hj ((hdep j hji hjun hp).notReady hcl hiun)
     ·subst h0; exact Sub.nil _
   have hnot:∀ e∈oj.after,Region.binds .any e=true->e.on≠i:=λe he hb heq=>by
    have h1:=hall e he hb
    rw [heq,hiun] at h1; cases h1
   obtain ⟨ap1,ap2,ap3⟩:=Oper.apart_spec<|hfree j oj hoj hji hjun hnot
   have hnext : ∀ (u : Value) (h' : SH), Sub hP h' -> zo c ops pre hC K f ((listed.setIfInBounds i true).setIfInBounds j true) ((a.put oi.dst v).put oj.dst u) h' -> zo c ops pre hC K (f + 1) (listed.setIfInBounds j true) (a.put oj.dst u) h' := by
    intro u h' hs' hN
    refine ih _ _ h' (hcl.set hj) hs' (λk ok hk hki hun hno=>hfree k ok hk hki ?_ hno) (hdep.imp id λhdep k hki hun hp=>hdep k hki (by
      by_cases hjk:j=k
      ·subst hjk; exact hjun
      ·rw [getD_set_ne true hjk] at hun; exact hun) hp) (ready_mono hr (Ne.symm hji)) (hy.put (hsel i oi hi).1 (hsel i oi hi).2 ap3 u) ?_
    ·by_cases hjk:j=k
     ·subst hjk; exact hjun
     ·rw [getD_set_ne true hjk] at hun; exact hun
    ·rw [Array.setIfInBounds_comm _ _ hji,<- Act.put_comm a v u ap2]
     exact hN
   unfold opH at h1 ⊢
   simp only [hoj] at h1 ⊢
   rw [wanted_put oj a oi.dst v ap1] at h1
   split
   ·rename_i hw
    rw [if_pos hw] at h1
    intro w g1 g2
    have h2:=h1 w g1 g2
    unfold OpV at h2 ⊢
    rw [Cb (hsel j oj hoj).1 (hsel j oj hoj).2 a oi.dst v ap1] at h2
    exact je (λu w' ⟨h',k1,k2,k3,k4⟩=>⟨h',k1,k2,k3,hnext u h' (hkeep h' k3) k4⟩) h2
   ·rename_i hw
    rw [if_neg hw] at h1
    exact hnext undef h hsub h1

/-! ### The check of an order -/
def tb (M:Array Nat) (j i:Nat):Bool:=(M.getD j 0).testBit i
def tbOk (ops:Array Oper) (M:Array Nat):Bool :=
 (List.range ops.size).all λj=>(List.range ops.size).all λi => !tb M j i || (match ops[j]? with
  | some o=>o.after.any λe=>Region.binds .any e && (e.on == i || (decide (e.on<j) && tb M e.on i))
  | none=>false)
theorem Na {M:Array Nat} (hok:tbOk ops M=true):∀ (j i:Nat),j<ops.size->i<ops.size->tb M j i=true->Dep ops j i:=by
 intro j
 induction j using Nat.strongRecOn with
 | _ j ih =>
  intro i hj hi ht
  have h1:=List.all_eq_true.1 (List.all_eq_true.1 hok j<|List.mem_range.2 hj) i<|List.mem_range.2 hi
  rw [ht] at h1
  simp only [Bool.not_true,Bool.false_or] at h1
  cases ho:ops[j]? with
  | none=>rw [ho] at h1; cases h1
  | some o =>
   rw [ho] at h1
   obtain ⟨e,he,hb⟩:=Array.any_eq_true'.1 h1
   simp only [Bool.and_eq_true,Bool.or_eq_true,beq_iff_eq,decide_eq_true_eq] at hb
   rcases hb.2 with h2 | ⟨h2,h3⟩
   ·exact .direct ho he hb.1 h2
   ·exact .trans ho he hb.1<|ih e.on h2 i (by omega) hi h3

inductive Ord where
 | nil
 | cons (x:Nat×Bool) (t:Ord)
 | two (i:Nat) (t:Ord) (j:Nat) (u:Ord)
 | three (i:Nat) (t:Ord) (j:Nat) (u:Ord) (k:Nat) (v:Ord)
 | pure (i:Nat) (t:Ord)
def Ord.length:Ord->Nat
 | .nil=>0
 | .cons _ t=>t.length+1
 | .two _ t _ _=>t.length+1
 | .three _ t _ _ _ _=>t.length+1
 | .pure _ t=>t.length+1
def ork:List (Nat×Nat)->Ord->Ord
 | [],o=>o
 | (i,0)::t,o=>.cons (i,false) (ork t o)
 | (i,1)::t,o=>.cons (i,true) (ork t o)
 | (i,_)::t,o=>.pure i (ork t o)
def ol:List (Nat×Bool)->Ord->Ord
 | [],o=>o
 | x::t,o=>.cons x (ol t o)
def qN (ops : Array Oper) (pre : Nat -> Bool) (M : Array Nat) : Ord -> Array Bool -> Bool
 | .nil,listed=>(Region.ready .any ops listed).isEmpty
 | .cons (i,true) t,listed=>(Region.ready .any ops listed).contains i && Region.free .any ops listed i && pre i &&
   ((List.range ops.size).all λj=>j == i || listed.getD j true || pre j || tb M j i) && qN ops pre M t (listed.setIfInBounds i true)
 | .cons (i,false) t,listed=>decide (Region.ready .any ops listed=[i]) && qN ops pre M t (listed.setIfInBounds i true)
 | .two i t j u,listed=>decide (Region.ready .any ops listed=[i,j]) && decide (t.length=u.length) && qN ops pre M t (listed.setIfInBounds i true) && qN ops pre M u (listed.setIfInBounds j true)
 | .three i t j u k v,listed=>decide (Region.ready .any ops listed=[i,j,k]) && decide (t.length=u.length) && decide (t.length=v.length) && qN ops pre M t (listed.setIfInBounds i true) && qN ops pre M u (listed.setIfInBounds j true) && qN ops pre M v (listed.setIfInBounds k true)
 | .pure i t,listed=>(Region.ready .any ops listed).contains i && Region.free .any ops listed i && qN ops pre M t (listed.setIfInBounds i true)
def uQ (ops:Array Oper):Bool:=ops.all λo=>match o.op with | .select _ _=>false | .defer _=>false | _=>true
theorem sJ (h:uQ ops=true):∀ (j:Nat) (o:Oper),ops[j]? = some o->(∀ cs b,o.op≠.select cs b)/\∀ k,o.op≠.defer k:=λj o ho=>by
 have hm:o∈ops:=Array.mem_of_getElem? ho
 have:=Array.all_eq_true'.1 h o hm
 exact ⟨(λcs b e=>by rw [e] at this; cases this),(λk e=>by rw [e] at this; cases this)⟩

def DrL (c : Cx) (ops : Array Oper) (pre : Nat -> Bool) (hC : SH) (K : Act -> World -> Prop) : Ord -> Env -> SH -> Prop
 | .nil,e,h=>Nx c K e h
 | .cons (i,true) t,e,h=>Sub hC h/\∃ o v,ops[i]? = some o/\(∀ a,Kn c.n c.ds a e->jT c ops hC o v a)/\∃ e',(∀ a,Kn c.n c.ds a e->Kn c.n c.ds (a.put o.dst v) e')/\DrL c ops pre hC K t e' h
 | .cons (i,false) t,e,h=>∃ o,ops[i]? = some o/\(∀ a,Kn c.n c.ds a e->Region.wanted o (yielded ops a.tmps)=true)/\St c ops (λa' w'=>∃ e' h',Kn c.n c.ds a' e'/\Holds w' h'/\Same c.w0 w'/\(pre i=true->Sub hC h->Sub hC h')/\DrL c ops pre hC K t e' h') [o] e h
 | .two i t j u,e,h =>
   (∃ o,ops[i]? = some o/\(∀ a,Kn c.n c.ds a e->Region.wanted o (yielded ops a.tmps)=true)/\St c ops (λa' w'=>∃ e' h',Kn c.n c.ds a' e'/\Holds w' h'/\Same c.w0 w'/\(pre i=true->Sub hC h->Sub hC h')/\DrL c ops pre hC K t e' h') [o] e h) /\
   (∃ o,ops[j]? = some o/\(∀ a,Kn c.n c.ds a e->Region.wanted o (yielded ops a.tmps)=true)/\St c ops (λa' w'=>∃ e' h',Kn c.n c.ds a' e'/\Holds w' h'/\Same c.w0 w'/\(pre j=true->Sub hC h->Sub hC h')/\DrL c ops pre hC K u e' h') [o] e h)
 | .three i t j u k v,e,h =>
   (∃ o,ops[i]? = some o/\(∀ a,Kn c.n c.ds a e->Region.wanted o (yielded ops a.tmps)=true)/\St c ops (λa' w'=>∃ e' h',Kn c.n c.ds a' e'/\Holds w' h'/\Same c.w0 w'/\(pre i=true->Sub hC h->Sub hC h')/\DrL c ops pre hC K t e' h') [o] e h) /\
   (∃ o,ops[j]? = some o/\(∀ a,Kn c.n c.ds a e->Region.wanted o (yielded ops a.tmps)=true)/\St c ops (λa' w'=>∃ e' h',Kn c.n c.ds a' e'/\Holds w' h'/\Same c.w0 w'/\(pre j=true->Sub hC h->Sub hC h')/\DrL c ops pre hC K u e' h') [o] e h) /\
   (∃ o,ops[k]? = some o/\(∀ a,Kn c.n c.ds a e->Region.wanted o (yielded ops a.tmps)=true)/\St c ops (λa' w'=>∃ e' h',Kn c.n c.ds a' e'/\Holds w' h'/\Same c.w0 w'/\(pre k=true->Sub hC h->Sub hC h')/\DrL c ops pre hC K v e' h') [o] e h)
 | .pure i t,e,h=>∃ o v,ops[i]? = some o/\(∀ a,Kn c.n c.ds a e->jT c ops [] o v a)/\∃ e',(∀ a,Kn c.n c.ds a e->Kn c.n c.ds (a.put o.dst v) e')/\DrL c ops pre hC K t e' h

theorem jK {i:Nat} {e:Env} {h:SH} {a:Act} {N:Act->SH->Prop} {L:Env->SH->Prop} (hk:Kn c.n c.ds a e)
  (H:∃ o,ops[i]? = some o/\(∀ a,Kn c.n c.ds a e->Region.wanted o (yielded ops a.tmps)=true)/\St c ops (λa' w'=>∃ e' h',Kn c.n c.ds a' e'/\Holds w' h'/\Same c.w0 w'/\(pre i=true->Sub hC h->Sub hC h')/\L e' h') [o] e h)
  (hN:∀ a' e' h',Kn c.n c.ds a' e'->L e' h'->N a' h'):opH c ops pre hC i N a h:=by
 obtain ⟨o,ho,hwant,hs⟩:=H
 unfold opH
 simp only [ho]
 rw [if_pos (hwant a hk)]
 intro w h1 h2
 have h3:=hs a w hk h1 h2
 unfold LsW at h3
 rw [if_pos (hwant a hk)] at h3
 exact OpV.mono (λv w' ⟨e',h',k1,k2,k3,k4,k5⟩=>⟨h',k2,k3,k4,hN _ e' h' k1 k5⟩) h3

theorem DrL.any {M : Array Nat} (hsel : uQ ops = true) (hM : tbOk ops M = true) : ∀ (p : Ord) (listed : Array Bool) (e : Env) (h : SH) (a : Act), listed.size = ops.size -> Closed ops listed -> qN ops pre M p listed = true ->
  DrL c ops pre hC K p e h->Kn c.n c.ds a e->zo c ops pre hC K p.length listed a h
 | .nil,listed,e,h,a,_,_,hB,H,hk=>⟨by simpa [qN] using hB,λw h1 h2=>H a w hk h1 h2⟩
 | .cons (i,true) t,listed,e,h,a,hsz,hcl,hB,H,hk=>by
  simp only [qN,Bool.and_eq_true] at hB
  obtain ⟨⟨⟨⟨hr,hf⟩,hp⟩,hd⟩,hB'⟩:=hB
  obtain ⟨hsub,o,v,ho,hy,e',he',hn⟩:=H
  have hr':i∈Region.ready .any ops listed:=by simpa using hr
  have hilt:i<ops.size:=(Array.getElem?_eq_some_iff.1 ho).1
  refine zq (.inl rfl) ho (sJ hsel) t.length listed a h hcl hsub (Region.free_spec ho hf) (.inr λj hji hun hpj=>?_) hr' (hy a hk)
   (DrL.any hsel hM t _ e' h _ Zh (hcl.set hr') hB' hn<|he' a hk)
  have hjlt:j<ops.size:=by
   rcases Nat.lt_or_ge j ops.size with h' | h'
   ·exact h'
   ·rw [<- hsz] at h'; simp [Array.getElem?_eq_none h'] at hun
  have h1:=List.all_eq_true.1 hd j<|List.mem_range.2 hjlt
  simp only [Bool.or_eq_true,beq_iff_eq,hji,hun,hpj,Bool.false_eq_true,or_false,false_or] at h1
  exact Na hM j i hjlt hilt h1
 | .cons (i,false) t,listed,e,h,a,hsz,hcl,hB,H,hk=>by
  simp only [qN,Bool.and_eq_true,decide_eq_true_eq] at hB
  obtain ⟨hr,hB'⟩:=hB
  refine ⟨λh0=>(by rw [hr] at h0; cases h0),λj hj=>?_⟩
  rw [hr] at hj
  have hji:j=i:=Zg
  subst hji
  have hrj:j∈Region.ready .any ops listed:=by rw [hr]; simp
  exact jK hk H λa' e' h' k1 k2=>DrL.any hsel hM t _ e' h' a' Zh (hcl.set hrj) hB' k2 k1
 | .two i t k u,listed,e,h,a,hsz,hcl,hB,H,hk=>by
  simp only [qN,Bool.and_eq_true,decide_eq_true_eq] at hB
  obtain ⟨⟨⟨hr,hlen⟩,hB1⟩,hB2⟩:=hB
  refine ⟨λh0=>(by rw [hr] at h0; cases h0),λj hj=>?_⟩
  have hrj:=hj
  rw [hr] at hj
  have hji:j=i∨j=k:=Zg
  rcases hji with e' | e'
  ·subst e'
   exact jK hk H.1 λa' e' h' k1 k2=>DrL.any hsel hM t _ e' h' a' Zh (hcl.set hrj) hB1 k2 k1
  ·subst e'
   refine jK hk H.2 λa' e' h' k1 k2=>?_
   have:=DrL.any hsel hM u _ e' h' a' Zh (hcl.set hrj) hB2 k2 k1
   rw [<- hlen] at this
   exact this
 | .three i t k u l v,listed,e,h,a,hsz,hcl,hB,H,hk=>by
  simp only [qN,Bool.and_eq_true,decide_eq_true_eq] at hB
  obtain ⟨⟨⟨⟨⟨hr,hlen⟩,hlen2⟩,hB1⟩,hB2⟩,hB3⟩:=hB
  refine ⟨λh0=>(by rw [hr] at h0; cases h0),λj hj=>?_⟩
  have hrj:=hj
  rw [hr] at hj
  have hji:j=i∨j=k∨j=l:=Zg
  rcases hji with e' | e' | e'
  ·subst e'
   exact jK hk H.1 λa' e' h' k1 k2=>DrL.any hsel hM t _ e' h' a' Zh (hcl.set hrj) hB1 k2 k1
  ·subst e'
   refine jK hk H.2.1 λa' e' h' k1 k2=>?_
   have:=DrL.any hsel hM u _ e' h' a' Zh (hcl.set hrj) hB2 k2 k1
   rw [<- hlen] at this
   exact this
  ·subst e'
   refine jK hk H.2.2 λa' e' h' k1 k2=>?_
   have:=DrL.any hsel hM v _ e' h' a' Zh (hcl.set hrj) hB3 k2 k1
   rw [<- hlen2] at this
   exact this
 | .pure i t,listed,e,h,a,hsz,hcl,hB,H,hk=>by
  simp only [qN,Bool.and_eq_true] at hB
  obtain ⟨⟨hr,hf⟩,hB'⟩:=hB
  obtain ⟨o,v,ho,hy,e',he',hn⟩:=H
  have hr':i∈Region.ready .any ops listed:=by simpa using hr
  exact zq (.inr rfl) ho (sJ hsel) t.length listed a h hcl (Sub.nil _) (Region.free_spec ho hf) (.inl rfl) hr' (hy a hk)
   (DrL.any hsel hM t _ e' h _ Zh (hcl.set hr') hB' hn<|he' a hk)
theorem jr {c:Cx} {id:Nat} {l:List Oper} {Q:Exit->Act->World->Prop} {e:Env} {h:SH} (p:Ord) (pre:Nat->Bool) (hC:SH) (hm:c.P.follows .mixedOrders=true)
  (hB:(uQ l.toArray && tbOk l.toArray (Region.before l.toArray) && qN l.toArray pre (Region.before l.toArray) p (Array.replicate l.toArray.size false) && decide (p.length=l.toArray.size))=true)
  (hd:DrL c l.toArray pre hC (Q .normal) p e h):Cd c (.region id l.toArray true) Q e h:=λa w hk hh hw=>by
 simp only [Bool.and_eq_true,decide_eq_true_eq] at hB
 obtain ⟨⟨⟨h1,h2⟩,h3⟩,h4⟩:=hB
 refine wpIn_region_any hm ?_
 rw [<- h4]
 have hcl:Closed l.toArray (Array.replicate l.toArray.size false):=λj o _ hl=>by rw [Ff] at hl; cases hl
 have hany:=DrL.any h1 h2 p _ e h a (by simp) hcl h3 hd hk
 rw [h4] at hany ⊢
 exact zo.wp (λ_ _ hq=>hq) _ _ _ _ _ hany (Holds.grew hh<|Grew.drawn w _)<|hw.trans (Grew.drawn w _).toSame

/-! ### The steps of such a walk -/
variable {e:Env} {h:SH} {t:Ord}
theorem bA (hn:Nx c K e h):DrL c ops pre hC K .nil e h:=hn
theorem dr_val {i d:Nat} {op:Op} {ty:TypeId} {pos:String} {after:Array Edge} {v:Value} (hi:ops[i]? = some ⟨some d,op,ty,pos,after,none⟩) (hs:Sub hC h) (hv:Vop c.P e hC op ty v) (hd:d<c.n)
  (hn:DrL c ops pre hC K t ((d,v)::e) h):DrL c ops pre hC K (.cons (i,true) t) e h :=
 ⟨hs,_,v,hi,λa hk=>.inl ⟨by simp [Region.wanted],λx w h1 h2=>by
  unfold OpV
  rw [Oper.semAt_eq _ _ _ hv.1,hv.2.2 a.eval w _ _ _ _ hk.evs (bu.append.1 h1).1]
  exact ⟨rfl,h1,h2⟩⟩,_,λa hk=>hk.put v hd,hn⟩
theorem fB {g gd:Nat} {b:Bool} (hg:((ops[g]?).bind (·.dst))=some gd) (hgv:e.get? gd=some (.bool b)) {n:Nat} {ds:List Deferred} {a:Act} (hk:Kn n ds a e):yielded ops a.tmps g=some b:=by
 unfold yielded
 cases ho:ops[g]? with
 | none=>simp [ho] at hg
 | some o=>simp only [ho,Option.bind_some] at hg; simp [hg,hk.get gd _ hgv]
theorem dr_valg {i d g gd:Nat} {op:Op} {ty:TypeId} {pos:String} {after:Array Edge} {v:Value} {want:Bool} (hi:ops[i]? = some ⟨some d,op,ty,pos,after,some (g,want)⟩) (hg:((ops[g]?).bind (·.dst))=some gd) (hgv:e.get? gd=some (.bool want))
  (hs:Sub hC h) (hv:Vop c.P e hC op ty v) (hd:d<c.n)
  (hn:DrL c ops pre hC K t ((d,v)::e) h):DrL c ops pre hC K (.cons (i,true) t) e h :=
 ⟨hs,_,v,hi,λa hk=>.inl ⟨by simp [Region.wanted,fB hg hgv hk],λx w h1 h2=>by
  unfold OpV
  rw [Oper.semAt_eq _ _ _ hv.1,hv.2.2 a.eval w _ _ _ _ hk.evs (bu.append.1 h1).1]
  exact ⟨rfl,h1,h2⟩⟩,_,λa hk=>hk.put v hd,hn⟩
theorem dr_skip {i d g gd:Nat} {op:Op} {ty:TypeId} {pos:String} {after:Array Edge} {want b:Bool} (hi:ops[i]? = some ⟨some d,op,ty,pos,after,some (g,want)⟩) (hg:((ops[g]?).bind (·.dst))=some gd) (hgv:e.get? gd=some (.bool b)) (hb:b = !want)
  (hs:Sub hC h) (hd:d<c.n) (hn:DrL c ops pre hC K t ((d,undef)::e) h):DrL c ops pre hC K (.cons (i,true) t) e h :=
 ⟨hs,_,undef,hi,λa hk=>.inr ⟨by subst hb; cases want <;> simp [Region.wanted,fB hg hgv hk],rfl⟩,_,λa hk=>hk.put undef hd,hn⟩
/-! Those that look at no block. -/
theorem drp_val {i d:Nat} {op:Op} {ty:TypeId} {pos:String} {after:Array Edge} {v:Value} (hi:ops[i]? = some ⟨some d,op,ty,pos,after,none⟩) (hv:Vop c.P e [] op ty v) (hd:d<c.n)
  (hn:DrL c ops pre hC K t ((d,v)::e) h):DrL c ops pre hC K (.pure i t) e h :=
 ⟨_,v,hi,λa hk=>.inl ⟨by simp [Region.wanted],λx w h1 h2=>by
  unfold OpV
  rw [Oper.semAt_eq _ _ _ hv.1,hv.2.2 a.eval w _ _ _ _ hk.evs trivial]
  exact ⟨rfl,h1,h2⟩⟩,_,λa hk=>hk.put v hd,hn⟩
theorem Nb {i d g gd:Nat} {op:Op} {ty:TypeId} {pos:String} {after:Array Edge} {v:Value} {want:Bool} (hi:ops[i]? = some ⟨some d,op,ty,pos,after,some (g,want)⟩) (hg:((ops[g]?).bind (·.dst))=some gd) (hgv:e.get? gd=some (.bool want))
  (hv:Vop c.P e [] op ty v) (hd:d<c.n)
  (hn:DrL c ops pre hC K t ((d,v)::e) h):DrL c ops pre hC K (.pure i t) e h :=
 ⟨_,v,hi,λa hk=>.inl ⟨by simp [Region.wanted,fB hg hgv hk],λx w h1 h2=>by
  unfold OpV
  rw [Oper.semAt_eq _ _ _ hv.1,hv.2.2 a.eval w _ _ _ _ hk.evs trivial]
  exact ⟨rfl,h1,h2⟩⟩,_,λa hk=>hk.put v hd,hn⟩
theorem Nc {i d g gd:Nat} {op:Op} {ty:TypeId} {pos:String} {after:Array Edge} {want b:Bool} (hi:ops[i]? = some ⟨some d,op,ty,pos,after,some (g,want)⟩) (hg:((ops[g]?).bind (·.dst))=some gd) (hgv:e.get? gd=some (.bool b)) (hb:b = !want)
  (hd:d<c.n) (hn:DrL c ops pre hC K t ((d,undef)::e) h):DrL c ops pre hC K (.pure i t) e h :=
 ⟨_,undef,hi,λa hk=>.inr ⟨by subst hb; cases want <;> simp [Region.wanted,fB hg hgv hk],rfl⟩,_,λa hk=>hk.put undef hd,hn⟩
theorem xG {f:Operand} {az:Array Operand} {ts:Array TypeId} {ty:TypeId} {pos:String} {after:Array Edge} {d:Option Nat} {gu:Option (Nat×Bool)} {k:FuncId} {fi cp:Array Value} {vs:List Value} {args:Array Value} {hf hr:SH} {v:Value}
  (hv:e.ev? f=some (.func (.func k) fi cp)) (has:az.toList.mapM e.ev? = some vs) (hE:Enters c.P k) (ha:fi++vs.toArray++cp=args) (ct:Reads c.P k args hf v) (pk:Pk hC hf hr) {a:Act} (hk:Kn c.n c.ds a e)
  (hw:Region.wanted ⟨d,.call { callee:=.value f,args:=az,argTypes:=ts },ty,pos,after,gu⟩ (yielded ops a.tmps)=true) :
  jT c ops hC ⟨d,.call { callee:=.value f,args:=az,argTypes:=ts },ty,pos,after,gu⟩ v a :=
 .inl ⟨hw,λx w h1 h2=>by
  unfold OpV
  rw [Oper.semAt_eq _ _ _ (by simp),qM hv has hE ha hk.evs]
  have hp:(hC++x).Perm (hf++(hr++x)):=(pk.perm.append_right x).trans<|by rw [List.append_assoc]
  exact (ct (hr++x) w (h1.perm hp)).mono λ_ w' ⟨u,h',he,⟨hu,hh'⟩,hH,hS⟩=>⟨u,he,hu,by subst hh'; exact hH.perm hp.symm,h2.trans hS⟩⟩
theorem dr_call {i d:Nat} {f:Operand} {az:Array Operand} {ts:Array TypeId} {ty:TypeId} {pos:String} {after:Array Edge} {k:FuncId} {fi cp:Array Value} {vs:List Value} {args:Array Value} {hf hr:SH} {v:Value}
  (hi:ops[i]? = some ⟨some d,.call { callee:=.value f,args:=az,argTypes:=ts },ty,pos,after,none⟩) (hs:Sub hC h)
  (hv:e.ev? f=some (.func (.func k) fi cp)) (has:az.toList.mapM e.ev? = some vs) (hE:Enters c.P k) (ha:fi++vs.toArray++cp=args) (ct:Reads c.P k args hf v) (pk:Pk hC hf hr) (hd:d<c.n)
  (hn:DrL c ops pre hC K t ((d,v)::e) h):DrL c ops pre hC K (.cons (i,true) t) e h :=
 ⟨hs,_,v,hi,λ_ hk=>xG hv has hE ha ct pk hk (by simp [Region.wanted]),_,λ_ hk=>hk.put v hd,hn⟩
theorem Nf {i d g gd:Nat} {f:Operand} {az:Array Operand} {ts:Array TypeId} {ty:TypeId} {pos:String} {after:Array Edge} {k:FuncId} {fi cp:Array Value} {vs:List Value} {args:Array Value} {hf hr:SH} {v:Value} {want:Bool}
  (hi:ops[i]? = some ⟨some d,.call { callee:=.value f,args:=az,argTypes:=ts },ty,pos,after,some (g,want)⟩) (hg:((ops[g]?).bind (·.dst))=some gd) (hgv:e.get? gd=some (.bool want)) (hs:Sub hC h)
  (hv:e.ev? f=some (.func (.func k) fi cp)) (has:az.toList.mapM e.ev? = some vs) (hE:Enters c.P k) (ha:fi++vs.toArray++cp=args) (ct:Reads c.P k args hf v) (pk:Pk hC hf hr) (hd:d<c.n)
  (hn:DrL c ops pre hC K t ((d,v)::e) h):DrL c ops pre hC K (.cons (i,true) t) e h :=
 ⟨hs,_,v,hi,λ_ hk=>xG hv has hE ha ct pk hk (by simp [Region.wanted,fB hg hgv hk]),_,λ_ hk=>hk.put v hd,hn⟩
def EffK (c:Cx) (ops:Array Oper) (pre:Nat->Bool) (hC:SH) (K:Act->World->Prop) (i:Nat) (t:Ord) (h:SH) (a':Act) (w':World):Prop :=
 ∃ e' h',Kn c.n c.ds a' e'/\Holds w' h'/\Same c.w0 w'/\(pre i=true->Sub hC h->Sub hC h')/\DrL c ops pre hC K t e' h'
theorem aV {i:Nat} {d:Option Nat} {op:Op} {ty:TypeId} {pos:String} {after:Array Edge} (hi:ops[i]? = some ⟨d,op,ty,pos,after,none⟩)
  (hn:St c ops (EffK c ops pre hC K i t h) [⟨d,op,ty,pos,after,none⟩] e h):DrL c ops pre hC K (.cons (i,false) t) e h :=
 ⟨_,hi,λ_ _=>by simp [Region.wanted],hn⟩
theorem Ng {i:Nat} {h0:SH} (hs:pre i=true->Sub hC h0->Sub hC h) (hn:DrL c ops pre hC K t e h):St c ops (EffK c ops pre hC K i t h0) [] e h :=
 λ_ _ hk hh hw=>⟨e,h,hk,hh,hw,hs,hn⟩
theorem mZ {i j:Nat} {t u:Ord} {d d':Option Nat} {op op':Op} {ty ty':TypeId} {pos pos':String} {after after':Array Edge} (hi:ops[i]? = some ⟨d,op,ty,pos,after,none⟩) (hj:ops[j]? = some ⟨d',op',ty',pos',after',none⟩)
  (h1:St c ops (EffK c ops pre hC K i t h) [⟨d,op,ty,pos,after,none⟩] e h) (h2:St c ops (EffK c ops pre hC K j u h) [⟨d',op',ty',pos',after',none⟩] e h):DrL c ops pre hC K (.two i t j u) e h :=
 ⟨⟨_,hi,λ_ _=>by simp [Region.wanted],h1⟩,⟨_,hj,λ_ _=>by simp [Region.wanted],h2⟩⟩
theorem DrL.weaken {e':Env} (hs:Env.sub e' e) (hn:DrL c ops pre hC K t e' h):DrL c ops pre hC K t e h:=by
 cases t with
 | nil=>exact Nx.weaken hs hn
 | cons p t =>
  obtain ⟨i,b⟩:=p
  cases b with
  | true =>
   obtain ⟨h1,o,v,h2,h3,e2,h4,h5⟩:=hn
   exact ⟨h1,o,v,h2,λa hk=>h3 a (hk.weaken hs),e2,λa hk=>h4 a (hk.weaken hs),h5⟩
  | false =>
   obtain ⟨o,h1,h2,h3⟩:=hn
   exact ⟨o,h1,λa hk=>h2 a (hk.weaken hs),λa w hk hh hw=>h3 a w (hk.weaken hs) hh hw⟩
 | two i t j u =>
  obtain ⟨⟨o,h1,h2,h3⟩,⟨o',h4,h5,h6⟩⟩:=hn
  exact ⟨⟨o,h1,λa hk=>h2 a (hk.weaken hs),λa w hk hh hw=>h3 a w (hk.weaken hs) hh hw⟩,⟨o',h4,λa hk=>h5 a (hk.weaken hs),λa w hk hh hw=>h6 a w (hk.weaken hs) hh hw⟩⟩
 | three i t j u k v =>
  obtain ⟨⟨o,h1,h2,h3⟩,⟨o',h4,h5,h6⟩,⟨o'',h7,h8,h9⟩⟩:=hn
  exact ⟨⟨o,h1,λa hk=>h2 a (hk.weaken hs),λa w hk hh hw=>h3 a w (hk.weaken hs) hh hw⟩,⟨o',h4,λa hk=>h5 a (hk.weaken hs),λa w hk hh hw=>h6 a w (hk.weaken hs) hh hw⟩,⟨o'',h7,λa hk=>h8 a (hk.weaken hs),λa w hk hh hw=>h9 a w (hk.weaken hs) hh hw⟩⟩
 | pure i t =>
  obtain ⟨o,v,h2,h3,e2,h4,h5⟩:=hn
  exact ⟨o,v,h2,λa hk=>h3 a (hk.weaken hs),e2,λa hk=>h4 a (hk.weaken hs),h5⟩
end
theorem bB {c:Cx} {id:Nat} {l:List Oper} {Q:Exit->Act->World->Prop} {e:Env} {h:SH} (p:Ord) (pre:Nat->Bool) (hm:c.P.follows .mixedOrders=true)
  (hB:(uQ l.toArray && tbOk l.toArray (Region.before l.toArray) && qN l.toArray pre (Region.before l.toArray) p (Array.replicate l.toArray.size false) && decide (p.length=l.toArray.size))=true)
  (hd:DrL c l.toArray pre h (Q .normal) p e h):Cd c (.region id l.toArray true) Q e h:=jr p pre h hm hB hd
def allR':Nat->Nat->Ord
 | _,0=>.nil
 | i,n+1=>.cons (i,true) (allR' (i+1) n)
def allR (n:Nat):Ord:=allR' 0 n
end Go.Ck
namespace Go.Ck
open Go Go.RowKit

def Inf (P:Program) (E:TypeId) (z:Value) (sz bytes:Nat):Prop:=(P.info? E).map (λi=>(i.zero,i.size,i.bytes))=some (some z,sz,bytes)
theorem Inf.parts {P:Program} {E:TypeId} {z:Value} {sz bytes:Nat} (h:Inf P E z sz bytes):∃ i,P.info? E=some i/\i.zero=some z/\i.size=sz/\i.bytes=bytes:=by
 unfold Inf at h
 cases hi:P.info? E with
 | none=>rw [hi] at h; cases h
 | some i=>rw [hi] at h; simp at h; exact ⟨i,rfl,h.1,h.2.1,h.2.2⟩
theorem Inf.sz {P:Program} {E:TypeId} {z:Value} {sz bytes:Nat} (h:Inf P E z sz bytes):Sz P E sz:=by
 obtain ⟨i,hi,_,hs,_⟩:=h.parts
 exact Sz.of hi hs

def ints (l:List Int):List Value:=l.map (Value.int .i64)
def bools (l:List Bool):List Value:=l.map Value.bool
theorem Fg (l:List Int):(ints l).length=l.length:=by simp [ints]
theorem Dy (l:List Bool):(bools l).length=l.length:=by simp [bools]
theorem yj {P:Program} (w:World) (t e:TypeId) (len:Nat) (parts:Array (Nat×Value)) (cells:Array Value) (ie:TypeInfo) (z:Value)
  (hu:P.underlying t=some (.slice e)) (hie:P.info? e=some ie) (hz:ie.zero=some z) (hsmall:¬ len * ie.size>2 ^ 24) (hpos:¬ len * ie.size=0)
  (h:Instr.fill (λi=>some (i * ie.size,ie.size)) ((Array.range (len * ie.size)).map (z.cells[· % z.cells.size]!)) parts.toList=some cells) :
  (Instr.buildSlice t len parts).run P w = .ok (.slice (some ⟨w.heap.size,0,none⟩) len len) (w.alloc<|.cells cells e):=by
 simp [Instr.buildSlice,run_underlying hu,sizeOf,typeInfo,zeroValue,hie,hz,hsmall,hpos,h,newRow]

section
variable {c:Cx} {ops:Array Oper} {K:Act->World->Prop} {rest:List Oper} {e:Env} {h h' hr:SH}

theorem au {d : Nat} {T E ty : TypeId} {len : Nat} {parts : Array (Nat × Operand)} {pos : String} {after : Array Edge} {z : Value} {sz bytes : Nat} {vs : List Value} {cells : List Value}
  (hvs:parts.toList.mapM (λp=>e.ev? p.2)=some vs) (hT:c.P.underlying T=some (.slice E)) (hE:Inf c.P E z sz bytes) (hs1:Nat.ble (len * sz) 16777216=true) (hs2:Nat.beq (len * sz) 0=false)
  (hf:Instr.fill (λi=>some (i * sz,sz)) ((Array.range (len * sz)).map (z.cells[· % z.cells.size]!)) ((parts.toList.map (·.1)).zip vs)=some cells.toArray) (hd:d<c.n)
  (hnx:∀ b,St c ops K rest ((d,.slice (some ⟨b,0,none⟩) len len)::e) (pt b (cl cells E)::h)) :
  St c ops K (⟨some d,.buildSlice T len parts,ty,pos,after,none⟩::rest) e h :=
 eF (by simp) λa w hk hh hs => by
  obtain ⟨ie,h1,h2,h3,h4⟩:=hE.parts
  have hmap:∀ (l:List (Nat×Operand)) (vs:List Value),l.mapM (λp=>e.ev? p.2)=some vs->(l.map λp=>(p.1,a.eval p.2))=(l.map (·.1)).zip vs:=by
   intro l
   induction l with
   | nil=>intro vs hv; simp at hv; subst hv; rfl
   | cons p t ih =>
    intro vs hv
    simp only [List.mapM_cons,Option.bind_eq_bind,Option.bind_eq_some_iff,Option.pure_def,Option.some.injEq] at hv
    obtain ⟨u,hu,us,hus,rfl⟩:=hv
    simp [hk.ev hu,ih us hus]
  have hpl:(parts.map λ(i,x)=>(i,a.eval x)).toList=(parts.toList.map (·.1)).zip vs:=by
   rw [<- hmap parts.toList vs hvs]; simp
  have:=yj (P:=c.P) w T E len (parts.map λ(i,x)=>(i,a.eval x)) cells.toArray ie z hT h1 h2 (by rw [h3]; have:=Nat.le_of_ble_eq_true hs1; omega)
   (by rw [h3]; intro h0; rw [h0] at hs2; cases hs2) (by rw [h3,hpl]; exact hf)
  simp only [execOp,Sem.run_bind,this,Result.andThen_ok,Sem.run_pure]
  exact hnx _ _ _ (hk.put _ hd) (Holds.alloc hh _)<|hs.trans (Grew.alloc _ _ rfl).toSame

/-! ## A row that grows -/
def vec (v:Value) (E:TypeId) (sz n:Nat) (l:List Value):Res where
 dom b:=∃ m cp,v = .slice (some ⟨b,0,none⟩) m cp
 ok f:=l.length=n * sz/\((v = .slice none 0 0/\n=0)∨∃ b cp j,v = .slice (some ⟨b,0,none⟩) n cp/\f b=some (cl (l++j) E)/\n≤cp/\cp≤maxLen/\(l++j).length=cp * sz)
 loc f g he:=λ⟨h1,h2⟩=>⟨h1,h2.imp id λ⟨b,cp,j,hv,hb,hr⟩=>⟨b,cp,j,hv,by rw [<- he b ⟨n,cp,hv⟩]; exact hb,hr⟩⟩
 pres f:=λ⟨_,h2⟩ b ⟨m,cp,hv⟩=>by
  rcases h2 with ⟨h3,_⟩ | ⟨b',cp',j,h3,hb,_⟩
  ·rw [h3] at hv; cases hv
  ·rw [h3] at hv; cases hv; rw [hb]; rfl
end

section
variable {P:Program} {e:Env} {h h':SH} {ty:TypeId}
def PtT (P:Program) (T E:TypeId):Prop:=P.underlying T=some (.pointer E)
theorem dH {T E t':TypeId} {x y:Operand} {a:Option Addr} {n cp:Nat} (hx:e.ev? x=some (.slice a n cp)) (hy:e.ev? y=some (.slice none 0 0)) (hT:P.underlying T=some (.slice E)):Vop P e h (.binOp .eql T x y t') ty (.bool a.isNone):=
 ⟨by simp,by simp,λρ w d pos after g hρ _=>by
  have hq:∀ k,(Op.equalIn (k+1) T (.slice a n cp)<|.slice none 0 0).run P w = .ok a.isNone w:=λk=>by cases a <;> simp [Op.equalIn,run_underlying hT]
  simp [execOp,hρ x _ hx,hρ y _ hy,eqGuard_at_slice,binOp,Op.equal,Op.maxDepth,hq 9999]⟩
theorem ym {T E t':TypeId} {x y:Operand} {a:Option Addr} {n cp:Nat} (hx:e.ev? x=some (.slice a n cp)) (hy:e.ev? y=some (.slice none 0 0)) (hT:P.underlying T=some (.slice E)):Vop P e h (.binOp .neq T x y t') ty (.bool (!a.isNone)):=
 ⟨by simp,by simp,λρ w d pos after g hρ _=>by
  have hq:∀ k,(Op.equalIn (k+1) T (.slice a n cp)<|.slice none 0 0).run P w = .ok a.isNone w:=λk=>by cases a <;> simp [Op.equalIn,run_underlying hT]
  simp [execOp,hρ x _ hx,hρ y _ hy,eqGuard_at_slice,binOp,Op.equal,Op.maxDepth,hq 9999]⟩
end

/-! ## A part of a row is written -/
theorem Holds.setRow {w:World} {b:Nat} {l:List Value} {T:TypeId} {k:SH} (hh:Holds w (pt b (cl l T)::k)) (l':List Value):Holds (w.setRow b l'.toArray) (pt b (cl l' T)::k):=
 Holds.modify hh (setRow_heap w b l.toArray l'.toArray T (0,0) hh.1) λ_ hc=>setRow_other w b _ _ hc
theorem Same.setRow (w:World) (b:Nat) (cs:Array Value) {l:List Value} {T:TypeId} (hb:w.heap[b]? = some (cl l T)):Same w (w.setRow b cs):=⟨rfl,rfl,rfl,Nat.le_refl _,by simp,oP (b:=b) (λo ho=>by rw [hb] at ho; cases ho; rfl) (λo ho=>by rw [setRow_heap w b l.toArray cs T (0,0) hb] at ho; cases ho; rfl) λc hc=>setRow_other w b c _ hc⟩
def splice (l:List Value) (o:Nat) (vs:List Value):List Value:=l.take o++vs++l.drop (o+vs.length)

section
variable {c:Cx} {ops:Array Oper} {K:Act->World->Prop} {rest:List Oper} {e:Env} {h h' hr:SH}
end

/-! ## Maps from numbers -/
def ng (m:List (Int×Value)):List (Value×Value):=m.map λp=>(.int .i64 p.1,p.2)
def sO (m:List (Int×Value)) (k:Int):Option Value:=(m.find? (·.1 == k)).map (·.2)
def nR:List (Int×Value)->Int->Value->List (Int×Value)
 | [],k,v=>[(k,v)]
 | p::t,k,v=>if p.1=k then (k,v)::t else p::nR t k v
def Brn (es:Array MapEntry) (ck:Nat) (m:List (Int×Value)):Prop:=(∀ x∈es.toList,x.born<ck)/\(es.toList.map (·.born)).Nodup/\(m.map (·.1)).Nodup
def mpr (b:Nat) (m:List (Int×Value)):Res where
 dom:=(· = b)
 ok f:=∃ es ck,f b=some (.map es ck)/\es.toList.map (λx=>(x.key,x.val))=ng m/\Brn es ck m
 loc f g he:=λ⟨es,ck,h1,h2⟩=>⟨es,ck,by rw [<- he b rfl]; exact h1,h2⟩
 pres f:=λ⟨es,ck,h1,_⟩ b' hb=>by rw [hb,h1]; rfl

def dI (m:List (Int×Value)) (k:Int):Option (Nat×Value):=(m.findIdx? (·.1 == k)).bind λj=>(sO m k).map λv=>(j,v)
theorem uT (k : Int) : ∀ (es : List MapEntry) (m : List (Int × Value)) (i : Nat), es.map (λx => (x.key, x.val)) = ng m ->
  Instr.findNow (.int .i64) (.int .i64 k) es i=some ((dI m k).map λp=>(i+p.1,p.2))
 | [],m,i,h=>by
  have:m=[]:=by cases m with | nil=>rfl | cons _ _=>simp [ng] at h
  subst this; simp [Instr.findNow,dI]
 | x :: es, m, i, h => by
  cases m with
  | nil=>simp [ng] at h
  | cons p t =>
   simp only [List.map_cons,ng,List.cons.injEq,Prod.mk.injEq] at h
   obtain ⟨⟨h1,h2⟩,h3⟩:=h
   unfold Instr.findNow
   rw [h1]
   by_cases hp:p.1=k
   ·simp [Instr.sameNow,hp,sO,List.findIdx?_cons,h2,dI]
   ·have hpk:(k == p.1)=false:=by simp; exact λe=>hp e.symm
    have hpk':(p.1 == k)=false:=by simp [hp]
    have ih:=uT k es t (i+1) h3
    simp only [Instr.sameNow,if_true,hpk]
    rw [ih]
    simp only [dI,List.findIdx?_cons,hpk',Bool.false_eq_true,if_false,sO,List.find?_cons,Option.some.injEq]
    cases t.findIdx? (·.1 == k) with
    | none=>rfl
    | some j=>simp only [Option.map_some,Option.bind_some]; cases h:(List.find? (·.1 == k) t) <;> simp [Nat.add_assoc,Nat.add_comm 1 j]

theorem sP {m:List (Int×Value)} {k:Int}:(m.findIdx? (·.1 == k)=none↔sO m k=none):=by
 simp [sO,List.findIdx?_eq_none_iff,List.find?_eq_none]
theorem xH (k : Int) (v : Value) : ∀ (es : List MapEntry) (m : List (Int × Value)) (i : Nat), es.map (λx => (x.key, x.val)) = ng m -> m.findIdx? (·.1 == k) = some i ->
  (es.modify i<|λx=>{ x with key:=.int .i64 k,val:=v }).map (λx=>(x.key,x.val))=ng (nR m k v)
 | [],m,i,h,hi=>by
  have:m=[]:=by cases m with | nil=>rfl | cons _ _=>simp [ng] at h
  subst this; simp at hi
 | x :: es, m, i, h, hi => by
  cases m with
  | nil=>simp at hi
  | cons p t =>
   simp only [List.map_cons,ng,List.cons.injEq,Prod.mk.injEq] at h
   obtain ⟨⟨h1,h2⟩,h3⟩:=h
   by_cases hp:p.1=k
   ·simp [List.findIdx?_cons,hp] at hi
    subst hi
    simp [nR,hp,ng,h3,List.modify]
   ·have hpk':(p.1 == k)=false:=by simp [hp]
    simp only [List.findIdx?_cons,hpk',Bool.false_eq_true,if_false,Option.map_eq_some_iff] at hi
    obtain ⟨j,hj,rfl⟩:=hi
    have ih:=xH k v es t j h3 hj
    simp only [List.modify_succ_cons,List.map_cons,ih,nR,hp,if_false,ng,h1,h2]

theorem mJ (f:MapEntry->MapEntry):∀ (l:List MapEntry) (j:Nat),(∀ x,(f x).born=x.born)->(l.modify j f).map (·.born)=l.map (·.born)
 | [],_,_=>by simp
 | x::t,0,h=>by simp [List.modify,h]
 | x::t,j+1,h=>by simp only [List.modify_succ_cons,List.map_cons,mJ f t j h]
theorem Cc : ∀ (m : List (Int × Value)) (k : Int) (v : Value) (x : Int), x ∈ (nR m k v).map (·.1) -> x = k ∨ x ∈ m.map (·.1)
 | [],k,v,x,h=>by simp [nR] at h; exact .inl h
 | p::t,k,v,x,h=>by
  unfold nR at h
  split at h
  ·simp only [List.map_cons,List.mem_cons] at h ⊢
   exact h.imp id .inr
  ·simp only [List.map_cons,List.mem_cons] at h ⊢
   rcases h with h | h
   ·exact .inr<|.inl h
   ·exact (Cc t k v x h).imp id .inr
theorem zt : ∀ (m : List (Int × Value)) (k : Int) (v : Value), (m.map (·.1)).Nodup -> ((nR m k v).map (·.1)).Nodup
 | [],k,v,_=>by simp [nR]
 | p::t,k,v,h=>by
  rw [List.map_cons,List.nodup_cons] at h
  unfold nR
  split
  ·rename_i hp
   rw [List.map_cons,List.nodup_cons]
   exact ⟨by rw [<- hp]; exact h.1,h.2⟩
  ·rename_i hp
   rw [List.map_cons,List.nodup_cons]
   exact ⟨λhm=>(Cc t k v _ hm).elim hp h.1,zt t k v h.2⟩
def MpT (P:Program) (T K E:TypeId):Prop:=P.underlying T=some (.map K E)/\P.underlying K=some (.int .i64)

section
variable {P:Program} {e:Env} {h h':SH} {ty:TypeId}
theorem run_findKey {K:TypeId} (hK:P.underlying K=some (.int .i64)) {es:Array MapEntry} {m:List (Int×Value)} (hm:es.toList.map (λx=>(x.key,x.val))=ng m) (k:Int) (w:World) :
  (Instr.findKey K (.int .i64 k) es.toList).run P w = .ok (dI m k) w:=by
 unfold Instr.findKey
 simp only [Sem.run_bind,run_underlying hK,Result.andThen_ok,uT k es.toList m 0 hm,Sem.run_pure,Nat.zero_add]
 congr 1
 cases dI m k <;> rfl
theorem run_checkKey {K:TypeId} (hK:P.underlying K=some (.int .i64)) (b:Bool) (n:Nat) (k:Int) (w:World):(Instr.checkKey b (n+1) K (.int .i64 k)).run P w = .ok () w:=by
 unfold Instr.checkKey
 simp only [Sem.run_bind,run_underlying hK,Result.andThen_ok,Sem.run_pure]
theorem run_getObj_map {w:World} {b:Nat} {es:Array MapEntry} {ck:Nat} (hb:w.heap[b]? = some (.map es ck)):(getObj b).run P w = .ok (.map es ck) w:=by simp [getObj,Sem.run,hb]
end

section
variable {c:Cx} {ops:Array Oper} {K:Act->World->Prop} {rest:List Oper} {e:Env} {h h' hr:SH}
theorem dS (w:World) (b k:Nat) (o:Obj) (hk:k≠b):({ w with heap:=w.heap.setIfInBounds b o }:World).heap[k]? = w.heap[k]? := by
 simp [Array.getElem?_setIfInBounds_ne (Ne.symm hk)]
theorem Dz {T K' E ty : TypeId} {x y v : Operand} {pos : String} {after : Array Edge} {b : Nat} {m : List (Int × Value)} {k : Int} {u : Value} (hx : e.ev? x = some (.map (some b))) (hy : e.ev? y = some (.int .i64 k)) (hv : e.ev? v = some u)
  (hT:MpT c.P T K' E) (hs:Sel h (mpr b m) h') (hnx:St c ops K rest e (mpr b (nR m k u)::h')) :
  St c ops K (⟨none,.mapUpdate T x y v,ty,pos,after,none⟩::rest) e h :=
 eF (by simp) λa w hk hh hw => by
  have hh':=hh.sel hs
  obtain ⟨es,ck,h1,h2,b1,b2,b3⟩:=hh'.1
  have hnd:=zt m k u b3
  have h1':w.heap[b]? = some (.map es ck):=h1
  have hlt:b<w.heap.size:=(Array.getElem?_eq_some_iff.1 h1').1
  have hg:(getObj b).run c.P w = .ok (.map es ck) w:=run_getObj_map h1
  have hset:∀ o,(setObj b o).run c.P w = .ok () { w with heap:=w.heap.setIfInBounds b o }:=λo=>by simp [setObj,Sem.run,h1']
  have hnew:∀ es' ck',es'.toList.map (λx=>(x.key,x.val))=ng (nR m k u)->(∀ x∈es'.toList,x.born<ck')->(es'.toList.map (·.born)).Nodup->Holds { w with heap:=w.heap.setIfInBounds b (.map es' ck') } (mpr b (nR m k u)::h'):=λes' ck' he hb1 hb2=>by
   refine ⟨⟨es',ck',?_,he,hb1,hb2,hnd⟩,hh'.2.1,bu.loc hh'.2.2 λc hc=>?_⟩
   ·show (w.heap.setIfInBounds b _)[b]? = _
    simp [hlt]
   ·exact (dS w b c _<|λe=>hh'.2.1 b rfl (e ▸ hc)).symm
  have hsame:∀ es' ck',Same w { w with heap:=w.heap.setIfInBounds b (.map es' ck') }:=λes' ck'=>⟨rfl,rfl,rfl,Nat.le_refl _,by simp,oP (b:=b) (λo ho=>by rw [h1'] at ho; cases ho; rfl) (λo ho=>by
   have:(w.heap.setIfInBounds b<|.map es' ck')[b]? = some o:=ho
   simp [hlt] at this; rw [<- this]; rfl) λc hc=>dS w b c _ hc⟩
  have hrun : ∃ w', (Instr.mapUpdate T (.map<|some b) (.int .i64 k) u).run c.P w = .ok () w' /\ Holds w' (mpr b (nR m k u) :: h') /\ Same w w' := by
   unfold Instr.mapUpdate
   simp only [Sem.run_bind,run_underlying hT.1,Result.andThen_ok,hg,run_checkKey hT.2,run_findKey hT.2 h2]
   cases hi:m.findIdx? (·.1 == k) with
   | none =>
    have hl:=sP.1 hi
    have hf:dI m k=none:=by simp [dI,hi]
    simp only [hf,hset]
    refine ⟨_,rfl,hnew _ _ ?_ ?_ ?_,hsame _ _⟩
    rotate_left
    ·intro x hx
     simp only [Array.toList_push,List.mem_append,List.mem_singleton] at hx
     rcases hx with hx | rfl
     ·have:=b1 x hx; omega
     ·exact Nat.lt_succ_self _
    ·simp only [Array.toList_push,List.map_append,List.map_cons,List.map_nil]
     refine List.nodup_append.2 ⟨b2,by simp,λx hx y hy e=>?_⟩
     obtain ⟨z,hz,rfl⟩:=List.mem_map.1 hx
     have:=b1 z hz
     simp at hy
     omega
    have hup : nR m k u = m ++ [(k, u)] := by
     have:∀ (m:List (Int×Value)),sO m k=none->nR m k u=m++[(k,u)]:=by
      intro m
      induction m with
      | nil=>intro _; rfl
      | cons p t ih =>
       intro hm
       have hp:¬ p.1=k:=λe=>by simp [sO,e] at hm
       have hpk:(p.1 == k)=false:=by simp [hp]
       have ht:sO t k=none:=by simpa [sO,List.find?_cons,hpk] using hm
       simp [nR,hp,ih ht]
     exact this m hl
    rw [hup]
    simp only [Array.toList_push,List.map_append,List.map_cons,List.map_nil,h2,ng]
   | some j =>
    cases hl:sO m k with
    | none=>rw [sP.2 hl] at hi; cases hi
    | some v0 =>
     have hkey:((es[j]?).map (·.key)).getD (.int .i64 k) = .int .i64 k:=by
      cases hej:es[j]? with
      | none=>rfl
      | some x =>
       have h3:(es.toList.map<|λx=>(x.key,x.val))[j]? = some (x.key,x.val):=by simp [hej]
       rw [h2] at h3
       simp only [ng,List.getElem?_map,Option.map_eq_some_iff] at h3
       obtain ⟨p,hp,hpe⟩:=h3
       simp only [Prod.mk.injEq] at hpe
       have h4:=List.findIdx?_eq_some_iff_getElem.1 hi
       obtain ⟨hjl,h5,_⟩:=h4
       have:m[j]=p:=by rw [Zy hjl] at hp; exact Option.some.inj hp
       rw [this] at h5
       simp only [beq_iff_eq] at h5
       simp [<- hpe.1,h5]
     have hf:dI m k=some (j,v0):=by simp [dI,hi,hl]
     simp only [hf,hkey]
     have hstay:(Instr.keyThatStays (.int .i64 k)<|.int .i64 k).run c.P w = .ok (.int .i64 k) w:=by
      unfold Instr.keyThatStays
      rw [if_pos (by unfold Instr.sameBits; simp)]
      rfl
     simp only [Sem.run_bind,hstay,Result.andThen_ok,hset]
     have hmb:(es.toList.modify j<|λx=>{ x with key:=.int .i64 k,val:=u }).map (·.born)=es.toList.map (·.born):=mJ _ _ _<|λ_=>rfl
     refine ⟨_,rfl,hnew _ _ ?_ ?_ ?_,hsame _ _⟩
     rotate_left
     ·intro x hx
      rw [Array.toList_modify] at hx
      have hx':x.born∈(es.toList.modify j<|λx=>{ x with key:=.int .i64 k,val:=u }).map (·.born):=List.mem_map.2 ⟨x,hx,rfl⟩
      rw [hmb] at hx'
      obtain ⟨z,hz,he⟩:=List.mem_map.1 hx'
      have:=b1 z hz
      omega
     ·rw [Array.toList_modify,hmb]; exact b2
     have:=xH k u es.toList m j h2 hi
     simpa using this
  obtain ⟨w',hr,hH,hS⟩:=hrun
  simp only [execOp,hk.ev hx,hk.ev hy,hk.ev hv,Sem.run_bind,hr,Result.andThen_ok,Sem.run_pure]
  exact hnx _ _ hk hH<|hw.trans hS
theorem Ie {d:Nat} {T ty:TypeId} {pos:String} {after:Array Edge} (hd:d<c.n) (hnx:∀ b,St c ops K rest ((d,.map (some b))::e) (mpr b []::h)) :
  St c ops K (⟨some d,.makeMap T none,ty,pos,after,none⟩::rest) e h :=
 eF (by simp) λa w hk hh hw=>by
  simp only [execOp,Instr.makeMap,Option.map_none,Sem.run_bind,run_newObj_alloc,Result.andThen_ok,Sem.run_pure]
  have hA:=Holds.alloc hh (.map #[] 0)
  exact hnx _ _ _ (hk.put _ hd) ⟨⟨#[],0,hA.1,rfl,λx hx=>by simp at hx,List.nodup_nil,List.nodup_nil⟩,hA.2.1,hA.2.2⟩<|hw.trans (Grew.alloc _ _ rfl).toSame
end

section
variable {P:Program} {e:Env} {h h':SH} {ty:TypeId}
theorem aO {T : TypeId} {parts : Array (Nat × Operand)} {vs cells : List Value} (hvs : parts.toList.mapM (λp => e.ev? p.2) = some vs)
  (hb:∀ w,(Instr.build T ((parts.toList.map (·.1)).zip vs).toArray).run P w = .ok (.agg cells.toArray) w):Vop P e h (.build T parts) ty (.agg cells.toArray):=
 ⟨by simp, by simp, λρ w d pos after g hρ _ => by
  have hmap:∀ (l:List (Nat×Operand)) (vs:List Value),l.mapM (λp=>e.ev? p.2)=some vs->(l.map λp=>(p.1,ρ p.2))=(l.map (·.1)).zip vs:=by
   intro l
   induction l with
   | nil=>intro vs hv; simp at hv; subst hv; rfl
   | cons p t ih =>
    intro vs hv
    simp only [List.mapM_cons,Option.bind_eq_bind,Option.bind_eq_some_iff,Option.pure_def,Option.some.injEq] at hv
    obtain ⟨u,hu,us,hus,rfl⟩:=hv
    simp [hρ _ u hu,ih us hus]
  have hpl:(parts.map λ(i,x)=>(i,ρ x))=((parts.toList.map (·.1)).zip vs).toArray:=by
   rw [<- hmap parts.toList vs hvs]
   apply Array.toList_inj.1; simp
  simp only [execOp,hpl,Sem.run_bind,hb w,Result.andThen_ok,Sem.run_pure]⟩
end

/-! ## Guards: what is walked in two ways, and joined -/
def zu (e' e:Env):Prop:=∀ i v,e'.get? i=some v->e.get? i=some v
theorem uR {e:Env}:zu e e:=λ_ _ h=>h
theorem uH {e e':Env} {d:Nat} {u v:Value} (hv:u=v) (h:zu e e'):zu ((d,u)::e) ((d,v)::e'):=λi x hx=>by
 subst hv
 by_cases hd:d=i
 ·subst hd; simpa [Env.get?] using hx
 ·simp only [Env.get?,zk hd,cond_false] at hx ⊢; exact h i x hx
theorem uS {e e':Env} {d:Nat} {v:Value} (hn:e.get? d=none) (h:zu e e'):zu e ((d,v)::e'):=λi x hx=>by
 by_cases hd:d=i
 ·subst hd; rw [hn] at hx; cases hx
 ·simp only [Env.get?,zk hd,cond_false]; exact h i x hx
theorem Kn.ssub {n:Nat} {ds:List Deferred} {a:Act} {e e':Env} (h:Kn n ds a e) (hs:zu e' e):Kn n ds a e':=⟨h.size,h.defers,λi v hi=>h.get i v<|hs i v hi⟩
theorem aG {p:Prop} {b:Bool} (want:Bool) (h1:b = !want->p) (h2:b=want->p):p:=by
 cases b <;> cases want <;> first | exact h1 rfl | exact h2 rfl
theorem bG {e:Env} {g:Nat} {b want:Bool} (hg:e.get? g=some (.bool b)) (h:b=want):e.get? g=some (.bool want):=h ▸ hg
theorem bO {e:Env} {g:Operand} {b want:Bool} (hg:e.ev? g=some (.bool b)) (h:b=want):e.ev? g=some (.bool want):=h ▸ hg
section
variable {c:Cx} {K:Act->World->Prop} {rest:List Oper} {e:Env} {h hC:SH} {pre:Nat->Bool}
theorem bf {l:List Oper} {k d:Nat} {v:Value} (h2:(∀ e2,zu ((d,v)::e) e2->St c l.toArray K (l.drop k) e2 h)->St c l.toArray K rest e h) (h1:St c l.toArray K (l.drop k) ((d,v)::e) h):St c l.toArray K rest e h :=
 h2 λ_ hs a w hk hh hw=>h1 a w (hk.ssub hs) hh hw
def Ord.drop:Nat->Ord->Ord
 | 0,t=>t
 | n+1,.cons _ t=>Ord.drop n t
 | n+1,.pure _ t=>Ord.drop n t
 | _,t=>t
theorem DrL.ssub {ops:Array Oper} {t:Ord} {e':Env} (hs:zu e' e) (hn:DrL c ops pre hC K t e' h):DrL c ops pre hC K t e h:=by
 cases t with
 | nil=>exact λa w hk hh hw=>hn a w (hk.ssub hs) hh hw
 | cons p t =>
  obtain ⟨i,b⟩:=p
  cases b with
  | true =>
   obtain ⟨h1,o,v,h2,h3,e2,h4,h5⟩:=hn
   exact ⟨h1,o,v,h2,λa hk=>h3 a (hk.ssub hs),e2,λa hk=>h4 a (hk.ssub hs),h5⟩
  | false =>
   obtain ⟨o,h1,h2,h3⟩:=hn
   exact ⟨o,h1,λa hk=>h2 a (hk.ssub hs),λa w hk hh hw=>h3 a w (hk.ssub hs) hh hw⟩
 | two i t j u =>
  obtain ⟨⟨o,h1,h2,h3⟩,⟨o',h4,h5,h6⟩⟩:=hn
  exact ⟨⟨o,h1,λa hk=>h2 a (hk.ssub hs),λa w hk hh hw=>h3 a w (hk.ssub hs) hh hw⟩,⟨o',h4,λa hk=>h5 a (hk.ssub hs),λa w hk hh hw=>h6 a w (hk.ssub hs) hh hw⟩⟩
 | three i t j u k v =>
  obtain ⟨⟨o,h1,h2,h3⟩,⟨o',h4,h5,h6⟩,⟨o'',h7,h8,h9⟩⟩:=hn
  exact ⟨⟨o,h1,λa hk=>h2 a (hk.ssub hs),λa w hk hh hw=>h3 a w (hk.ssub hs) hh hw⟩,⟨o',h4,λa hk=>h5 a (hk.ssub hs),λa w hk hh hw=>h6 a w (hk.ssub hs) hh hw⟩,⟨o'',h7,λa hk=>h8 a (hk.ssub hs),λa w hk hh hw=>h9 a w (hk.ssub hs) hh hw⟩⟩
 | pure i t =>
  obtain ⟨o,v,h2,h3,e2,h4,h5⟩:=hn
  exact ⟨o,v,h2,λa hk=>h3 a (hk.ssub hs),e2,λa hk=>h4 a (hk.ssub hs),h5⟩
theorem DC {ops:Array Oper} {t:Ord} {k d:Nat} {v:Value} (h2:(∀ e2,zu ((d,v)::e) e2->DrL c ops pre hC K (t.drop k) e2 h)->DrL c ops pre hC K t e h) (h1:DrL c ops pre hC K (t.drop k) ((d,v)::e) h):DrL c ops pre hC K t e h :=
 h2 λ_ hs=>DrL.ssub hs h1
end
section
variable {P:Program} {e:Env} {h:SH} {ty:TypeId}
end
end Go.Ck
