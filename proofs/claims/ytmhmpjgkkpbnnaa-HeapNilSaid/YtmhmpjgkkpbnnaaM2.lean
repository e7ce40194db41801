/-
  A region that draws its order: one walk along an order that is checked by computation serves every order. Operations that only read what stays may come ahead of those with an effect. Generic: nothing of the program is named here. No condition.
  Rows that grow: make, a list of elements, append, slices of rows, copy, clear. Generic: nothing of the program is named here. No condition.
  Slice expressions, clear, copy, pointers compared, maps from numbers. Generic: nothing of the program is named here. No condition.
  Maps from numbers: look-up, store, make. Pairs of numbers and truths held against each other. Generic: nothing of the program is named here. No condition.
-/
import Derived.Test.YtmhmpjgkkpbnnaaM1
import Derived.Deep.DeepAppendWide
import Derived.LaidEqlPtr
import Derived.Laws.CopyRow
namespace Go.Ck
open Go

theorem getD_falses (m j : Nat) : (Array.replicate m false).getD j false = false := by
  rcases Nat.lt_or_ge j m with h | h
  · simp [h]
  · simp [h]

section
variable {c : Cx} {ops : Array Oper} {pre : Nat → Bool} {hC : SH} {K : Act → World → Prop}

def opH (c : Cx) (ops : Array Oper) (pre : Nat → Bool) (hC : SH) (i : Nat) (N : Act → SH → Prop) (a : Act) (h : SH) : Prop :=
  match ops[i]? with
  | none => False
  | some o => if Region.wanted o (yielded ops a.tmps) then ∀ w, Holds w h → Same c.w0 w → OpV c.P c.r o a w fun v w' => ∃ h', Holds w' h' ∧ Same c.w0 w' ∧ (pre i = true → Sub hC h → Sub hC h') ∧ N (a.put o.dst v) h'
      else N (a.put o.dst undef) h
theorem opH_mono {i : Nat} {N N' : Act → SH → Prop} {a : Act} {h : SH} (hn : ∀ a h, N a h → N' a h) (hh : opH c ops pre hC i N a h) : opH c ops pre hC i N' a h := by
  unfold opH at *
  split
  · rename_i ho; rw [ho] at hh; exact hh
  · rename_i o ho
    simp only [ho] at hh
    split
    · rename_i hw
      rw [if_pos hw] at hh
      exact fun w h1 h2 => (hh w h1 h2).mono fun v w' ⟨h', g1, g2, g3, g4⟩ => ⟨h', g1, g2, g3, hn _ _ g4⟩
    · rename_i hw
      rw [if_neg hw] at hh
      exact hn _ _ hh

def AnyH (c : Cx) (ops : Array Oper) (pre : Nat → Bool) (hC : SH) (K : Act → World → Prop) : Nat → Array Bool → Act → SH → Prop
  | 0, listed, a, h => Region.ready .any ops listed = [] ∧ ∀ w, Holds w h → Same c.w0 w → K a w
  | f + 1, listed, a, h => (Region.ready .any ops listed = [] → ∀ w, Holds w h → Same c.w0 w → K a w) ∧ ∀ i ∈ Region.ready .any ops listed, opH c ops pre hC i (AnyH c ops pre hC K f (listed.setIfInBounds i true)) a h

theorem AnyH.wp {Q : Exit → Act → World → Prop} (hQ : ∀ a w, K a w → Q .normal a w) : ∀ (f : Nat) (listed : Array Bool) (a : Act) (h : SH) (w : World), AnyH c ops pre hC K f listed a h → Holds w h → Same c.w0 w →
    wpAnyIn (Fw c.r) 0 c.P .any ops Q f listed a w
  | 0, _, _, _, w, H, h1, h2 => ⟨H.1, hQ _ _ (H.2 w h1 h2)⟩
  | f + 1, listed, a, h, w, H, h1, h2 => by
    refine ⟨fun h0 => hQ _ _ (H.1 h0 w h1 h2), fun i hi => ?_⟩
    have hh := H.2 i hi
    unfold opH at hh
    unfold wpOpIn
    split
    · rename_i ho; rw [ho] at hh; exact hh.elim
    · rename_i o ho
      simp only [ho] at hh
      split
      · rename_i hw
        rw [if_pos hw] at hh
        exact OpW.wpIn ((hh w h1 h2).mono fun v w' ⟨h', g1, g2, _, g4⟩ => AnyH.wp hQ f _ _ h' w' g4 g1 g2)
      · rename_i hw
        rw [if_neg hw] at hh
        exact ⟨fun _ _ => trivial, AnyH.wp hQ f _ _ h w hh h1 h2⟩

/-! ### What waits for what -/
inductive Dep (ops : Array Oper) : Nat → Nat → Prop
  | direct {j i : Nat} {o : Oper} {e : Edge} : ops[j]? = some o → e ∈ o.after → Region.binds .any e = true → e.on = i → Dep ops j i
  | trans {j i : Nat} {o : Oper} {e : Edge} : ops[j]? = some o → e ∈ o.after → Region.binds .any e = true → Dep ops e.on i → Dep ops j i
def Closed (ops : Array Oper) (listed : Array Bool) : Prop := ∀ j o, ops[j]? = some o → listed.getD j false = true → ∀ e ∈ o.after, Region.binds .any e = true → listed.getD e.on false = true
theorem Dep.listed {listed : Array Bool} (hc : Closed ops listed) {j i : Nat} (h : Dep ops j i) (hj : listed.getD j false = true) : listed.getD i false = true := by
  induction h with
  | direct ho he hb hi => subst hi; exact hc _ _ ho hj _ he hb
  | trans ho he hb _ ih => exact ih (hc _ _ ho hj _ he hb)
theorem Dep.notReady {listed : Array Bool} (hc : Closed ops listed) {j i : Nat} (h : Dep ops j i) (hi : listed.getD i false = false) : j ∉ Region.ready .any ops listed := fun hr => by
  obtain ⟨_, o, ho, hall⟩ := mem_ready.1 hr
  cases h with
  | direct ho' he hb hi' =>
    rw [ho] at ho'; cases ho'
    subst hi'
    rw [hall _ he hb] at hi; cases hi
  | trans ho' he hb hd =>
    rw [ho] at ho'; cases ho'
    rw [hd.listed hc (hall _ he hb)] at hi; cases hi
theorem Closed.set {listed : Array Bool} (hc : Closed ops listed) {i : Nat} (hi : i ∈ Region.ready .any ops listed) : Closed ops (listed.setIfInBounds i true) := fun j o ho hl e he hb => by
  obtain ⟨_, oi, hoi, hall⟩ := mem_ready.1 hi
  by_cases hij : i = j
  · subst hij
    rw [hoi] at ho; cases ho
    exact getD_set_true (hall e he hb)
  · rw [getD_set_ne false hij] at hl
    exact getD_set_true (hc j o ho hl e he hb)

/-! ### An operation that only reads what stays may be taken first -/
def YieldsH (c : Cx) (ops : Array Oper) (hC : SH) (o : Oper) (v : Value) (a : Act) : Prop :=
  (Region.wanted o (yielded ops a.tmps) = true ∧ ∀ x w, Holds w (hC ++ x) → Same c.w0 w → OpV c.P c.r o a w fun u w' => u = v ∧ Holds w' (hC ++ x) ∧ Same c.w0 w') ∨
  (Region.wanted o (yielded ops a.tmps) = false ∧ v = undef)

theorem semAt_put {r : Option Nat} {o : Oper} (hs : ∀ cs b, o.op ≠ .select cs b) (hd : ∀ k, o.op ≠ .defer k) (a : Act) (dst : Option Tmp) (v : Value) (h : ∀ d, dst = some d → d ∉ o.looksAt ops) :
    o.semAt r (a.put dst v).eval = o.semAt r a.eval := by
  rw [Oper.semAt_eq _ _ _ hd, Oper.semAt_eq _ _ _ hd, execOp_put o hs a dst v h]

theorem YieldsH.put {oi oj : Oper} {v : Value} {a : Act} (hs : ∀ cs b, oi.op ≠ .select cs b) (hd : ∀ k, oi.op ≠ .defer k) (hap : ∀ d, oj.dst = some d → d ∉ oi.looksAt ops) (u : Value) (hy : YieldsH c ops hC oi v a) : YieldsH c ops hC oi v (a.put oj.dst u) := by
  unfold YieldsH OpV at *
  rw [semAt_put hs hd a oj.dst u hap, wanted_put oi a oj.dst u hap]
  exact hy

theorem YieldsH.opH {i : Nat} {o : Oper} {v : Value} {a : Act} {h hP : SH} (hi : ops[i]? = some o) (hsub : Sub hP h) (hy : YieldsH c ops hP o v a) {N : Act → SH → Prop} (hn : N (a.put o.dst v) h) : opH c ops pre hC i N a h := by
  unfold Ck.opH
  simp only [hi]
  rcases hy with ⟨hw, hv⟩ | ⟨hw, rfl⟩
  · simp only [hw, if_true]
    intro w h1 h2
    obtain ⟨x, hx⟩ := hsub
    exact (hv x w (h1.perm hx) h2).mono fun u w' ⟨e, g1, g2⟩ => ⟨h, g1.perm hx.symm, g2, fun _ hs => hs, e ▸ hn⟩
  · simp only [hw, Bool.false_eq_true, if_false]; exact hn

theorem anyH_first {i : Nat} {oi : Oper} {v : Value} {hP : SH} (hkp : hP = hC ∨ hP = []) (hi : ops[i]? = some oi) (hsel : ∀ (j : Nat) (o : Oper), ops[j]? = some o → (∀ cs b, o.op ≠ .select cs b) ∧ ∀ k, o.op ≠ .defer k) :
    ∀ (f : Nat) (listed : Array Bool) (a : Act) (h : SH), Closed ops listed → Sub hP h →
      (∀ j oj, ops[j]? = some oj → j ≠ i → listed.getD j true = false → (∀ e ∈ oj.after, Region.binds .any e = true → e.on ≠ i) → oi.apart ops oj = true) →
      (hP = [] ∨ ∀ j, j ≠ i → listed.getD j true = false → pre j = false → Dep ops j i) →
      i ∈ Region.ready .any ops listed → YieldsH c ops hP oi v a →
      AnyH c ops pre hC K f (listed.setIfInBounds i true) (a.put oi.dst v) h → AnyH c ops pre hC K (f + 1) listed a h := by
  intro f
  induction f with
  | zero =>
    intro listed a h _ hsub _ _ hr hy H
    refine ⟨fun h0 => (by rw [h0] at hr; cases hr), fun j hj => ?_⟩
    by_cases hji : j = i
    · subst hji; exact hy.opH hi hsub H
    · have := ready_mono hj hji
      rw [H.1] at this
      cases this
  | succ f ih =>
    intro listed a h hcl hsub hfree hdep hr hy H
    refine ⟨fun h0 => (by rw [h0] at hr; cases hr), fun j hj => ?_⟩
    by_cases hji : j = i
    · subst hji; exact hy.opH hi hsub H
    · have h1 := H.2 j (ready_mono hj hji)
      obtain ⟨hjun, oj, hoj, hall⟩ := mem_ready.1 hj
      have hiun : listed.getD i false = false := by
        have h0 := (mem_ready.1 hr).1
        rcases Nat.lt_or_ge i listed.size with h' | h'
        · simp [h'] at h0 ⊢; exact h0
        · simp [Array.getElem?_eq_none h']
      have hkeep : ∀ h', (pre j = true → Sub hC h → Sub hC h') → Sub hP h' := fun h' k => by
        rcases hdep with h0 | hdep
        · subst h0; exact Sub.nil _
        · rcases hkp with h0 | h0
          · subst h0
            refine k ?_ hsub
            cases hp : pre j with
            | true => rfl
            | false => exact absurd hj ((hdep j hji hjun hp).notReady hcl hiun)
          · subst h0; exact Sub.nil _
      have hnot : ∀ e ∈ oj.after, Region.binds .any e = true → e.on ≠ i := fun e he hb heq => by
        have h1 := hall e he hb
        rw [heq, hiun] at h1; cases h1
      obtain ⟨ap1, ap2, ap3⟩ := Oper.apart_spec (hfree j oj hoj hji hjun hnot)
      have hnext : ∀ (u : Value) (h' : SH), Sub hP h' → AnyH c ops pre hC K f ((listed.setIfInBounds i true).setIfInBounds j true) ((a.put oi.dst v).put oj.dst u) h' → AnyH c ops pre hC K (f + 1) (listed.setIfInBounds j true) (a.put oj.dst u) h' := by
        intro u h' hs' hN
        refine ih _ _ h' (hcl.set hj) hs' (fun k ok hk hki hun hno => hfree k ok hk hki ?_ hno) (hdep.imp id fun hdep k hki hun hp => hdep k hki (by
            by_cases hjk : j = k
            · subst hjk; exact hjun
            · rw [getD_set_ne true hjk] at hun; exact hun) hp) (ready_mono hr (Ne.symm hji)) (hy.put (hsel i oi hi).1 (hsel i oi hi).2 ap3 u) ?_
        · by_cases hjk : j = k
          · subst hjk; exact hjun
          · rw [getD_set_ne true hjk] at hun; exact hun
        · rw [Array.setIfInBounds_comm _ _ hji, ← Act.put_comm a v u ap2]
          exact hN
      unfold opH at h1 ⊢
      simp only [hoj] at h1 ⊢
      rw [wanted_put oj a oi.dst v ap1] at h1
      split
      · rename_i hw
        rw [if_pos hw] at h1
        intro w g1 g2
        have h2 := h1 w g1 g2
        unfold OpV at h2 ⊢
        rw [semAt_put (hsel j oj hoj).1 (hsel j oj hoj).2 a oi.dst v ap1] at h2
        exact opUpon_mono (fun u w' ⟨h', k1, k2, k3, k4⟩ => ⟨h', k1, k2, k3, hnext u h' (hkeep h' k3) k4⟩) h2
      · rename_i hw
        rw [if_neg hw] at h1
        exact hnext undef h hsub h1

/-! ### The check of an order -/
def tb (M : Array Nat) (j i : Nat) : Bool := (M.getD j 0).testBit i
def tbOk (ops : Array Oper) (M : Array Nat) : Bool :=
  (List.range ops.size).all fun j => (List.range ops.size).all fun i => !tb M j i || (match ops[j]? with
    | some o => o.after.any fun e => Region.binds .any e && (e.on == i || (decide (e.on < j) && tb M e.on i))
    | none => false)
theorem tbOk_dep {M : Array Nat} (hok : tbOk ops M = true) : ∀ (j i : Nat), j < ops.size → i < ops.size → tb M j i = true → Dep ops j i := by
  intro j
  induction j using Nat.strongRecOn with
  | _ j ih =>
    intro i hj hi ht
    have h1 := List.all_eq_true.1 (List.all_eq_true.1 hok j (List.mem_range.2 hj)) i (List.mem_range.2 hi)
    rw [ht] at h1
    simp only [Bool.not_true, Bool.false_or] at h1
    cases ho : ops[j]? with
    | none => rw [ho] at h1; cases h1
    | some o =>
      rw [ho] at h1
      obtain ⟨e, he, hb⟩ := Array.any_eq_true'.1 h1
      simp only [Bool.and_eq_true, Bool.or_eq_true, beq_iff_eq, decide_eq_true_eq] at hb
      rcases hb.2 with h2 | ⟨h2, h3⟩
      · exact .direct ho he hb.1 h2
      · exact .trans ho he hb.1 (ih e.on h2 i (by omega) hi h3)

/-- An order of a region's operations: each one only reads (true), or is the only one that may come up; or two may come up. -/
inductive Ord where
  | nil
  | cons (x : Nat × Bool) (t : Ord)
  | two (i : Nat) (t : Ord) (j : Nat) (u : Ord)
  | pure (i : Nat) (t : Ord)
def Ord.length : Ord → Nat
  | .nil => 0
  | .cons _ t => t.length + 1
  | .two _ t _ _ => t.length + 1
  | .pure _ t => t.length + 1
def ork : List (Nat × Nat) → Ord → Ord
  | [], o => o
  | (i, 0) :: t, o => .cons (i, false) (ork t o)
  | (i, 1) :: t, o => .cons (i, true) (ork t o)
  | (i, _) :: t, o => .pure i (ork t o)
def ol : List (Nat × Bool) → Ord → Ord
  | [], o => o
  | x :: t, o => .cons x (ol t o)
def okPi (ops : Array Oper) (pre : Nat → Bool) (M : Array Nat) : Ord → Array Bool → Bool
  | .nil, listed => (Region.ready .any ops listed).isEmpty
  | .cons (i, true) t, listed => (Region.ready .any ops listed).contains i && Region.free .any ops listed i && pre i &&
      ((List.range ops.size).all fun j => j == i || listed.getD j true || pre j || tb M j i) && okPi ops pre M t (listed.setIfInBounds i true)
  | .cons (i, false) t, listed => decide (Region.ready .any ops listed = [i]) && okPi ops pre M t (listed.setIfInBounds i true)
  | .two i t j u, listed => decide (Region.ready .any ops listed = [i, j]) && decide (t.length = u.length) && okPi ops pre M t (listed.setIfInBounds i true) && okPi ops pre M u (listed.setIfInBounds j true)
  | .pure i t, listed => (Region.ready .any ops listed).contains i && Region.free .any ops listed i && okPi ops pre M t (listed.setIfInBounds i true)
def noSelDef (ops : Array Oper) : Bool := ops.all fun o => match o.op with | .select _ _ => false | .defer _ => false | _ => true
theorem noSelDef_spec (h : noSelDef ops = true) : ∀ (j : Nat) (o : Oper), ops[j]? = some o → (∀ cs b, o.op ≠ .select cs b) ∧ ∀ k, o.op ≠ .defer k := fun j o ho => by
  have hm : o ∈ ops := Array.mem_of_getElem? ho
  have := Array.all_eq_true'.1 h o hm
  exact ⟨(fun cs b e => by rw [e] at this; cases this), (fun k e => by rw [e] at this; cases this)⟩

/-- The walk along an order. -/
def DrL (c : Cx) (ops : Array Oper) (pre : Nat → Bool) (hC : SH) (K : Act → World → Prop) : Ord → Env → SH → Prop
  | .nil, e, h => Nx c K e h
  | .cons (i, true) t, e, h => Sub hC h ∧ ∃ o v, ops[i]? = some o ∧ (∀ a, Kn c.n c.ds a e → YieldsH c ops hC o v a) ∧ ∃ e', (∀ a, Kn c.n c.ds a e → Kn c.n c.ds (a.put o.dst v) e') ∧ DrL c ops pre hC K t e' h
  | .cons (i, false) t, e, h => ∃ o, ops[i]? = some o ∧ (∀ a, Kn c.n c.ds a e → Region.wanted o (yielded ops a.tmps) = true) ∧ St c ops (fun a' w' => ∃ e' h', Kn c.n c.ds a' e' ∧ Holds w' h' ∧ Same c.w0 w' ∧ (pre i = true → Sub hC h → Sub hC h') ∧ DrL c ops pre hC K t e' h') [o] e h
  | .two i t j u, e, h =>
      (∃ o, ops[i]? = some o ∧ (∀ a, Kn c.n c.ds a e → Region.wanted o (yielded ops a.tmps) = true) ∧ St c ops (fun a' w' => ∃ e' h', Kn c.n c.ds a' e' ∧ Holds w' h' ∧ Same c.w0 w' ∧ (pre i = true → Sub hC h → Sub hC h') ∧ DrL c ops pre hC K t e' h') [o] e h) ∧
      (∃ o, ops[j]? = some o ∧ (∀ a, Kn c.n c.ds a e → Region.wanted o (yielded ops a.tmps) = true) ∧ St c ops (fun a' w' => ∃ e' h', Kn c.n c.ds a' e' ∧ Holds w' h' ∧ Same c.w0 w' ∧ (pre j = true → Sub hC h → Sub hC h') ∧ DrL c ops pre hC K u e' h') [o] e h)
  | .pure i t, e, h => ∃ o v, ops[i]? = some o ∧ (∀ a, Kn c.n c.ds a e → YieldsH c ops [] o v a) ∧ ∃ e', (∀ a, Kn c.n c.ds a e → Kn c.n c.ds (a.put o.dst v) e') ∧ DrL c ops pre hC K t e' h

theorem opH_of_eff {i : Nat} {e : Env} {h : SH} {a : Act} {N : Act → SH → Prop} {L : Env → SH → Prop} (hk : Kn c.n c.ds a e)
    (H : ∃ o, ops[i]? = some o ∧ (∀ a, Kn c.n c.ds a e → Region.wanted o (yielded ops a.tmps) = true) ∧ St c ops (fun a' w' => ∃ e' h', Kn c.n c.ds a' e' ∧ Holds w' h' ∧ Same c.w0 w' ∧ (pre i = true → Sub hC h → Sub hC h') ∧ L e' h') [o] e h)
    (hN : ∀ a' e' h', Kn c.n c.ds a' e' → L e' h' → N a' h') : opH c ops pre hC i N a h := by
  obtain ⟨o, ho, hwant, hs⟩ := H
  unfold opH
  simp only [ho]
  rw [if_pos (hwant a hk)]
  intro w h1 h2
  have h3 := hs a w hk h1 h2
  unfold LsW at h3
  rw [if_pos (hwant a hk)] at h3
  exact OpV.mono (fun v w' ⟨e', h', k1, k2, k3, k4, k5⟩ => ⟨h', k2, k3, k4, hN _ e' h' k1 k5⟩) h3

theorem DrL.any {M : Array Nat} (hsel : noSelDef ops = true) (hM : tbOk ops M = true) : ∀ (p : Ord) (listed : Array Bool) (e : Env) (h : SH) (a : Act), listed.size = ops.size → Closed ops listed → okPi ops pre M p listed = true →
    DrL c ops pre hC K p e h → Kn c.n c.ds a e → AnyH c ops pre hC K p.length listed a h
  | .nil, listed, e, h, a, _, _, hB, H, hk => ⟨by simpa [okPi] using hB, fun w h1 h2 => H a w hk h1 h2⟩
  | .cons (i, true) t, listed, e, h, a, hsz, hcl, hB, H, hk => by
    simp only [okPi, Bool.and_eq_true] at hB
    obtain ⟨⟨⟨⟨hr, hf⟩, hp⟩, hd⟩, hB'⟩ := hB
    obtain ⟨hsub, o, v, ho, hy, e', he', hn⟩ := H
    have hr' : i ∈ Region.ready .any ops listed := by simpa using hr
    have hilt : i < ops.size := (Array.getElem?_eq_some_iff.1 ho).1
    refine anyH_first (.inl rfl) ho (noSelDef_spec hsel) t.length listed a h hcl hsub (Region.free_spec ho hf) (.inr fun j hji hun hpj => ?_) hr' (hy a hk)
      (DrL.any hsel hM t _ e' h _ (by simpa using hsz) (hcl.set hr') hB' hn (he' a hk))
    have hjlt : j < ops.size := by
      rcases Nat.lt_or_ge j ops.size with h' | h'
      · exact h'
      · rw [← hsz] at h'; simp [Array.getElem?_eq_none h'] at hun
    have h1 := List.all_eq_true.1 hd j (List.mem_range.2 hjlt)
    simp only [Bool.or_eq_true, beq_iff_eq, hji, hun, hpj, Bool.false_eq_true, or_false, false_or] at h1
    exact tbOk_dep hM j i hjlt hilt h1
  | .cons (i, false) t, listed, e, h, a, hsz, hcl, hB, H, hk => by
    simp only [okPi, Bool.and_eq_true, decide_eq_true_eq] at hB
    obtain ⟨hr, hB'⟩ := hB
    refine ⟨fun h0 => (by rw [hr] at h0; cases h0), fun j hj => ?_⟩
    rw [hr] at hj
    have hji : j = i := by simpa using hj
    subst hji
    have hrj : j ∈ Region.ready .any ops listed := by rw [hr]; simp
    exact opH_of_eff hk H fun a' e' h' k1 k2 => DrL.any hsel hM t _ e' h' a' (by simpa using hsz) (hcl.set hrj) hB' k2 k1
  | .two i t k u, listed, e, h, a, hsz, hcl, hB, H, hk => by
    simp only [okPi, Bool.and_eq_true, decide_eq_true_eq] at hB
    obtain ⟨⟨⟨hr, hlen⟩, hB1⟩, hB2⟩ := hB
    refine ⟨fun h0 => (by rw [hr] at h0; cases h0), fun j hj => ?_⟩
    have hrj := hj
    rw [hr] at hj
    have hji : j = i ∨ j = k := by simpa using hj
    rcases hji with e' | e'
    · subst e'
      exact opH_of_eff hk H.1 fun a' e' h' k1 k2 => DrL.any hsel hM t _ e' h' a' (by simpa using hsz) (hcl.set hrj) hB1 k2 k1
    · subst e'
      refine opH_of_eff hk H.2 fun a' e' h' k1 k2 => ?_
      have := DrL.any hsel hM u _ e' h' a' (by simpa using hsz) (hcl.set hrj) hB2 k2 k1
      rw [← hlen] at this
      exact this
  | .pure i t, listed, e, h, a, hsz, hcl, hB, H, hk => by
    simp only [okPi, Bool.and_eq_true] at hB
    obtain ⟨⟨hr, hf⟩, hB'⟩ := hB
    obtain ⟨o, v, ho, hy, e', he', hn⟩ := H
    have hr' : i ∈ Region.ready .any ops listed := by simpa using hr
    exact anyH_first (.inr rfl) ho (noSelDef_spec hsel) t.length listed a h hcl (Sub.nil _) (Region.free_spec ho hf) (.inl rfl) hr' (hy a hk)
      (DrL.any hsel hM t _ e' h _ (by simpa using hsz) (hcl.set hr') hB' hn (he' a hk))
theorem cd_draw {c : Cx} {id : Nat} {l : List Oper} {Q : Exit → Act → World → Prop} {e : Env} {h : SH} (p : Ord) (pre : Nat → Bool) (hC : SH) (hm : c.P.follows .mixedOrders = true)
    (hB : (noSelDef l.toArray && tbOk l.toArray (Region.before l.toArray) && okPi l.toArray pre (Region.before l.toArray) p (Array.replicate l.toArray.size false) && decide (p.length = l.toArray.size)) = true)
    (hd : DrL c l.toArray pre hC (Q .normal) p e h) : Cd c (.region id l.toArray true) Q e h := fun a w hk hh hw => by
  simp only [Bool.and_eq_true, decide_eq_true_eq] at hB
  obtain ⟨⟨⟨h1, h2⟩, h3⟩, h4⟩ := hB
  refine wpIn_region_any hm ?_
  rw [← h4]
  have hcl : Closed l.toArray (Array.replicate l.toArray.size false) := fun j o _ hl => by rw [getD_falses] at hl; cases hl
  have hany := DrL.any h1 h2 p _ e h a (by simp) hcl h3 hd hk
  rw [h4] at hany ⊢
  exact AnyH.wp (fun _ _ hq => hq) _ _ _ _ _ hany (Holds.grew hh (Grew.drawn w _)) (hw.trans (Grew.drawn w _).toSame)

/-! ### The steps of such a walk -/
variable {e : Env} {h : SH} {t : Ord}
theorem dr_nil (hn : Nx c K e h) : DrL c ops pre hC K .nil e h := hn
theorem dr_val {i d : Nat} {op : Op} {ty : TypeId} {pos : String} {after : Array Edge} {v : Value} (hi : ops[i]? = some ⟨some d, op, ty, pos, after, none⟩) (hs : Sub hC h) (hv : Vop c.P e hC op ty v) (hd : d < c.n)
    (hn : DrL c ops pre hC K t ((d, v) :: e) h) : DrL c ops pre hC K (.cons (i, true) t) e h :=
  ⟨hs, _, v, hi, fun a hk => .inl ⟨by simp [Region.wanted], fun x w h1 h2 => by
    unfold OpV
    rw [Oper.semAt_eq _ _ _ hv.1, hv.2.2 a.eval w _ _ _ _ hk.evs (HoldsF.append.1 h1).1]
    exact ⟨rfl, h1, h2⟩⟩, _, fun a hk => hk.put v hd, hn⟩
theorem yields_guard {g gd : Nat} {b : Bool} (hg : ((ops[g]?).bind (·.dst)) = some gd) (hgv : e.get? gd = some (.bool b)) {n : Nat} {ds : List Deferred} {a : Act} (hk : Kn n ds a e) : yielded ops a.tmps g = some b := by
  unfold yielded
  cases ho : ops[g]? with
  | none => simp [ho] at hg
  | some o => simp only [ho, Option.bind_some] at hg; simp [hg, hk.get gd _ hgv]
theorem dr_valg {i d g gd : Nat} {op : Op} {ty : TypeId} {pos : String} {after : Array Edge} {v : Value} {want : Bool} (hi : ops[i]? = some ⟨some d, op, ty, pos, after, some (g, want)⟩) (hg : ((ops[g]?).bind (·.dst)) = some gd) (hgv : e.get? gd = some (.bool want))
    (hs : Sub hC h) (hv : Vop c.P e hC op ty v) (hd : d < c.n)
    (hn : DrL c ops pre hC K t ((d, v) :: e) h) : DrL c ops pre hC K (.cons (i, true) t) e h :=
  ⟨hs, _, v, hi, fun a hk => .inl ⟨by simp [Region.wanted, yields_guard hg hgv hk], fun x w h1 h2 => by
    unfold OpV
    rw [Oper.semAt_eq _ _ _ hv.1, hv.2.2 a.eval w _ _ _ _ hk.evs (HoldsF.append.1 h1).1]
    exact ⟨rfl, h1, h2⟩⟩, _, fun a hk => hk.put v hd, hn⟩
theorem dr_skip {i d g gd : Nat} {op : Op} {ty : TypeId} {pos : String} {after : Array Edge} {want b : Bool} (hi : ops[i]? = some ⟨some d, op, ty, pos, after, some (g, want)⟩) (hg : ((ops[g]?).bind (·.dst)) = some gd) (hgv : e.get? gd = some (.bool b)) (hb : b = !want)
    (hs : Sub hC h) (hd : d < c.n) (hn : DrL c ops pre hC K t ((d, undef) :: e) h) : DrL c ops pre hC K (.cons (i, true) t) e h :=
  ⟨hs, _, undef, hi, fun a hk => .inr ⟨by subst hb; cases want <;> simp [Region.wanted, yields_guard hg hgv hk], rfl⟩, _, fun a hk => hk.put undef hd, hn⟩
theorem dr_skip_none {i g gd : Nat} {op : Op} {ty : TypeId} {pos : String} {after : Array Edge} {want b : Bool} (hi : ops[i]? = some ⟨none, op, ty, pos, after, some (g, want)⟩) (hg : ((ops[g]?).bind (·.dst)) = some gd) (hgv : e.get? gd = some (.bool b)) (hb : b = !want)
    (hs : Sub hC h) (hn : DrL c ops pre hC K t e h) : DrL c ops pre hC K (.cons (i, true) t) e h :=
  ⟨hs, _, undef, hi, fun a hk => .inr ⟨by subst hb; cases want <;> simp [Region.wanted, yields_guard hg hgv hk], rfl⟩, _, fun a hk => hk, hn⟩
/-! Those that look at no block. -/
theorem drp_val {i d : Nat} {op : Op} {ty : TypeId} {pos : String} {after : Array Edge} {v : Value} (hi : ops[i]? = some ⟨some d, op, ty, pos, after, none⟩) (hv : Vop c.P e [] op ty v) (hd : d < c.n)
    (hn : DrL c ops pre hC K t ((d, v) :: e) h) : DrL c ops pre hC K (.pure i t) e h :=
  ⟨_, v, hi, fun a hk => .inl ⟨by simp [Region.wanted], fun x w h1 h2 => by
    unfold OpV
    rw [Oper.semAt_eq _ _ _ hv.1, hv.2.2 a.eval w _ _ _ _ hk.evs trivial]
    exact ⟨rfl, h1, h2⟩⟩, _, fun a hk => hk.put v hd, hn⟩
theorem drp_valg {i d g gd : Nat} {op : Op} {ty : TypeId} {pos : String} {after : Array Edge} {v : Value} {want : Bool} (hi : ops[i]? = some ⟨some d, op, ty, pos, after, some (g, want)⟩) (hg : ((ops[g]?).bind (·.dst)) = some gd) (hgv : e.get? gd = some (.bool want))
    (hv : Vop c.P e [] op ty v) (hd : d < c.n)
    (hn : DrL c ops pre hC K t ((d, v) :: e) h) : DrL c ops pre hC K (.pure i t) e h :=
  ⟨_, v, hi, fun a hk => .inl ⟨by simp [Region.wanted, yields_guard hg hgv hk], fun x w h1 h2 => by
    unfold OpV
    rw [Oper.semAt_eq _ _ _ hv.1, hv.2.2 a.eval w _ _ _ _ hk.evs trivial]
    exact ⟨rfl, h1, h2⟩⟩, _, fun a hk => hk.put v hd, hn⟩
theorem drp_skip {i d g gd : Nat} {op : Op} {ty : TypeId} {pos : String} {after : Array Edge} {want b : Bool} (hi : ops[i]? = some ⟨some d, op, ty, pos, after, some (g, want)⟩) (hg : ((ops[g]?).bind (·.dst)) = some gd) (hgv : e.get? gd = some (.bool b)) (hb : b = !want)
    (hd : d < c.n) (hn : DrL c ops pre hC K t ((d, undef) :: e) h) : DrL c ops pre hC K (.pure i t) e h :=
  ⟨_, undef, hi, fun a hk => .inr ⟨by subst hb; cases want <;> simp [Region.wanted, yields_guard hg hgv hk], rfl⟩, _, fun a hk => hk.put undef hd, hn⟩
theorem drp_skip_none {i g gd : Nat} {op : Op} {ty : TypeId} {pos : String} {after : Array Edge} {want b : Bool} (hi : ops[i]? = some ⟨none, op, ty, pos, after, some (g, want)⟩) (hg : ((ops[g]?).bind (·.dst)) = some gd) (hgv : e.get? gd = some (.bool b)) (hb : b = !want)
    (hn : DrL c ops pre hC K t e h) : DrL c ops pre hC K (.pure i t) e h :=
  ⟨_, undef, hi, fun a hk => .inr ⟨by subst hb; cases want <;> simp [Region.wanted, yields_guard hg hgv hk], rfl⟩, _, fun a hk => hk, hn⟩
theorem yields_call {f : Operand} {as : Array Operand} {ts : Array TypeId} {ty : TypeId} {pos : String} {after : Array Edge} {d : Option Nat} {gu : Option (Nat × Bool)} {k : FuncId} {fi cp : Array Value} {vs : List Value} {args : Array Value} {hf hr : SH} {v : Value}
    (hv : e.ev? f = some (.func (.func k) fi cp)) (has : as.toList.mapM e.ev? = some vs) (hE : Enters c.P k) (ha : fi ++ vs.toArray ++ cp = args) (ct : Reads c.P k args hf v) (pk : Pk hC hf hr) {a : Act} (hk : Kn c.n c.ds a e)
    (hw : Region.wanted ⟨d, .call { callee := .value f, args := as, argTypes := ts }, ty, pos, after, gu⟩ (yielded ops a.tmps) = true) :
    YieldsH c ops hC ⟨d, .call { callee := .value f, args := as, argTypes := ts }, ty, pos, after, gu⟩ v a :=
  .inl ⟨hw, fun x w h1 h2 => by
    unfold OpV
    rw [Oper.semAt_eq _ _ _ (by simp), run_call hv has hE ha hk.evs]
    have hp : (hC ++ x).Perm (hf ++ (hr ++ x)) := (pk.perm.append_right x).trans (by rw [List.append_assoc])
    exact (ct (hr ++ x) w (h1.perm hp)).mono fun _ w' ⟨u, h', he, ⟨hu, hh'⟩, hH, hS⟩ => ⟨u, he, hu, by subst hh'; exact hH.perm hp.symm, h2.trans hS⟩⟩
theorem dr_call {i d : Nat} {f : Operand} {as : Array Operand} {ts : Array TypeId} {ty : TypeId} {pos : String} {after : Array Edge} {k : FuncId} {fi cp : Array Value} {vs : List Value} {args : Array Value} {hf hr : SH} {v : Value}
    (hi : ops[i]? = some ⟨some d, .call { callee := .value f, args := as, argTypes := ts }, ty, pos, after, none⟩) (hs : Sub hC h)
    (hv : e.ev? f = some (.func (.func k) fi cp)) (has : as.toList.mapM e.ev? = some vs) (hE : Enters c.P k) (ha : fi ++ vs.toArray ++ cp = args) (ct : Reads c.P k args hf v) (pk : Pk hC hf hr) (hd : d < c.n)
    (hn : DrL c ops pre hC K t ((d, v) :: e) h) : DrL c ops pre hC K (.cons (i, true) t) e h :=
  ⟨hs, _, v, hi, fun _ hk => yields_call hv has hE ha ct pk hk (by simp [Region.wanted]), _, fun _ hk => hk.put v hd, hn⟩
theorem dr_callg {i d g gd : Nat} {f : Operand} {as : Array Operand} {ts : Array TypeId} {ty : TypeId} {pos : String} {after : Array Edge} {k : FuncId} {fi cp : Array Value} {vs : List Value} {args : Array Value} {hf hr : SH} {v : Value} {want : Bool}
    (hi : ops[i]? = some ⟨some d, .call { callee := .value f, args := as, argTypes := ts }, ty, pos, after, some (g, want)⟩) (hg : ((ops[g]?).bind (·.dst)) = some gd) (hgv : e.get? gd = some (.bool want)) (hs : Sub hC h)
    (hv : e.ev? f = some (.func (.func k) fi cp)) (has : as.toList.mapM e.ev? = some vs) (hE : Enters c.P k) (ha : fi ++ vs.toArray ++ cp = args) (ct : Reads c.P k args hf v) (pk : Pk hC hf hr) (hd : d < c.n)
    (hn : DrL c ops pre hC K t ((d, v) :: e) h) : DrL c ops pre hC K (.cons (i, true) t) e h :=
  ⟨hs, _, v, hi, fun _ hk => yields_call hv has hE ha ct pk hk (by simp [Region.wanted, yields_guard hg hgv hk]), _, fun _ hk => hk.put v hd, hn⟩
/-- An operation with an effect. -/
def EffK (c : Cx) (ops : Array Oper) (pre : Nat → Bool) (hC : SH) (K : Act → World → Prop) (i : Nat) (t : Ord) (h : SH) (a' : Act) (w' : World) : Prop :=
  ∃ e' h', Kn c.n c.ds a' e' ∧ Holds w' h' ∧ Same c.w0 w' ∧ (pre i = true → Sub hC h → Sub hC h') ∧ DrL c ops pre hC K t e' h'
theorem dr_eff {i : Nat} {d : Option Nat} {op : Op} {ty : TypeId} {pos : String} {after : Array Edge} (hi : ops[i]? = some ⟨d, op, ty, pos, after, none⟩)
    (hn : St c ops (EffK c ops pre hC K i t h) [⟨d, op, ty, pos, after, none⟩] e h) : DrL c ops pre hC K (.cons (i, false) t) e h :=
  ⟨_, hi, fun _ _ => by simp [Region.wanted], hn⟩
theorem dr_nextR {i : Nat} {h0 : SH} (hs : pre i = true → Sub hC h0 → Sub hC h) (hn : DrL c ops pre hC K t e h) : St c ops (EffK c ops pre hC K i t h0) [] e h :=
  fun _ _ hk hh hw => ⟨e, h, hk, hh, hw, hs, hn⟩
theorem dr_next {i : Nat} {h0 : SH} (hs : pre i = true → Sub hC h) (hn : DrL c ops pre hC K t e h) : St c ops (EffK c ops pre hC K i t h0) [] e h := dr_nextR (fun hp _ => hs hp) hn
theorem dr_two {i j : Nat} {t u : Ord} {d d' : Option Nat} {op op' : Op} {ty ty' : TypeId} {pos pos' : String} {after after' : Array Edge} (hi : ops[i]? = some ⟨d, op, ty, pos, after, none⟩) (hj : ops[j]? = some ⟨d', op', ty', pos', after', none⟩)
    (h1 : St c ops (EffK c ops pre hC K i t h) [⟨d, op, ty, pos, after, none⟩] e h) (h2 : St c ops (EffK c ops pre hC K j u h) [⟨d', op', ty', pos', after', none⟩] e h) : DrL c ops pre hC K (.two i t j u) e h :=
  ⟨⟨_, hi, fun _ _ => by simp [Region.wanted], h1⟩, ⟨_, hj, fun _ _ => by simp [Region.wanted], h2⟩⟩
theorem DrL.weaken {e' : Env} (hs : Env.sub e' e) (hn : DrL c ops pre hC K t e' h) : DrL c ops pre hC K t e h := by
  cases t with
  | nil => exact Nx.weaken hs hn
  | cons p t =>
    obtain ⟨i, b⟩ := p
    cases b with
    | true =>
      obtain ⟨h1, o, v, h2, h3, e2, h4, h5⟩ := hn
      exact ⟨h1, o, v, h2, fun a hk => h3 a (hk.weaken hs), e2, fun a hk => h4 a (hk.weaken hs), h5⟩
    | false =>
      obtain ⟨o, h1, h2, h3⟩ := hn
      exact ⟨o, h1, fun a hk => h2 a (hk.weaken hs), fun a w hk hh hw => h3 a w (hk.weaken hs) hh hw⟩
  | two i t j u =>
    obtain ⟨⟨o, h1, h2, h3⟩, ⟨o', h4, h5, h6⟩⟩ := hn
    exact ⟨⟨o, h1, fun a hk => h2 a (hk.weaken hs), fun a w hk hh hw => h3 a w (hk.weaken hs) hh hw⟩, ⟨o', h4, fun a hk => h5 a (hk.weaken hs), fun a w hk hh hw => h6 a w (hk.weaken hs) hh hw⟩⟩
  | pure i t =>
    obtain ⟨o, v, h2, h3, e2, h4, h5⟩ := hn
    exact ⟨o, v, h2, fun a hk => h3 a (hk.weaken hs), e2, fun a hk => h4 a (hk.weaken hs), h5⟩
theorem dr_keep {e' : Env} {ks : List Nat} (hk : Keep e ks e') (hn : DrL c ops pre hC K t e' h) : DrL c ops pre hC K t e h := hn.weaken hk.sub
end
/-- All that is known stays while the operations that only read are walked. -/
theorem cd_drawh {c : Cx} {id : Nat} {l : List Oper} {Q : Exit → Act → World → Prop} {e : Env} {h : SH} (p : Ord) (pre : Nat → Bool) (hm : c.P.follows .mixedOrders = true)
    (hB : (noSelDef l.toArray && tbOk l.toArray (Region.before l.toArray) && okPi l.toArray pre (Region.before l.toArray) p (Array.replicate l.toArray.size false) && decide (p.length = l.toArray.size)) = true)
    (hd : DrL c l.toArray pre h (Q .normal) p e h) : Cd c (.region id l.toArray true) Q e h := cd_draw p pre h hm hB hd
def allR' : Nat → Nat → Ord
  | _, 0 => .nil
  | i, n + 1 => .cons (i, true) (allR' (i + 1) n)
def allR (n : Nat) : Ord := allR' 0 n
end Go.Ck
namespace Go.Ck
open Go Go.RowKit

/-- What the program's table says of an element's type: its zero, its cells, its bytes. -/
def Inf (P : Program) (E : TypeId) (z : Value) (sz bytes : Nat) : Prop := (P.info? E).map (fun i => (i.zero, i.size, i.bytes)) = some (some z, sz, bytes)
theorem Inf.parts {P : Program} {E : TypeId} {z : Value} {sz bytes : Nat} (h : Inf P E z sz bytes) : ∃ i, P.info? E = some i ∧ i.zero = some z ∧ i.size = sz ∧ i.bytes = bytes := by
  unfold Inf at h
  cases hi : P.info? E with
  | none => rw [hi] at h; cases h
  | some i => rw [hi] at h; simp at h; exact ⟨i, rfl, h.1, h.2.1, h.2.2⟩
theorem Inf.sz {P : Program} {E : TypeId} {z : Value} {sz bytes : Nat} (h : Inf P E z sz bytes) : Sz P E sz := by
  obtain ⟨i, hi, _, hs, _⟩ := h.parts
  exact Sz.of hi hs

def ints (l : List Int) : List Value := l.map (Value.int .i64)
def bools (l : List Bool) : List Value := l.map Value.bool
theorem ints_length (l : List Int) : (ints l).length = l.length := by simp [ints]
theorem bools_length (l : List Bool) : (bools l).length = l.length := by simp [bools]
theorem ints_set (l : List Int) (i : Nat) (n : Int) : (ints l).set i (.int .i64 n) = ints (l.set i n) := by simp [ints, List.map_set]
theorem bools_set (l : List Bool) (i : Nat) (n : Bool) : (bools l).set i (.bool n) = bools (l.set i n) := by simp [bools, List.map_set]
theorem rd_ints {b k : Nat} {l : List Int} {j : List Value} {T : TypeId} (h : k < l.length) : Rd (pt b (cl (ints l ++ j) T)) ⟨b, k, none⟩ (.int .i64 (l.getD k 0)) :=
  rd_cl (by rw [List.getElem?_append_left (by rw [ints_length]; exact h)]; simp [ints, h])
theorem rd_bools {b k : Nat} {l : List Bool} {j : List Value} {T : TypeId} (h : k < l.length) : Rd (pt b (cl (bools l ++ j) T)) ⟨b, k, none⟩ (.bool (l.getD k false)) :=
  rd_cl (by rw [List.getElem?_append_left (by rw [bools_length]; exact h)]; simp [bools, h])

theorem run_buildSlice' {P : Program} (w : World) (t e : TypeId) (len : Nat) (parts : Array (Nat × Value)) (cells : Array Value) (ie : TypeInfo) (z : Value)
    (hu : P.underlying t = some (.slice e)) (hie : P.info? e = some ie) (hz : ie.zero = some z) (hsmall : ¬ len * ie.size > 2 ^ 24) (hpos : ¬ len * ie.size = 0)
    (h : Instr.fill (fun i => some (i * ie.size, ie.size)) ((Array.range (len * ie.size)).map (z.cells[· % z.cells.size]!)) parts.toList = some cells) :
    (Instr.buildSlice t len parts).run P w = .ok (.slice (some ⟨w.heap.size, 0, none⟩) len len) (w.alloc (.cells cells e)) := by
  simp [Instr.buildSlice, run_underlying hu, sizeOf, typeInfo, zeroValue, hie, hz, hsmall, hpos, h, newRow]

section
variable {c : Cx} {ops : Array Oper} {K : Act → World → Prop} {rest : List Oper} {e : Env} {h h' hr : SH}

/-- make([]T, n) -/
theorem st_make {d : Nat} {T E ty : TypeId} {x y : Operand} {pos : String} {after : Array Edge} {z : Value} {bytes n : Nat} {i : Int} (hx : e.ev? x = some (.int .i64 i)) (hy : e.ev? y = some (.int .i64 i)) (hn : i = (n : Int))
    (hT : c.P.underlying T = some (.slice E)) (hE : Inf c.P E z 1 bytes) (hz : z.cells = #[z]) (hb : bytes * n ≤ 281474976710656) (h63 : n ≤ 9223372036854775807) (hd : d < c.n)
    (hnx : ∀ b, St c ops K rest ((d, .slice (some ⟨b, 0, none⟩) n n) :: e) (pt b (cl (List.replicate n z) E) :: h)) :
    St c ops K (⟨some d, .makeSlice T x y, ty, pos, after, none⟩ :: rest) e h :=
  st_any (by simp) fun a w hk hh hs => by
    obtain ⟨ie, h1, h2, h3, h4⟩ := hE.parts
    subst hn
    have hm := run_make (P := c.P) w T E ie z hT h1 h2 .i64 .i64 n n (by omega) (by omega) (by rw [h4]; have h := Int.ofNat_le.2 hb; rw [Int.natCast_mul] at h; omega) (by omega)
    have hcl : (Obj.cells (madeCells z.cells ((n : Int).toNat * ie.size)) E) = cl (List.replicate n z) E := by
      simp only [cl, h3, Int.toNat_natCast, Nat.mul_one, Obj.cells.injEq, and_true]
      rw [hz]
      apply Array.ext'
      simp [madeCells]
      apply List.ext_getElem
      · simp
      · intro i h1 h2; simp [Nat.mod_one]
    rw [hcl] at hm
    simp only [Int.toNat_natCast] at hm
    simp only [execOp, hk.ev hx, hk.ev hy, Sem.run_bind, hm, Result.andThen_ok, Sem.run_pure]
    exact hnx _ _ _ (hk.put _ hd) (Holds.alloc hh _) (hs.trans (Grew.alloc _ _ rfl).toSame)

/-- []T{x, ..} -/
theorem st_buildSlice {d : Nat} {T E ty : TypeId} {len : Nat} {parts : Array (Nat × Operand)} {pos : String} {after : Array Edge} {z : Value} {sz bytes : Nat} {vs : List Value} {cells : List Value}
    (hvs : parts.toList.mapM (fun p => e.ev? p.2) = some vs) (hT : c.P.underlying T = some (.slice E)) (hE : Inf c.P E z sz bytes) (hs1 : Nat.ble (len * sz) 16777216 = true) (hs2 : Nat.beq (len * sz) 0 = false)
    (hf : Instr.fill (fun i => some (i * sz, sz)) ((Array.range (len * sz)).map (z.cells[· % z.cells.size]!)) ((parts.toList.map (·.1)).zip vs) = some cells.toArray) (hd : d < c.n)
    (hnx : ∀ b, St c ops K rest ((d, .slice (some ⟨b, 0, none⟩) len len) :: e) (pt b (cl cells E) :: h)) :
    St c ops K (⟨some d, .buildSlice T len parts, ty, pos, after, none⟩ :: rest) e h :=
  st_any (by simp) fun a w hk hh hs => by
    obtain ⟨ie, h1, h2, h3, h4⟩ := hE.parts
    have hmap : ∀ (l : List (Nat × Operand)) (vs : List Value), l.mapM (fun p => e.ev? p.2) = some vs → (l.map fun p => (p.1, a.eval p.2)) = (l.map (·.1)).zip vs := by
      intro l
      induction l with
      | nil => intro vs hv; simp at hv; subst hv; rfl
      | cons p t ih =>
        intro vs hv
        simp only [List.mapM_cons, Option.bind_eq_bind, Option.bind_eq_some_iff, Option.pure_def, Option.some.injEq] at hv
        obtain ⟨u, hu, us, hus, rfl⟩ := hv
        simp [hk.ev hu, ih us hus]
    have hpl : (parts.map fun (i, x) => (i, a.eval x)).toList = (parts.toList.map (·.1)).zip vs := by
      rw [← hmap parts.toList vs hvs]; simp
    have := run_buildSlice' (P := c.P) w T E len (parts.map fun (i, x) => (i, a.eval x)) cells.toArray ie z hT h1 h2 (by rw [h3]; have := Nat.le_of_ble_eq_true hs1; omega)
      (by rw [h3]; intro h0; rw [h0] at hs2; cases hs2) (by rw [h3, hpl]; exact hf)
    simp only [execOp, Sem.run_bind, this, Result.andThen_ok, Sem.run_pure]
    exact hnx _ _ _ (hk.put _ hd) (Holds.alloc hh _) (hs.trans (Grew.alloc _ _ rfl).toSame)

/-! ## A row that grows -/
/-- The slice v has n elements, whose cells are l; it owns its row. -/
def vec (v : Value) (E : TypeId) (sz n : Nat) (l : List Value) : Res where
  dom b := ∃ m cp, v = .slice (some ⟨b, 0, none⟩) m cp
  ok f := l.length = n * sz ∧ ((v = .slice none 0 0 ∧ n = 0) ∨ ∃ b cp j, v = .slice (some ⟨b, 0, none⟩) n cp ∧ f b = some (cl (l ++ j) E) ∧ n ≤ cp ∧ cp ≤ maxLen ∧ (l ++ j).length = cp * sz)
  loc f g he := fun ⟨h1, h2⟩ => ⟨h1, h2.imp id fun ⟨b, cp, j, hv, hb, hr⟩ => ⟨b, cp, j, hv, by rw [← he b ⟨n, cp, hv⟩]; exact hb, hr⟩⟩
  pres f := fun ⟨_, h2⟩ b ⟨m, cp, hv⟩ => by
    rcases h2 with ⟨h3, _⟩ | ⟨b', cp', j, h3, hb, _⟩
    · rw [h3] at hv; cases hv
    · rw [h3] at hv; cases hv; rw [hb]; rfl
theorem vec_nil (f : Nat → Option Obj) (E : TypeId) (sz : Nat) : (vec (.slice none 0 0) E sz 0 []).ok f := ⟨by simp, .inl ⟨rfl, rfl⟩⟩
theorem Holds.vec_nil {w : World} (hh : Holds w h) (E : TypeId) (sz : Nat) : Holds w (vec (.slice none 0 0) E sz 0 [] :: h) :=
  ⟨Ck.vec_nil _ E sz, (fun _ ⟨_, _, hv⟩ => by cases hv), hh⟩
theorem rd_vec {v : Value} {E : TypeId} {sz n : Nat} {l : List Value} {b m cp k : Nat} {x : Value} (hv : v = .slice (some ⟨b, 0, none⟩) m cp) (hx : l[k]? = some x) : Rd (vec v E sz n l) ⟨b, k, none⟩ x := fun w hw => by
  have hw' : l.length = n * sz ∧ ((v = .slice none 0 0 ∧ n = 0) ∨ ∃ b cp j, v = .slice (some ⟨b, 0, none⟩) n cp ∧ w.heap[b]? = some (cl (l ++ j) E) ∧ n ≤ cp ∧ cp ≤ maxLen ∧ (l ++ j).length = cp * sz) := hw
  rcases hw'.2 with ⟨h3, _⟩ | ⟨b', cp', j, h3, hb, _⟩
  · rw [h3] at hv; cases hv
  · rw [h3] at hv; cases hv
    have hk : k < l.length := (List.getElem?_eq_some_iff.1 hx).1
    simp [World.cell?, hb, cl, List.getElem?_append_left hk, hx]
/-- What a slice that owns its row looks like. -/
theorem vec_form {v : Value} {E : TypeId} {sz n : Nat} {l : List Value} {f : Nat → Option Obj} (h : (vec v E sz n l).ok f) : (v = .slice none 0 0 ∧ n = 0 ∧ l = []) ∨ ∃ b cp, v = .slice (some ⟨b, 0, none⟩) n cp ∧ n ≤ cp := by
  rcases h.2 with ⟨h3, h4⟩ | ⟨b, cp, j, h3, _, h5, _⟩
  · exact .inl ⟨h3, h4, List.eq_nil_of_length_eq_zero (by rw [h.1, h4]; simp)⟩
  · exact .inr ⟨b, cp, h3, h5⟩

theorem run_append_vec {P : Program} {t E : TypeId} (ty : TypeId) {z : Value} {sz bytes : Nat} (ht : P.underlying t = some (.slice E)) (hE : Inf P E z sz bytes) (hzs : z.cells.size = sz) (hsz : 0 < sz)
    {v : Value} {n : Nat} {xs : List Value} {w : World} (hh : Holds w (vec v E sz n xs :: h)) {src : Addr} {m cp : Nat} {news : List Value} (hl : news.length = m * sz)
    (hnews : ∀ j u, news[j]? = some u → w.cell? (src.add j) = some u) (h1 : ∀ u ∈ news, u.oneCell' = true) (hb : (n + m) * bytes ≤ 140737488355328) (h63 : n + m ≤ 9223372036854775807) :
    ∃ v' w', (Builtin.append_ #[t, t] ty #[v, .slice (some src) m cp]).run P w = .ok v' w' ∧ Holds w' (vec v' E sz (n + m) (xs ++ news) :: h) ∧ Same w w' ∧ (v' = .slice none 0 0 ↔ v = .slice none 0 0 ∧ m = 0) := by
  obtain ⟨i, hi, hz, hisz, hiby⟩ := hE.parts
  subst hisz hiby
  have hok : (vec v E i.size n xs).ok (hp w) := hh.1
  have hmax : maxLen = 9223372036854775807 := rfl
  have hlen : (xs ++ news).length = (n + m) * i.size := by rw [List.length_append, hok.1, hl, Nat.add_mul]
  -- a new row
  have newrow : ∀ (old : Nat), old < n + m → ∀ w1 : World, w1 = w.drew.alloc (.cells (xs.toArray ++ news.toArray ++ Builtin.zeroCells z.cells (grownCap w (n + m) old E - (n + m))) E) →
      Holds w1 (vec (.slice (some ⟨w.heap.size, 0, none⟩) (n + m) (grownCap w (n + m) old E)) E i.size (n + m) (xs ++ news) :: h) ∧ Same w w1 := by
    intro old ho w1 hw1
    have hge := grownCap_ge w (n + m) old E
    have hcm : grownCap w (n + m) old E ≤ maxLen := grownCap_le_maxLen w (n + m) old E (by rw [hmax]; exact h63)
    have hH : Holds w.drew h := Holds.grew hh.2.2 (Grew.drawn w _)
    have hA := Holds.alloc hH (.cells (xs.toArray ++ news.toArray ++ Builtin.zeroCells z.cells (grownCap w (n + m) old E - (n + m))) E)
    have hobj : (Obj.cells (xs.toArray ++ news.toArray ++ Builtin.zeroCells z.cells (grownCap w (n + m) old E - (n + m))) E) = cl ((xs ++ news) ++ (Builtin.zeroCells z.cells (grownCap w (n + m) old E - (n + m))).toList) E := by
      simp only [cl, Obj.cells.injEq, and_true]
      apply Array.ext'
      simp
    rw [hobj] at hA
    refine ⟨?_, ?_⟩
    · rw [hw1, hobj]
      refine ⟨⟨hlen, .inr ⟨w.heap.size, _, _, rfl, hA.1, hge, hcm, ?_⟩⟩, fun b ⟨m', cp', hv⟩ => ?_, hA.2.2⟩
      · rw [List.length_append, hlen, Array.length_toList, size_zeroCells, hzs, ← Nat.add_mul]
        congr 1; omega
      · cases hv; exact hA.2.1 _ rfl
    · rw [hw1]; exact (Grew.drawn w _).toSame.trans (Grew.alloc _ _ rfl).toSame
  rcases hok.2 with ⟨rfl, rfl⟩ | ⟨g, cap, j, rfl, hg, hnc, hcm, hcs⟩
  · have hx : xs = [] := List.eq_nil_of_length_eq_zero (by simpa using hok.1)
    subst hx
    by_cases hm : m = 0
    · subst hm
      have hn : news = [] := List.eq_nil_of_length_eq_zero (by simpa using hl)
      subst hn
      refine ⟨.slice none 0 0, w, ?_, hh, Same.refl w, by simp⟩
      simp [Builtin.append_, run_underlying ht, sizeOf, typeInfo, hi, Builtin.lenOf, Builtin.firstCells, loadCells, loadCellsFrom]
    · have hr := run_append_nil (P := P) w t ty E i z ht hi hz src m cp news hl hnews (by omega) (by omega) (by simp only [Nat.zero_add] at hb; omega)
      have := newrow 0 (by omega) _ rfl
      simp only [Nat.zero_add, List.nil_append, Array.empty_append] at this hr ⊢
      exact ⟨_, _, hr, this.1, this.2, by simp [hm]⟩
  · have hg' : w.heap[g]? = some (.cells (xs ++ j).toArray E (0, 0)) := hg
    by_cases hroom : n + m ≤ cap
    · have hfit : n * i.size + news.length ≤ (xs ++ j).toArray.size := by
        rw [hl, List.size_toArray, hcs, ← Nat.add_mul]; exact Nat.mul_le_mul_right _ hroom
      have hr := run_append_room (P := P) w t ty E i ht hi g n cap _ hg' src m cp news hl hnews h1 hroom hfit
      have hset := setRow_heap w g (xs ++ j).toArray ((xs ++ j).toArray.toList.take (n * i.size) ++ news ++ (xs ++ j).toArray.toList.drop (n * i.size + news.length)).toArray E (0, 0) hg'
      refine ⟨_, _, hr, ?_, ⟨rfl, rfl, rfl, by simp, fz_one (b := g) (fun o ho => by rw [hg'] at ho; cases ho; rfl) (fun o ho => by rw [hset] at ho; cases ho; rfl) fun c hc => setRow_other w g c _ hc⟩, by simp⟩
      have htk : (xs ++ j).take (n * i.size) = xs := by rw [← hok.1]; exact List.take_left
      simp only [htk] at hset ⊢
      refine ⟨⟨hlen, .inr ⟨g, cap, (xs ++ j).drop (n * i.size + news.length), rfl, hset, hroom, hcm, ?_⟩⟩, fun b ⟨m', cp', hv⟩ => ?_, ?_⟩
      · rw [List.length_append, hlen, List.length_drop, hcs, hl, ← Nat.add_mul]
        have : (n + m) * i.size ≤ cap * i.size := Nat.mul_le_mul_right _ hroom
        omega
      · cases hv; exact hh.2.1 _ ⟨_, _, rfl⟩
      · exact HoldsF.loc hh.2.2 fun b hb => (setRow_other w g b _ (fun e => hh.2.1 b ⟨n, cap, by rw [e]⟩ hb)).symm
    · have holds : ∀ k u, xs[k]? = some u → w.cell? ((⟨g, 0, none⟩ : Addr).add k) = some u := fun k u hu => by
        rw [Addr.add_lit, Nat.zero_add]; exact rd_vec (E := E) (sz := i.size) (n := n) rfl hu w hh.1
      have hr := run_append_grow (P := P) w t ty E i z ht hi hz ⟨g, 0, none⟩ n cap xs hok.1 holds src m cp news hl hnews (by omega) (by omega) (growslice_fits (by omega) hb)
      have := newrow cap (by omega) _ rfl
      exact ⟨_, _, hr, this.1, this.2, by simp⟩

theorem st_append {d : Nat} {t E ty : TypeId} {x y : Operand} {pos : String} {after : Array Edge} {z : Value} {sz bytes : Nat} {v : Value} {n : Nat} {xs : List Value} {sb so m cp : Nat} {news : List Value}
    (hx : e.ev? x = some v) (hy : e.ev? y = some (.slice (some ⟨sb, so, none⟩) m cp)) (ht : c.P.underlying t = some (.slice E)) (hE : Inf c.P E z sz bytes) (hzs : z.cells.size = sz) (hsz : 0 < sz)
    (hs : Sel h (vec v E sz n xs) h') (hl : news.length = m * sz) (hnews : ∀ j u, news[j]? = some u → At h ⟨sb, so + j, none⟩ u) (h1 : ∀ u ∈ news, u.oneCell' = true)
    (hb : (n + m) * bytes ≤ 140737488355328) (h63 : n + m ≤ 9223372036854775807) (hd : d < c.n)
    (hnx : ∀ v', (v' = .slice none 0 0 ↔ v = .slice none 0 0 ∧ m = 0) → v'.oneCell' = true → St c ops K rest ((d, v') :: e) (vec v' E sz (n + m) (xs ++ news) :: h')) :
    St c ops K (⟨some d, .call { callee := .builtin .append, args := #[x, y], argTypes := #[t, t] }, ty, pos, after, none⟩ :: rest) e h :=
  st_any (by simp) fun a w hk hh hw => by
    obtain ⟨v', w', hr, hH, hS, hv⟩ := run_append_vec (P := c.P) ty ht hE hzs hsz (hh.sel hs) (src := ⟨sb, so, none⟩) (cp := cp) hl (fun j u hu => by rw [Addr.add_lit]; exact (hnews j u hu).cell hh) h1 hb h63
    simp only [execOp, resolve, invoke, builtin, hk.ev hx, hk.ev hy, Sem.run_bind, Sem.run_pure, Result.andThen_ok, List.map_toArray, List.map_cons, List.map_nil, hr]
    exact hnx v' hv (by rcases vec_form hH.1 with ⟨h1, _⟩ | ⟨b, cp', h1, _⟩ <;> rw [h1] <;> rfl) _ w' (hk.put _ hd) hH (hw.trans hS)
end
end Go.Ck
namespace Go.Ck
open Go Go.RowKit

section
variable {P : Program} {e : Env} {h h' : SH} {ty : TypeId}
/-- s[lo:hi], a part that begins within the row. -/
theorem v_slice {T E : TypeId} {x y z : Operand} {b n cp lo hi : Nat} {i j : Int} {k k' : IntKind} (hx : e.ev? x = some (.slice (some ⟨b, 0, none⟩) n cp)) (hy : e.ev? y = some (.int k i)) (hz : e.ev? z = some (.int k' j)) (hT : SlE P T E 1)
    (hi' : i = (lo : Int)) (hj : j = (hi : Int)) (h1 : lo ≤ hi) (h2 : hi ≤ cp) (h3 : lo < cp) : Vop P e h (.slice T x (some y) (some z) none) ty (.slice (some ⟨b, lo, none⟩) (hi - lo) (cp - lo)) :=
  ⟨by simp, by simp, fun ρ w d pos after g hρ _ => by
    subst hi' hj
    have hT' : P.underlying T = some (.slice (P.elem T)) := by simp [Program.elem, hT.1]
    have he : P.elem T = E := by simp [Program.elem, hT.1]
    have hr := run_slice_lh (P := P) w T (some ⟨b, 0, none⟩) n cp hT' k k' lo hi (by omega) (by omega) (by omega)
    simp only [he, hT.2 w, Result.andThen_ok, sliced, Int.toNat_natCast, if_neg (show ¬ cp = lo by omega), Option.map_some, Addr.add_lit, Nat.mul_one, Nat.zero_add] at hr
    simp only [execOp, hρ x _ hx, Option.map_some, Option.map_none, hρ y _ hy, hρ z _ hz, Sem.run_bind, run_sliceAt_slice w T _ _ _ _ hT', hr, Result.andThen_ok, Sem.run_pure]⟩
/-- s[lo:] -/
theorem v_slice_lo {T E : TypeId} {x y : Operand} {b n cp lo : Nat} {i : Int} {k : IntKind} (hx : e.ev? x = some (.slice (some ⟨b, 0, none⟩) n cp)) (hy : e.ev? y = some (.int k i)) (hT : SlE P T E 1)
    (hi' : i = (lo : Int)) (h1 : lo ≤ n) (h3 : lo < cp) : Vop P e h (.slice T x (some y) none none) ty (.slice (some ⟨b, lo, none⟩) (n - lo) (cp - lo)) :=
  ⟨by simp, by simp, fun ρ w d pos after g hρ _ => by
    subst hi'
    have hT' : P.underlying T = some (.slice (P.elem T)) := by simp [Program.elem, hT.1]
    have he : P.elem T = E := by simp [Program.elem, hT.1]
    have hr := run_slice_l (P := P) w T (some ⟨b, 0, none⟩) n cp hT' k lo (by omega) (by omega)
    simp only [he, hT.2 w, Result.andThen_ok, sliced, Int.toNat_natCast, if_neg (show ¬ cp = lo by omega), Option.map_some, Addr.add_lit, Nat.mul_one, Nat.zero_add] at hr
    simp only [execOp, hρ x _ hx, Option.map_some, Option.map_none, hρ y _ hy, Sem.run_bind, run_sliceAt_slice w T _ _ _ _ hT', hr, Result.andThen_ok, Sem.run_pure]⟩

def PtT (P : Program) (T E : TypeId) : Prop := P.underlying T = some (.pointer E)
theorem PtT.pointee {T E : TypeId} (h : PtT P T E) : P.underlying T = some (.pointer (P.pointee T)) := by simp [Program.pointee, show P.underlying T = _ from h]
theorem v_eql_ptr_nil {T E t' : TypeId} {x y : Operand} {p : Option Addr} (hx : e.ev? x = some (.pointer p)) (hy : e.ev? y = some (.pointer none)) (hT : PtT P T E) : Vop P e h (.binOp .eql T x y t') ty (.bool p.isNone) :=
  ⟨by simp, by simp, fun ρ w d pos after g hρ _ => by
    simp [execOp, hρ x _ hx, hρ y _ hy, eqGuard_at_pointer, run_eql_pointer_nil (P := P) w T p hT.pointee]⟩
theorem v_neq_ptr_nil {T E t' : TypeId} {x y : Operand} {p : Option Addr} (hx : e.ev? x = some (.pointer p)) (hy : e.ev? y = some (.pointer none)) (hT : PtT P T E) : Vop P e h (.binOp .neq T x y t') ty (.bool (!p.isNone)) :=
  ⟨by simp, by simp, fun ρ w d pos after g hρ _ => by
    simp [execOp, hρ x _ hx, hρ y _ hy, eqGuard_at_pointer, run_neq_pointer_nil (P := P) w T p hT.pointee]⟩
theorem v_eql_ptr_same {T E t' : TypeId} {x y : Operand} {a : Addr} {j : TypeInfo} (hx : e.ev? x = some (.pointer (some a))) (hy : e.ev? y = some (.pointer (some a))) (hT : PtT P T E) (hE : P.info? E = some j) : Vop P e h (.binOp .eql T x y t') ty (.bool true) :=
  ⟨by simp, by simp, fun ρ w d pos after g hρ _ => by
    simp [execOp, hρ x _ hx, hρ y _ hy, eqGuard_at_pointer, run_eql_ptr_same (P := P) w a hT hE]⟩
theorem v_eql_ptr_other {T E t' : TypeId} {x y : Operand} {b b' o o' : Nat} {l l' : List Value} {S S' : TypeId} {j : TypeInfo} {h1 h2 : SH} (hx : e.ev? x = some (.pointer (some ⟨b, o, none⟩))) (hy : e.ev? y = some (.pointer (some ⟨b', o', none⟩))) (hT : PtT P T E) (hE : P.info? E = some j) (hj : j.size ≠ 0)
    (s1 : Sel h (pt b (cl l S)) h1) (s2 : Sel h1 (pt b' (cl l' S')) h2) : Vop P e h (.binOp .eql T x y t') ty (.bool false) :=
  ⟨by simp, by simp, fun ρ w d pos after g hρ hh => by
    have k1 := hh.sel s1
    have k2 := Holds.sel s2 k1.2.2
    have hne : b ≠ b' := fun e => k1.2.1 b rfl ((SH.dom_perm s2.perm).2 (.inl e))
    have g1 : w.heap[b]? = some (.cells l.toArray S (0, 0)) := k1.1
    have g2 : w.heap[b']? = some (.cells l'.toArray S' (0, 0)) := k2.1
    simp [execOp, hρ x _ hx, hρ y _ hy, eqGuard_at_pointer, run_eql_ptr_other (P := P) w (a := ⟨b, o, none⟩) (b := ⟨b', o', none⟩) hT hE hj (fun e => hne (congrArg Addr.block e)) g1 g2]⟩
theorem v_eql_slice_nil {T E t' : TypeId} {x y : Operand} {a : Option Addr} {n cp : Nat} (hx : e.ev? x = some (.slice a n cp)) (hy : e.ev? y = some (.slice none 0 0)) (hT : P.underlying T = some (.slice E)) : Vop P e h (.binOp .eql T x y t') ty (.bool a.isNone) :=
  ⟨by simp, by simp, fun ρ w d pos after g hρ _ => by
    have hq : ∀ k, (Op.equalIn (k + 1) T (.slice a n cp) (.slice none 0 0)).run P w = .ok a.isNone w := fun k => by cases a <;> simp [Op.equalIn, run_underlying hT]
    simp [execOp, hρ x _ hx, hρ y _ hy, eqGuard_at_slice, binOp, Op.equal, Op.maxDepth, hq 9999]⟩
theorem v_neq_slice_nil {T E t' : TypeId} {x y : Operand} {a : Option Addr} {n cp : Nat} (hx : e.ev? x = some (.slice a n cp)) (hy : e.ev? y = some (.slice none 0 0)) (hT : P.underlying T = some (.slice E)) : Vop P e h (.binOp .neq T x y t') ty (.bool (!a.isNone)) :=
  ⟨by simp, by simp, fun ρ w d pos after g hρ _ => by
    have hq : ∀ k, (Op.equalIn (k + 1) T (.slice a n cp) (.slice none 0 0)).run P w = .ok a.isNone w := fun k => by cases a <;> simp [Op.equalIn, run_underlying hT]
    simp [execOp, hρ x _ hx, hρ y _ hy, eqGuard_at_slice, binOp, Op.equal, Op.maxDepth, hq 9999]⟩
end

/-! ## A part of a row is written -/
theorem Holds.setRow {w : World} {b : Nat} {l : List Value} {T : TypeId} {k : SH} (hh : Holds w (pt b (cl l T) :: k)) (l' : List Value) : Holds (w.setRow b l'.toArray) (pt b (cl l' T) :: k) :=
  Holds.modify hh (setRow_heap w b l.toArray l'.toArray T (0, 0) hh.1) fun _ hc => setRow_other w b _ _ hc
theorem Same.setRow (w : World) (b : Nat) (cs : Array Value) {l : List Value} {T : TypeId} (hb : w.heap[b]? = some (cl l T)) : Same w (w.setRow b cs) := ⟨rfl, rfl, rfl, by simp, fz_one (b := b) (fun o ho => by rw [hb] at ho; cases ho; rfl) (fun o ho => by rw [setRow_heap w b l.toArray cs T (0, 0) hb] at ho; cases ho; rfl) fun c hc => setRow_other w b c _ hc⟩
/-- The cells from o on become vs. -/
def splice (l : List Value) (o : Nat) (vs : List Value) : List Value := l.take o ++ vs ++ l.drop (o + vs.length)

section
variable {c : Cx} {ops : Array Oper} {K : Act → World → Prop} {rest : List Oper} {e : Env} {h h' hr : SH}
/-- clear(s) -/
theorem st_clear {d : Option Nat} {T E ty S : TypeId} {x : Operand} {pos : String} {after : Array Edge} {z : Value} {bytes b o n cp : Nat} {l : List Value} (hx : e.ev? x = some (.slice (some ⟨b, o, none⟩) n cp)) (hT : c.P.underlying T = some (.slice E)) (hE : Inf c.P E z 1 bytes)
    (hz : z.cells = #[z]) (hz1 : z.oneCell' = true) (hs : Sel h (pt b (cl l S)) h') (ho : o + n ≤ l.length) (hd : d = none ∨ ∃ k, d = some k ∧ k < c.n ∧ False)
    (hnx : St c ops K rest e (pt b (cl (splice l o (List.replicate n z)) S) :: h')) :
    St c ops K (⟨d, .call { callee := .builtin .clear, args := #[x], argTypes := #[T] }, ty, pos, after, none⟩ :: rest) e h := by
  rcases hd with rfl | ⟨_, _, _, hF⟩
  · refine st_any (by simp) fun a w hk hh hw => ?_
    obtain ⟨ie, h1, h2, h3, h4⟩ := hE.parts
    have hh' := hh.sel hs
    have hg : w.heap[b]? = some (.cells l.toArray S (0, 0)) := hh'.1
    have hzero : (zeroValue E).run c.P w = .ok z w := by simp [zeroValue, typeInfo, h1, h2]
    have hzc : (Builtin.zeroCells z.cells n).toList = List.replicate n z := by
      rw [hz]
      apply List.ext_getElem
      · simp [Builtin.zeroCells]
      · intro i h1 h2; simp [Builtin.zeroCells, Nat.mod_one]
    have hst := run_storeCells_at c.P b o S (List.replicate n z) 0 l.toArray w hg (by simpa using ho) (fun v hv => by rw [List.eq_of_mem_replicate hv]; exact hz1)
    simp only [Nat.add_zero] at hst
    by_cases hn : n = 0
    · subst hn
      have : splice l o (List.replicate 0 z) = l := by simp [splice]
      rw [this] at hnx
      simp [execOp, resolve, invoke, builtin, hk.ev hx, Builtin.clear_, run_underlying hT]
      exact hnx _ _ hk hh' hw
    · have hcl : (Builtin.clear_ #[T] ty #[.slice (some ⟨b, o, none⟩) n cp]).run c.P w = .ok (.tuple #[]) (w.setRow b (splice l o (List.replicate n z)).toArray) := by
        unfold Builtin.clear_
        cases n with
        | zero => exact absurd rfl hn
        | succ m => simp [run_underlying hT, hzero, hzc, hst, splice]
      simp only [execOp, resolve, invoke, builtin, hk.ev hx, Sem.run_bind, Sem.run_pure, Result.andThen_ok, List.map_toArray, List.map_cons, List.map_nil, hcl]
      exact hnx _ _ hk (Holds.setRow hh' _) (hw.trans (Same.setRow _ _ _ hh'.1))
  · exact hF.elim
/-- copy(dst, src) -/
theorem st_copy {d : Nat} {T E ty S t' : TypeId} {x y : Operand} {pos : String} {after : Array Edge} {b o n cp sb so m cp' : Nat} {l vs : List Value} (hx : e.ev? x = some (.slice (some ⟨b, o, none⟩) n cp)) (hy : e.ev? y = some (.slice (some ⟨sb, so, none⟩) m cp')) (hT : SlE c.P T E 1)
    (hs : Sel h (pt b (cl l S)) h') (hn : vs.length = Nat.min m n) (hsrc : ∀ j u, vs[j]? = some u → At h ⟨sb, so + j, none⟩ u) (h1 : ∀ u ∈ vs, u.oneCell' = true) (ho : o + vs.length ≤ l.length) (hd : d < c.n)
    (hnx : St c ops K rest ((d, .int .i64 vs.length) :: e) (pt b (cl (splice l o vs) S) :: h')) :
    St c ops K (⟨some d, .call { callee := .builtin .copy, args := #[x, y], argTypes := #[T, t'] }, ty, pos, after, none⟩ :: rest) e h :=
  st_any (by simp) fun a w hk hh hw => by
    have hh' := hh.sel hs
    have hg : w.heap[b]? = some (.cells l.toArray S (0, 0)) := hh'.1
    have hsz : (c.P.info? E).map (·.size) = some 1 := by
      have := hT.2 w
      unfold sizeOf typeInfo at this
      cases hi : c.P.info? E with
      | none => simp [hi] at this
      | some i => simp [hi] at this; simp [this]
    have hr := run_copy_row (P := c.P) w T t' ty E b o n cp ⟨sb, so, none⟩ m cp' l.toArray S vs hT.1 hsz hg hn (fun j u hu => by rw [Addr.add_lit]; exact (hsrc j u hu).cell hh) (by simpa using ho) h1
    simp only [execOp, resolve, invoke, builtin, hk.ev hx, hk.ev hy, Sem.run_bind, Sem.run_pure, Result.andThen_ok, List.map_toArray, List.map_cons, List.map_nil, hr]
    exact hnx _ _ (hk.put _ hd) (Holds.setRow hh' (splice l o vs)) (hw.trans (Same.setRow _ _ _ hh'.1))
end

/-! ## Maps from numbers -/
def menc (m : List (Int × Value)) : List (Value × Value) := m.map fun p => (.int .i64 p.1, p.2)
def mlook (m : List (Int × Value)) (k : Int) : Option Value := (m.find? (·.1 == k)).map (·.2)
def mupd : List (Int × Value) → Int → Value → List (Int × Value)
  | [], k, v => [(k, v)]
  | p :: t, k, v => if p.1 = k then (k, v) :: t else p :: mupd t k v
/-- Block b is a map that reads as m. -/
def mpr (b : Nat) (m : List (Int × Value)) : Res where
  dom := (· = b)
  ok f := ∃ es ck, f b = some (.map es ck) ∧ es.toList.map (fun x => (x.key, x.val)) = menc m
  loc f g he := fun ⟨es, ck, h1, h2⟩ => ⟨es, ck, by rw [← he b rfl]; exact h1, h2⟩
  pres f := fun ⟨es, ck, h1, _⟩ b' hb => by rw [hb, h1]; rfl

def mfind (m : List (Int × Value)) (k : Int) : Option (Nat × Value) := (m.findIdx? (·.1 == k)).bind fun j => (mlook m k).map fun v => (j, v)
theorem findNow_menc (k : Int) : ∀ (es : List MapEntry) (m : List (Int × Value)) (i : Nat), es.map (fun x => (x.key, x.val)) = menc m →
    Instr.findNow (.int .i64) (.int .i64 k) es i = some ((mfind m k).map fun p => (i + p.1, p.2))
  | [], m, i, h => by
    have : m = [] := by cases m with | nil => rfl | cons _ _ => simp [menc] at h
    subst this; simp [Instr.findNow, mfind]
  | x :: es, m, i, h => by
    cases m with
    | nil => simp [menc] at h
    | cons p t =>
      simp only [List.map_cons, menc, List.cons.injEq, Prod.mk.injEq] at h
      obtain ⟨⟨h1, h2⟩, h3⟩ := h
      unfold Instr.findNow
      rw [h1]
      by_cases hp : p.1 = k
      · simp [Instr.sameNow, hp, mlook, List.findIdx?_cons, h2, mfind]
      · have hpk : (k == p.1) = false := by simp; exact fun e => hp e.symm
        have hpk' : (p.1 == k) = false := by simp [hp]
        have ih := findNow_menc k es t (i + 1) h3
        simp only [Instr.sameNow, if_true, hpk]
        rw [ih]
        simp only [mfind, List.findIdx?_cons, hpk', Bool.false_eq_true, if_false, mlook, List.find?_cons, Option.some.injEq]
        cases t.findIdx? (·.1 == k) with
        | none => rfl
        | some j => simp only [Option.map_some, Option.bind_some]; cases h : (List.find? (·.1 == k) t) <;> simp [Nat.add_assoc, Nat.add_comm 1 j]
end Go.Ck
namespace Go.Ck
open Go Go.RowKit

theorem mlook_findIdx {m : List (Int × Value)} {k : Int} : (m.findIdx? (·.1 == k) = none ↔ mlook m k = none) := by
  simp [mlook, List.findIdx?_eq_none_iff, List.find?_eq_none]
theorem mlook_upd (m : List (Int × Value)) (k k' : Int) (v : Value) : mlook (mupd m k v) k' = if k' = k then some v else mlook m k' := by
  induction m with
  | nil => by_cases h : k' = k <;> simp [mupd, mlook, h]; exact fun e => h e.symm
  | cons p t ih =>
    unfold mupd
    by_cases hp : p.1 = k
    · rw [if_pos hp]
      by_cases h : k' = k
      · simp [mlook, h]
      · have h1 : (k == k') = false := by simp; exact fun e => h e.symm
        have h2 : (p.1 == k') = false := by rw [hp]; exact h1
        simp [mlook, h, List.find?_cons, h1, h2]
    · rw [if_neg hp]
      by_cases h : p.1 = k'
      · have : ¬ k' = k := fun e => hp (h.trans e)
        simp [mlook, h, this]
      · have h2 : (p.1 == k') = false := by simp [h]
        simp only [mlook, List.find?_cons, h2] at ih ⊢
        exact ih

theorem modify_menc (k : Int) (v : Value) : ∀ (es : List MapEntry) (m : List (Int × Value)) (i : Nat), es.map (fun x => (x.key, x.val)) = menc m → m.findIdx? (·.1 == k) = some i →
    (es.modify i (fun x => { x with key := .int .i64 k, val := v })).map (fun x => (x.key, x.val)) = menc (mupd m k v)
  | [], m, i, h, hi => by
    have : m = [] := by cases m with | nil => rfl | cons _ _ => simp [menc] at h
    subst this; simp at hi
  | x :: es, m, i, h, hi => by
    cases m with
    | nil => simp at hi
    | cons p t =>
      simp only [List.map_cons, menc, List.cons.injEq, Prod.mk.injEq] at h
      obtain ⟨⟨h1, h2⟩, h3⟩ := h
      by_cases hp : p.1 = k
      · simp [List.findIdx?_cons, hp] at hi
        subst hi
        simp [mupd, hp, menc, h3, List.modify]
      · have hpk' : (p.1 == k) = false := by simp [hp]
        simp only [List.findIdx?_cons, hpk', Bool.false_eq_true, if_false, Option.map_eq_some_iff] at hi
        obtain ⟨j, hj, rfl⟩ := hi
        have ih := modify_menc k v es t j h3 hj
        simp only [List.modify_succ_cons, List.map_cons, ih, mupd, hp, if_false, menc, h1, h2]

def MpT (P : Program) (T K E : TypeId) : Prop := P.underlying T = some (.map K E) ∧ P.underlying K = some (.int .i64)

section
variable {P : Program} {e : Env} {h h' : SH} {ty : TypeId}
theorem run_findKey {K : TypeId} (hK : P.underlying K = some (.int .i64)) {es : Array MapEntry} {m : List (Int × Value)} (hm : es.toList.map (fun x => (x.key, x.val)) = menc m) (k : Int) (w : World) :
    (Instr.findKey K (.int .i64 k) es.toList).run P w = .ok (mfind m k) w := by
  unfold Instr.findKey
  simp only [Sem.run_bind, run_underlying hK, Result.andThen_ok, findNow_menc k es.toList m 0 hm, Sem.run_pure, Nat.zero_add]
  congr 1
  cases mfind m k <;> rfl
theorem run_checkKey {K : TypeId} (hK : P.underlying K = some (.int .i64)) (b : Bool) (n : Nat) (k : Int) (w : World) : (Instr.checkKey b (n + 1) K (.int .i64 k)).run P w = .ok () w := by
  unfold Instr.checkKey
  simp only [Sem.run_bind, run_underlying hK, Result.andThen_ok, Sem.run_pure]
theorem run_getObj_map {w : World} {b : Nat} {es : Array MapEntry} {ck : Nat} (hb : w.heap[b]? = some (.map es ck)) : (getObj b).run P w = .ok (.map es ck) w := by simp [getObj, Sem.run, hb]
theorem run_lookup {T K E : TypeId} (hT : MpT P T K E) {z : Value} {sz bytes : Nat} (hE : Inf P E z sz bytes) {w : World} {b : Nat} {m : List (Int × Value)} (hb : (mpr b m).ok (hp w)) (k : Int) (ok : Bool) :
    (Instr.lookup T (.map (some b)) (.int .i64 k) ok).run P w = .ok (if ok then .tuple #[(mlook m k).getD z, .bool (mlook m k).isSome] else (mlook m k).getD z) w := by
  obtain ⟨es, ck, h1, h2⟩ := hb
  obtain ⟨ie, g1, g2, _, _⟩ := hE.parts
  have hzero : (zeroValue E).run P w = .ok z w := by simp [zeroValue, typeInfo, g1, g2]
  have hg : (getObj b).run P w = .ok (.map es ck) w := run_getObj_map h1
  unfold Instr.lookup
  simp only [Sem.run_bind, run_underlying hT.1, Result.andThen_ok, hg, Sem.run_pure, run_checkKey hT.2, run_findKey hT.2 h2]
  cases hi : m.findIdx? (·.1 == k) with
  | none =>
    have := mlook_findIdx.1 hi
    have hf : mfind m k = none := by simp [mfind, hi]
    rw [hf]
    cases ok <;> simp [this, hzero]
  | some j =>
    cases hl : mlook m k with
    | none => rw [mlook_findIdx.2 hl] at hi; cases hi
    | some v =>
      have hf : mfind m k = some (j, v) := by simp [mfind, hi, hl]
      rw [hf]
      cases ok <;> simp
theorem v_lookup_ok {T K E : TypeId} {x y : Operand} {b : Nat} {m : List (Int × Value)} {k : Int} {z : Value} {sz bytes : Nat} (hx : e.ev? x = some (.map (some b))) (hy : e.ev? y = some (.int .i64 k)) (hT : MpT P T K E) (hE : Inf P E z sz bytes) (hs : Sel h (mpr b m) h') :
    Vop P e h (.lookup T x y true) ty (.tuple #[(mlook m k).getD z, .bool (mlook m k).isSome]) :=
  ⟨by simp, by simp, fun ρ w d pos after g hρ hh => by
    simp [execOp, hρ x _ hx, hρ y _ hy, run_lookup hT hE (hh.sel hs).1 k true]⟩
theorem v_lookup {T K E : TypeId} {x y : Operand} {b : Nat} {m : List (Int × Value)} {k : Int} {z : Value} {sz bytes : Nat} (hx : e.ev? x = some (.map (some b))) (hy : e.ev? y = some (.int .i64 k)) (hT : MpT P T K E) (hE : Inf P E z sz bytes) (hs : Sel h (mpr b m) h') :
    Vop P e h (.lookup T x y false) ty ((mlook m k).getD z) :=
  ⟨by simp, by simp, fun ρ w d pos after g hρ hh => by
    simp [execOp, hρ x _ hx, hρ y _ hy, run_lookup hT hE (hh.sel hs).1 k false]⟩
end

section
variable {c : Cx} {ops : Array Oper} {K : Act → World → Prop} {rest : List Oper} {e : Env} {h h' hr : SH}
theorem putObj_other (w : World) (b k : Nat) (o : Obj) (hk : k ≠ b) : ({ w with heap := w.heap.setIfInBounds b o } : World).heap[k]? = w.heap[k]? := by
  simp [Array.getElem?_setIfInBounds_ne (Ne.symm hk)]
theorem st_mapUpdate {T K' E ty : TypeId} {x y v : Operand} {pos : String} {after : Array Edge} {b : Nat} {m : List (Int × Value)} {k : Int} {u : Value} (hx : e.ev? x = some (.map (some b))) (hy : e.ev? y = some (.int .i64 k)) (hv : e.ev? v = some u)
    (hT : MpT c.P T K' E) (hs : Sel h (mpr b m) h') (hnx : St c ops K rest e (mpr b (mupd m k u) :: h')) :
    St c ops K (⟨none, .mapUpdate T x y v, ty, pos, after, none⟩ :: rest) e h :=
  st_any (by simp) fun a w hk hh hw => by
    have hh' := hh.sel hs
    obtain ⟨es, ck, h1, h2⟩ := hh'.1
    have h1' : w.heap[b]? = some (.map es ck) := h1
    have hlt : b < w.heap.size := (Array.getElem?_eq_some_iff.1 h1').1
    have hg : (getObj b).run c.P w = .ok (.map es ck) w := run_getObj_map h1
    have hset : ∀ o, (setObj b o).run c.P w = .ok () { w with heap := w.heap.setIfInBounds b o } := fun o => by simp [setObj, Sem.run, h1']
    have hnew : ∀ es' ck', es'.toList.map (fun x => (x.key, x.val)) = menc (mupd m k u) → Holds { w with heap := w.heap.setIfInBounds b (.map es' ck') } (mpr b (mupd m k u) :: h') := fun es' ck' he => by
      refine ⟨⟨es', ck', ?_, he⟩, hh'.2.1, HoldsF.loc hh'.2.2 fun c hc => ?_⟩
      · show (w.heap.setIfInBounds b _)[b]? = _
        simp [hlt]
      · exact (putObj_other w b c _ (fun e => hh'.2.1 b rfl (e ▸ hc))).symm
    have hsame : ∀ es' ck', Same w { w with heap := w.heap.setIfInBounds b (.map es' ck') } := fun es' ck' => ⟨rfl, rfl, rfl, by simp, fz_one (b := b) (fun o ho => by rw [h1'] at ho; cases ho; rfl) (fun o ho => by
      have : (w.heap.setIfInBounds b (.map es' ck'))[b]? = some o := ho
      simp [hlt] at this; rw [← this]; rfl) fun c hc => putObj_other w b c _ hc⟩
    have hrun : ∃ w', (Instr.mapUpdate T (.map (some b)) (.int .i64 k) u).run c.P w = .ok () w' ∧ Holds w' (mpr b (mupd m k u) :: h') ∧ Same w w' := by
      unfold Instr.mapUpdate
      simp only [Sem.run_bind, run_underlying hT.1, Result.andThen_ok, hg, run_checkKey hT.2, run_findKey hT.2 h2]
      cases hi : m.findIdx? (·.1 == k) with
      | none =>
        have hl := mlook_findIdx.1 hi
        have hf : mfind m k = none := by simp [mfind, hi]
        simp only [hf, hset]
        refine ⟨_, rfl, hnew _ _ ?_, hsame _ _⟩
        have hup : mupd m k u = m ++ [(k, u)] := by
          have : ∀ (m : List (Int × Value)), mlook m k = none → mupd m k u = m ++ [(k, u)] := by
            intro m
            induction m with
            | nil => intro _; rfl
            | cons p t ih =>
              intro hm
              have hp : ¬ p.1 = k := fun e => by simp [mlook, e] at hm
              have hpk : (p.1 == k) = false := by simp [hp]
              have ht : mlook t k = none := by simpa [mlook, List.find?_cons, hpk] using hm
              simp [mupd, hp, ih ht]
          exact this m hl
        rw [hup]
        simp only [Array.toList_push, List.map_append, List.map_cons, List.map_nil, h2, menc]
      | some j =>
        cases hl : mlook m k with
        | none => rw [mlook_findIdx.2 hl] at hi; cases hi
        | some v0 =>
          have hkey : ((es[j]?).map (·.key)).getD (.int .i64 k) = .int .i64 k := by
            cases hej : es[j]? with
            | none => rfl
            | some x =>
              have h3 : (es.toList.map (fun x => (x.key, x.val)))[j]? = some (x.key, x.val) := by simp [hej]
              rw [h2] at h3
              simp only [menc, List.getElem?_map, Option.map_eq_some_iff] at h3
              obtain ⟨p, hp, hpe⟩ := h3
              simp only [Prod.mk.injEq] at hpe
              have h4 := List.findIdx?_eq_some_iff_getElem.1 hi
              obtain ⟨hjl, h5, _⟩ := h4
              have : m[j] = p := by rw [List.getElem?_eq_getElem hjl] at hp; exact Option.some.inj hp
              rw [this] at h5
              simp only [beq_iff_eq] at h5
              simp [← hpe.1, h5]
          have hf : mfind m k = some (j, v0) := by simp [mfind, hi, hl]
          simp only [hf, hkey]
          have hstay : (Instr.keyThatStays (.int .i64 k) (.int .i64 k)).run c.P w = .ok (.int .i64 k) w := by
            unfold Instr.keyThatStays
            rw [if_pos (by unfold Instr.sameBits; simp)]
            rfl
          simp only [Sem.run_bind, hstay, Result.andThen_ok, hset]
          refine ⟨_, rfl, hnew _ _ ?_, hsame _ _⟩
          have := modify_menc k u es.toList m j h2 hi
          simpa using this
    obtain ⟨w', hr, hH, hS⟩ := hrun
    simp only [execOp, hk.ev hx, hk.ev hy, hk.ev hv, Sem.run_bind, hr, Result.andThen_ok, Sem.run_pure]
    exact hnx _ _ hk hH (hw.trans hS)
theorem st_makeMap {d : Nat} {T ty : TypeId} {pos : String} {after : Array Edge} (hd : d < c.n) (hnx : ∀ b, St c ops K rest ((d, .map (some b)) :: e) (mpr b [] :: h)) :
    St c ops K (⟨some d, .makeMap T none, ty, pos, after, none⟩ :: rest) e h :=
  st_any (by simp) fun a w hk hh hw => by
    simp only [execOp, Instr.makeMap, Option.map_none, Sem.run_bind, run_newObj_alloc, Result.andThen_ok, Sem.run_pure]
    have hA := Holds.alloc hh (.map #[] 0)
    exact hnx _ _ _ (hk.put _ hd) ⟨⟨#[], 0, hA.1, rfl⟩, hA.2.1, hA.2.2⟩ (hw.trans (Grew.alloc _ _ rfl).toSame)
end

section
variable {P : Program} {e : Env} {h h' : SH} {ty : TypeId}
theorem v_build {T : TypeId} {parts : Array (Nat × Operand)} {vs cells : List Value} (hvs : parts.toList.mapM (fun p => e.ev? p.2) = some vs)
    (hb : ∀ w, (Instr.build T ((parts.toList.map (·.1)).zip vs).toArray).run P w = .ok (.agg cells.toArray) w) : Vop P e h (.build T parts) ty (.agg cells.toArray) :=
  ⟨by simp, by simp, fun ρ w d pos after g hρ _ => by
    have hmap : ∀ (l : List (Nat × Operand)) (vs : List Value), l.mapM (fun p => e.ev? p.2) = some vs → (l.map fun p => (p.1, ρ p.2)) = (l.map (·.1)).zip vs := by
      intro l
      induction l with
      | nil => intro vs hv; simp at hv; subst hv; rfl
      | cons p t ih =>
        intro vs hv
        simp only [List.mapM_cons, Option.bind_eq_bind, Option.bind_eq_some_iff, Option.pure_def, Option.some.injEq] at hv
        obtain ⟨u, hu, us, hus, rfl⟩ := hv
        simp [hρ _ u hu, ih us hus]
    have hpl : (parts.map fun (i, x) => (i, ρ x)) = ((parts.toList.map (·.1)).zip vs).toArray := by
      rw [← hmap parts.toList vs hvs]
      apply Array.toList_inj.1; simp
    simp only [execOp, hpl, Sem.run_bind, hb w, Result.andThen_ok, Sem.run_pure]⟩
end

/-! ## Guards: what is walked in two ways, and joined -/
def SSub (e' e : Env) : Prop := ∀ i v, e'.get? i = some v → e.get? i = some v
theorem ssub_refl {e : Env} : SSub e e := fun _ _ h => h
theorem ssub_head {e e' : Env} {d : Nat} {u v : Value} (hv : u = v) (h : SSub e e') : SSub ((d, u) :: e) ((d, v) :: e') := fun i x hx => by
  subst hv
  by_cases hd : d = i
  · subst hd; simpa [Env.get?] using hx
  · simp only [Env.get?, beq_ne hd, cond_false] at hx ⊢; exact h i x hx
theorem ssub_skip {e e' : Env} {d : Nat} {v : Value} (hn : e.get? d = none) (h : SSub e e') : SSub e ((d, v) :: e') := fun i x hx => by
  by_cases hd : d = i
  · subst hd; rw [hn] at hx; cases hx
  · simp only [Env.get?, beq_ne hd, cond_false]; exact h i x hx
theorem Kn.ssub {n : Nat} {ds : List Deferred} {a : Act} {e e' : Env} (h : Kn n ds a e) (hs : SSub e' e) : Kn n ds a e' := ⟨h.size, h.defers, fun i v hi => h.get i v (hs i v hi)⟩
theorem bool_want {p : Prop} {b : Bool} (want : Bool) (h1 : b = !want → p) (h2 : b = want → p) : p := by
  cases b <;> cases want <;> first | exact h1 rfl | exact h2 rfl
theorem bool_get {e : Env} {g : Nat} {b want : Bool} (hg : e.get? g = some (.bool b)) (h : b = want) : e.get? g = some (.bool want) := h ▸ hg
theorem bool_ev {e : Env} {g : Operand} {b want : Bool} (hg : e.ev? g = some (.bool b)) (h : b = want) : e.ev? g = some (.bool want) := h ▸ hg
section
variable {c : Cx} {K : Act → World → Prop} {rest : List Oper} {e : Env} {h hC : SH} {pre : Nat → Bool}
theorem st_cut {l : List Oper} {k d : Nat} {v : Value} (h2 : (∀ e2, SSub ((d, v) :: e) e2 → St c l.toArray K (l.drop k) e2 h) → St c l.toArray K rest e h) (h1 : St c l.toArray K (l.drop k) ((d, v) :: e) h) : St c l.toArray K rest e h :=
  h2 fun _ hs a w hk hh hw => h1 a w (hk.ssub hs) hh hw
def Ord.drop : Nat → Ord → Ord
  | 0, t => t
  | n + 1, .cons _ t => Ord.drop n t
  | n + 1, .pure _ t => Ord.drop n t
  | _, t => t
theorem DrL.ssub {ops : Array Oper} {t : Ord} {e' : Env} (hs : SSub e' e) (hn : DrL c ops pre hC K t e' h) : DrL c ops pre hC K t e h := by
  cases t with
  | nil => exact fun a w hk hh hw => hn a w (hk.ssub hs) hh hw
  | cons p t =>
    obtain ⟨i, b⟩ := p
    cases b with
    | true =>
      obtain ⟨h1, o, v, h2, h3, e2, h4, h5⟩ := hn
      exact ⟨h1, o, v, h2, fun a hk => h3 a (hk.ssub hs), e2, fun a hk => h4 a (hk.ssub hs), h5⟩
    | false =>
      obtain ⟨o, h1, h2, h3⟩ := hn
      exact ⟨o, h1, fun a hk => h2 a (hk.ssub hs), fun a w hk hh hw => h3 a w (hk.ssub hs) hh hw⟩
  | two i t j u =>
    obtain ⟨⟨o, h1, h2, h3⟩, ⟨o', h4, h5, h6⟩⟩ := hn
    exact ⟨⟨o, h1, fun a hk => h2 a (hk.ssub hs), fun a w hk hh hw => h3 a w (hk.ssub hs) hh hw⟩, ⟨o', h4, fun a hk => h5 a (hk.ssub hs), fun a w hk hh hw => h6 a w (hk.ssub hs) hh hw⟩⟩
  | pure i t =>
    obtain ⟨o, v, h2, h3, e2, h4, h5⟩ := hn
    exact ⟨o, v, h2, fun a hk => h3 a (hk.ssub hs), e2, fun a hk => h4 a (hk.ssub hs), h5⟩
theorem dr_cut {ops : Array Oper} {t : Ord} {k d : Nat} {v : Value} (h2 : (∀ e2, SSub ((d, v) :: e) e2 → DrL c ops pre hC K (t.drop k) e2 h) → DrL c ops pre hC K t e h) (h1 : DrL c ops pre hC K (t.drop k) ((d, v) :: e) h) : DrL c ops pre hC K t e h :=
  h2 fun _ hs => DrL.ssub hs h1
end
section
variable {P : Program} {e : Env} {h : SH} {ty : TypeId}
theorem v_ixo {T E : TypeId} {x y : Operand} {b o n cp : Nat} {kd : IntKind} {i : Int} (k : Nat) (hx : e.ev? x = some (.slice (some ⟨b, o, none⟩) n cp)) (hy : e.ev? y = some (.int kd i)) (hT : SlE P T E 1) (hi : i = (k : Int)) (hk : k < n) :
    Vop P e h (.indexAddr T x y) ty (.pointer (some ⟨b, o + k, none⟩)) := v_indexAddr hx hy hT hi hk (by omega)
end
end Go.Ck
