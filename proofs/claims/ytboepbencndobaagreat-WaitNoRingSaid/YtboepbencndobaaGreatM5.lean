/-
  What was done is in order: what each queue's results are, and what was put into it. Nothing of the program is named here. No condition.
  What bounds a yard that leads to another one; replays. Nothing of the program is named here. No condition.
  Jobs that have one reservation at a time, all of them at greater processors: there is no ring, nothing fails. Nothing of the program is named here. No condition.
  Closed facts on the types, fields and functions of this seat, each reckoned by the kernel (printed by a program: facts.py). No condition.
  A row that a slice owns, opened and shut. Generic: nothing of the program is named here. No condition.
  Rows of elements: rows that are only read (Row), rows that are owned, wherever they begin (VR); contracts over many resources as one. Generic: nothing of the program is named here. No condition.
-/
import Derived.Test.YtboepbencndobaaGreatM4
import Derived.Test.YtboepbencndobaaGreatRows
import Derived.Test.YtboepbencndobaaGreatM2
import Derived.ArgAppend
set_option linter.unusedVariables false
set_option linter.unusedSimpArgs false
namespace Go.Wt
/-! ## Results -/
structure HLine.Ro (l : HLine) : Prop where
  brk : l.broken = l.res.any (·.2)
  each : ∀ (j : Nat) x, l.res[j]? = some x → x.1 = (l.res.take j).any (·.2) ∧ ¬ (x.1 = true ∧ x.2 = true)
def HProc.Ri (p : HProc) : Prop := ∀ l ∈ p.hl, l.Ro
def HYard.Ri (h : HYard) : Prop := ∀ t, t < h.procs.length → (h.pr t).Ri
def Eff.rok : Eff → HProc → Prop
  | .res j a b, p => ∀ l, p.hl[j]? = some l → a = l.broken ∧ ¬ (a = true ∧ b = true)
  | .line l, _ => l.Ro
  | _, _ => True
theorem ro_fin {l : HLine} (h : l.Ro) {a b : Bool} (ha : a = l.broken) (hab : ¬ (a = true ∧ b = true)) : (l.fin a b).Ro := by
  refine ⟨?_, fun j x hx => ?_⟩
  · show (l.broken || b) = (l.res ++ [(a, b)]).any (·.2)
    rw [List.any_append, h.brk]; simp
  · have hx' : (l.res ++ [(a, b)])[j]? = some x := hx
    show x.1 = ((l.res ++ [(a, b)]).take j).any (·.2) ∧ _
    rcases Nat.lt_or_ge j l.res.length with hj | hj
    · rw [List.getElem?_append_left hj] at hx'
      rw [List.take_append_of_le_length (by omega)]
      exact h.each j x hx'
    · have hlt := (List.getElem?_eq_some_iff.1 hx').1
      simp at hlt
      have hjj : j = l.res.length := by omega
      subst hjj
      rw [List.getElem?_append_right (Nat.le_refl _)] at hx'
      obtain rfl : (a, b) = x := by simpa using hx'
      rw [List.take_append_of_le_length (Nat.le_refl _), List.take_length, ← h.brk]
      exact ⟨ha, hab⟩
theorem ro_same {l m : HLine} (h : l.Ro) (h1 : m.res = l.res) (h2 : m.broken = l.broken) : m.Ro := ⟨by rw [h1, h2]; exact h.brk, by rw [h1]; exact h.each⟩
theorem Eff.ri {e : Eff} {p : HProc} (h : p.Ri) (he : e.rok p) : (e.ap p).Ri := by
  cases e with
  | res j a b =>
    intro l hl
    have hl : l ∈ p.hl.modify j (HLine.fin a b) := hl
    obtain ⟨i, hi⟩ := List.getElem?_of_mem hl
    rw [modify_get] at hi
    split at hi
    · rename_i e; subst e
      cases hx : p.hl[j]? with
      | none => rw [hx] at hi; cases hi
      | some x =>
        rw [hx] at hi
        obtain rfl := Option.some.inj hi
        have := he x hx
        exact ro_fin (h x (List.mem_of_getElem? hx)) this.1 this.2
    · exact h l (List.mem_of_getElem? hi)
  | line x =>
    intro l hl
    have hl : l ∈ p.hl ++ [x] := hl
    rcases List.mem_append.1 hl with hl | hl
    · exact h l hl
    · obtain rfl := List.mem_singleton.1 hl; exact he
  | tk j =>
    intro l hl
    obtain ⟨y, hy, e | e⟩ := mem_modify (show l ∈ p.hl.modify j HLine.take from hl)
    · subst e; exact h l hy
    · subst e; exact ro_same (h y hy) rfl rfl
  | ask k a =>
    intro l hl
    obtain ⟨y, hy, ⟨_, e⟩ | ⟨_, e⟩⟩ := mem_upd (show l ∈ updh k (HLine.asked a) p.hl from hl)
    · subst e; exact ro_same (h y hy) rfl rfl
    · subst e; exact h l hy
  | close k =>
    intro l hl
    obtain ⟨y, hy, ⟨_, e⟩ | ⟨_, e⟩⟩ := mem_upd (show l ∈ updh k HLine.shut p.hl from hl)
    · subst e; exact ro_same (h y hy) rfl rfl
    · subst e; exact h l hy
  | _ => exact h
theorem HYard.Ri.ap {h : HYard} (hr : h.Ri) {a : Nat × Eff} (ha : a.1 < h.procs.length → a.2.rok (h.pr a.1)) : (h.ap a).Ri := fun t ht => by
  rw [HYard.ap_len] at ht
  by_cases e : t = a.1
  · subst e; rw [HYard.pr_ap_same ht]; exact Eff.ri (hr _ ht) (ha ht)
  · rw [HYard.pr_ap_ne e]; exact hr t ht
def Eff.plain : Eff → Bool
  | .res _ _ _ => false
  | .line _ => false
  | _ => true
theorem plain_rok {e : Eff} (h : e.plain = true) (p : HProc) : e.rok p := by cases e <;> first | exact trivial | cases h
theorem HYard.Ri.aps : ∀ {A : Effs} {h : HYard}, h.Ri → (∀ a ∈ A, a.2.plain = true) → (h.aps A).Ri
  | [], _, hr, _ => hr
  | a :: A, _, hr, hA => HYard.Ri.aps (A := A) (hr.ap fun _ => plain_rok (hA a (by simp)) _) fun x hx => hA x (by simp [hx])
theorem HYard.brk_aps {t : Nat} : ∀ {A : Effs} {h : HYard}, t < h.procs.length → (∀ a ∈ A, a.2.plain = true) → ∀ (j : Nat) l', ((h.aps A).pr t).hl[j]? = some l' → ∃ l, (h.pr t).hl[j]? = some l ∧ l'.broken = l.broken
  | [], _, _, _, j, l', h => ⟨l', h, rfl⟩
  | a :: A, h, ht, hA, j, l', hl => by
    obtain ⟨l1, h1, h2⟩ := HYard.brk_aps (A := A) (h := h.ap a) (by rw [HYard.ap_len]; exact ht) (fun x hx => hA x (by simp [hx])) j l' hl
    by_cases e : t = a.1
    · subst e
      rw [HYard.pr_ap_same ht] at h1
      have hp := hA a (by simp)
      obtain ⟨i, f⟩ := a
      simp only at h1 hp
      cases f with
      | res j a b => cases hp
      | line l => cases hp
      | tk q =>
        have h1 : ((h.pr i).hl.modify q HLine.take)[j]? = some l1 := h1
        rw [modify_get] at h1
        split at h1
        · cases hx : (h.pr i).hl[j]? with
          | none => rw [hx] at h1; cases h1
          | some x => rw [hx] at h1; obtain rfl := Option.some.inj h1; exact ⟨x, rfl, h2⟩
        · exact ⟨l1, h1, h2⟩
      | ask k y =>
        have h1 : (updh k (HLine.asked y) (h.pr i).hl)[j]? = some l1 := h1
        rw [updh_get] at h1
        cases hx : (h.pr i).hl[j]? with
        | none => rw [hx] at h1; cases h1
        | some x =>
          rw [hx] at h1
          refine ⟨x, rfl, h2.trans ?_⟩
          obtain rfl := Option.some.inj h1
          dsimp only
          split <;> rfl
      | close k =>
        have h1 : (updh k HLine.shut (h.pr i).hl)[j]? = some l1 := h1
        rw [updh_get] at h1
        cases hx : (h.pr i).hl[j]? with
        | none => rw [hx] at h1; cases h1
        | some x =>
          rw [hx] at h1
          refine ⟨x, rfl, h2.trans ?_⟩
          obtain rfl := Option.some.inj h1
          dsimp only
          split <;> rfl
      | _ => exact ⟨l1, h1, h2⟩
    · rw [HYard.pr_ap_ne e] at h1; exact ⟨l1, h1, h2⟩
theorem lvs_plain {i : Nat} {r : List Hold} {a : Nat × Eff} (ha : a ∈ lvs i r) : a.2.plain = true := by rcases lvs_mem ha with ⟨l, rfl⟩ | ⟨x, _, _, rfl⟩ <;> rfl
section
variable {h : HYard}
theorem HInv.ri_stop (H : HInv h) (hr : h.Ri) {i : Nat} (hi : i < h.procs.length) (hj : 0 ≤ (h.pr i).job) (f : Bool) : (h.aps (h.effStop i f)).Ri := by
  unfold HYard.effStop
  have e0 : lvs i (h.pr i).holds.reverse ++ [(i, Eff.idle), (i, Eff.res (h.pr i).gone false f)] = (lvs i (h.pr i).holds.reverse ++ [(i, Eff.idle)]) ++ [(i, Eff.res (h.pr i).gone false f)] := by simp
  rw [e0, HYard.aps_append, HYard.aps_append]
  have hpl : ∀ a ∈ lvs i (h.pr i).holds.reverse ++ [(i, Eff.idle)], a.2.plain = true := fun a ha => by
    rcases List.mem_append.1 ha with ha | ha
    · exact lvs_plain ha
    · obtain rfl := List.mem_singleton.1 ha; rfl
  have h1 := HYard.Ri.aps hr hpl
  refine HYard.Ri.aps ?_ fun a ha => by
    split at ha
    · obtain rfl := List.mem_singleton.1 ha; rfl
    · simp at ha
  refine HYard.Ri.ap h1 fun _ l hl => ⟨?_, by simp⟩
  obtain ⟨l0, g1, g2⟩ := HYard.brk_aps hi hpl _ l hl
  rw [g2]
  exact ((((H.ok i hi).line _ l0 g1).cur rfl).2.1 hj).1.symm
theorem HInv.ri_end : ∀ {n : Nat} {h : HYard} {i : Nat} {f : Bool}, HInv h → h.Ri → i < h.procs.length → 0 ≤ (h.pr i).job → (h.pr i).waits = -1 → (h.aps (HYard.effEnd n h i f)).Ri
  | 0, _, _, _, _, hr, _, _, _ => hr
  | n + 1, h, i, f, H, hr, hi, hj, hw => by
    unfold HYard.effEnd
    rw [HYard.aps_append]
    have H1 := H.stop hi hj hw f
    have r1 := H.ri_stop hr hi hj f
    split
    · rename_i hc
      rw [Bool.and_eq_true] at hc
      obtain ⟨g1, g2, g3, g4, g5⟩ := H.client hi hc.1
      have o := H.stop_own hi f g1 g4
      rw [if_pos ⟨hc.1, rfl⟩] at o
      exact HInv.ri_end (n := n) H1 r1 (by rw [HYard.aps_len]; exact g1) (by rw [o.job]; exact g5) o.waits
    · exact r1
theorem ro_new {k : Key} {l : List Ask} {c : Bool} : (⟨k, l, 0, [], c, false⟩ : HLine).Ro := ⟨rfl, fun j x hx => by simp at hx⟩
theorem HInv.ri_deed (H : HInv h) (hr : h.Ri) {i : Nat} (hi : i < h.procs.length) (hj : 0 ≤ (h.pr i).job) (hw : (h.pr i).waits = -1) (m : Move) : (h.aps (h.effDeed i m)).Ri := by
  unfold HYard.effDeed
  by_cases h1 : m.1 = 1
  · simp only [if_pos h1]
    split
    · exact hr.aps fun a ha => by obtain rfl := List.mem_singleton.1 ha; rfl
    · show ((h.ap _).aps _).Ri
      refine HYard.Ri.aps (hr.ap fun _ => ro_new) fun a ha => ?_
      simp only [List.mem_cons, List.not_mem_nil, or_false] at ha
      rcases ha with rfl | rfl <;> rfl
  · simp only [if_neg h1]
    by_cases h2 : m.1 = 2
    · simp only [if_pos h2]
      cases (h.pr i).holds.getLast? with
      | none => exact hr
      | some x =>
        refine hr.aps fun a ha => ?_
        rcases List.mem_cons.1 ha with rfl | ha
        · rfl
        · unfold clh at ha
          split at ha
          · simp at ha
          · obtain rfl := List.mem_singleton.1 ha; rfl
    · simp only [if_neg h2]
      by_cases h3 : m.1 = 3 ∨ m.1 = 4
      · simp only [if_pos h3]
        split
        · exact hr
        · cases (h.pr i).hold m.2.1 with
          | none => exact H.ri_end hr hi hj hw
          | some x =>
            refine hr.aps fun a ha => ?_
            rcases List.mem_cons.1 ha with rfl | ha
            · rfl
            · split at ha
              · obtain rfl := List.mem_singleton.1 ha; rfl
              · simp at ha
      · simp only [if_neg h3]
        by_cases h4 : m.1 = 5
        · simp only [if_pos h4]
          show ((h.ap _).aps _).Ri
          refine HYard.Ri.aps (hr.ap fun _ => ro_new) fun a ha => ?_
          obtain rfl := List.mem_singleton.1 ha; rfl
        · simp only [if_neg h4]
          exact H.ri_end hr hi hj hw
theorem HInv.ri_step (H : HInv h) (hr : h.Ri) {i : Nat} (hi : i < h.procs.length) (hg : (h.pr i).goes = true) : (h.step i).Ri := by
  unfold HYard.step HYard.effs
  rcases goes_cases hg with ⟨hj, hw⟩ | ⟨hj, hgl, hcl⟩
  · have hw := HProc.waits_neg (H.ok i hi) hw
    simp only
    rw [if_pos hj]
    split
    · exact H.ri_end hr hi hj hw
    · rename_i hne
      have hb := (H.ok i hi).busy hj
      have H1 := H.pc hi hj (v := (h.pr i).pc + 1) (by omega) (by omega)
      have hp := pc_pr hi ((h.pr i).pc + 1)
      exact HInv.ri_deed H1 (HYard.Ri.ap (a := (i, .pc ((h.pr i).pc + 1))) hr fun _ => trivial) (i := i) (by rw [HYard.ap_len]; exact hi) (by rw [hp]; exact hj) (by rw [hp]; exact hw) _
  · simp only
    rw [if_neg (by omega)]
    cases ha : (h.pr i).head.all.drop (h.pr i).head.tk with
    | nil => exact hr.aps fun a ha => by obtain rfl := List.mem_singleton.1 ha; rfl
    | cons a r =>
      simp only
      split
      · rename_i hbr
        obtain ⟨H1, h2⟩ := H.left hi hj hgl ha
        rw [HYard.aps_append]
        have r1 : (h.aps (h.effLeft i a)).Ri := by
          unfold HYard.effLeft
          rw [HYard.aps_append]
          refine HYard.Ri.aps ?_ fun x hx => by
            split at hx
            · obtain rfl := List.mem_singleton.1 hx; rfl
            · simp at hx
          show ((h.ap (i, .tk (h.pr i).gone)).ap (i, .res (h.pr i).gone true false)).Ri
          refine HYard.Ri.ap (HYard.Ri.ap (a := (i, .tk (h.pr i).gone)) hr fun _ => trivial) fun _ l hl => ⟨?_, by simp⟩
          have hp := HYard.pr_ap_same (h := h) (a := (i, .tk (h.pr i).gone)) hi
          simp only at hl
          rw [hp] at hl
          have hl : ((h.pr i).hl.modify (h.pr i).gone HLine.take)[(h.pr i).gone]? = some l := hl
          rw [modify_get, if_pos rfl, get_head hgl] at hl
          obtain rfl := Option.some.inj hl
          exact hbr.symm
        split
        · rename_i ha2
          obtain ⟨g1, g2, g3⟩ := h2 ha2
          have e0 : h.effLeft i a = [(i, .tk (h.pr i).gone), (i, .res (h.pr i).gone true false)] ++ [((h.pr i).head.key.1.toNat, .waits (-1))] := by unfold HYard.effLeft; rw [if_pos ha2]
          rw [if_pos ha2, ← e0] at H1 g2 g3
          rw [← e0]
          exact HInv.ri_end (h := h.aps (h.effLeft i a)) H1 r1 (by rw [HYard.aps_len]; exact g1) g2 g3
        · rename_i ha2
          have e0 : h.effLeft i a = [(i, .tk (h.pr i).gone), (i, .res (h.pr i).gone true false)] ++ [] := by unfold HYard.effLeft; rw [if_neg ha2]
          rw [← e0]; exact r1
      · refine hr.aps fun x hx => ?_
        simp only [List.mem_cons, List.not_mem_nil, or_false] at hx
        rcases hx with rfl | rfl <;> rfl
end
theorem HYard.ri_new {jobs : List (List Move)} {n : Nat} : (HYard.new jobs n).Ri := fun t ht l hl => by
  rw [HYard.new_len] at ht
  rw [HYard.new_pr ht] at hl
  split at hl
  · obtain rfl := List.mem_singleton.1 hl; exact ro_new
  · simp [HProc.empty] at hl
/-! ## The requests that were put -/
abbrev Logd := Nat × Key × Int
def logOf (t : Nat) (k : Key) (log : List Logd) : List Int := (log.filter fun x => x.1 == t && x.2.1 == k).map (·.2.2)
structure HYard.Lg (h : HYard) (log : List Logd) : Prop where
  all : ∀ t, t < h.procs.length → ∀ l ∈ (h.pr t).hl, logOf t l.key log = l.all.map (·.1)
  key : ∀ x ∈ log, x.1 < h.procs.length ∧ x.2.1 ∈ (h.pr x.1).hl.map HLine.key
def moreLog (n : Nat) (q : Option Logd) : List Logd := (List.range n).flatMap fun t => (askedT t q).map fun x => (t, x)
theorem logOf_more {n t : Nat} {k : Key} (ht : t < n) (q : Option Logd) : logOf t k (moreLog n q) = pick1 k (askedT t q) := by
  unfold logOf moreLog pick1
  cases q with
  | none => simp [askedT]
  | some x =>
    obtain ⟨s, k', j⟩ := x
    by_cases hs : s = t
    · subst hs
      have key : ∀ (m : Nat) (a : Nat), a ≤ s → s < a + m → (List.range' a m).flatMap (fun t => (askedT t (some (s, k', j))).map fun x => (t, x)) = [(s, k', j)] := by
        intro m
        induction m with
        | zero => intro a h1 h2; omega
        | succ m ih =>
          intro a h1 h2
          rw [List.range'_succ, List.flatMap_cons]
          by_cases e : a = s
          · subst e
            have h0 : (List.range' (a + 1) m).flatMap (fun t => (askedT t (some (a, k', j))).map fun x => (t, x)) = [] := by
              rw [List.flatMap_eq_nil_iff]
              intro t ht
              rw [List.mem_range'_1] at ht
              have : ¬ a = t := by omega
              simp [askedT, this]
            rw [h0]; simp [askedT]
          · rw [ih (a + 1) (by omega) (by omega)]
            have : ¬ s = a := fun h => e h.symm
            simp [askedT, this]
      rw [List.range_eq_range', key n 0 (Nat.zero_le _) (by omega)]
      by_cases hk : k' = k <;> simp [askedT, hk]
    · have h0 : ((List.range n).flatMap fun t => (askedT t (some (s, k', j))).map fun x => (t, x)).filter (fun x => x.1 == t && x.2.1 == k) = [] := by
        rw [List.filter_eq_nil_iff]
        intro x hx
        rw [List.mem_flatMap] at hx
        obtain ⟨a, _, hx⟩ := hx
        unfold askedT at hx
        simp only at hx
        split at hx
        · rename_i e
          simp at hx
          subst hx
          simp only [Bool.and_eq_true, beq_iff_eq, not_and]
          intro h1
          exact absurd (e.trans h1) hs
        · simp at hx
      rw [h0]
      simp [askedT, hs]
section
variable {h : HYard}
theorem HInv.lg_step (H : HInv h) {log : List Logd} (L : h.Lg log) {i : Nat} (hi : i < h.procs.length) (hg : (h.pr i).goes = true) : (h.step i).Lg (log ++ moreLog h.procs.length (h.asked i)) := by
  have hkeys : ∀ t, t < h.procs.length → ∀ k ∈ (h.pr t).hl.map HLine.key, k ∈ ((h.step i).pr t).hl.map HLine.key := fun t ht k hk => by
    rw [H.step_keys hi hg ht]; exact List.mem_append_left _ hk
  refine ⟨fun t ht l' hl' => ?_, fun x hx => ?_⟩
  · rw [HYard.step_len] at ht
    have e0 : logOf t l'.key (log ++ moreLog h.procs.length (h.asked i)) = logOf t l'.key log ++ pick1 l'.key (askedT t (h.asked i)) := by
      rw [← logOf_more ht]; simp [logOf]
    rw [e0]
    obtain ⟨j, hj⟩ := List.getElem?_of_mem hl'
    rcases H.step_grow hi hg ht with g | ⟨hn, g⟩
    · rcases Nat.lt_or_ge j (h.pr t).hl.length with hlt | hge
      · obtain ⟨l1, e1, e2, _, e4⟩ := g.old j _ (List.getElem?_eq_getElem hlt)
        rw [hj] at e1; cases e1
        rw [e4, e2, L.all t ht _ (List.getElem_mem hlt)]
      · obtain ⟨_, e2, e3⟩ := g.new j l' hge hj
        rw [e2]
        have : logOf t l'.key log = [] := by
          unfold logOf
          rw [List.map_eq_nil_iff, List.filter_eq_nil_iff]
          intro x hx hc
          simp only [Bool.and_eq_true, beq_iff_eq] at hc
          have := (L.key x hx).2
          rw [hc.1, hc.2] at this
          exact e3 this
        rw [this]; rfl
    · rw [hn]
      have hlt : j < (h.pr t).hl.length := by have := (List.getElem?_eq_some_iff.1 hj).1; rw [g.len] at this; exact this
      obtain ⟨l1, e1, e2, _, e4⟩ := g.old j _ (List.getElem?_eq_getElem hlt)
      rw [hj] at e1; cases e1
      rw [e4, e2, L.all t ht _ (List.getElem_mem hlt)]
      simp [askedT, pick1]
  · rw [HYard.step_len]
    rcases List.mem_append.1 hx with hx | hx
    · obtain ⟨a, b⟩ := L.key x hx
      exact ⟨a, hkeys _ a _ b⟩
    · unfold moreLog at hx
      rw [List.mem_flatMap] at hx
      obtain ⟨t, ht, hx⟩ := hx
      have ht := List.mem_range.1 ht
      obtain ⟨y, hy, rfl⟩ := List.mem_map.1 hx
      refine ⟨ht, ?_⟩
      rcases H.step_grow hi hg ht with g | ⟨hn, _⟩
      · exact g.mem y hy
      · rw [hn] at hy; simp [askedT] at hy
end
theorem HYard.lg_new {jobs : List (List Move)} {n : Nat} (hn : 0 < n) : (HYard.new jobs n).Lg [(0, (0, 0), 0)] := by
  refine ⟨fun t ht l hl => ?_, fun x hx => ?_⟩
  · rw [HYard.new_len] at ht
    rw [HYard.new_pr ht] at hl
    split at hl
    · rename_i e; subst e
      obtain rfl := List.mem_singleton.1 hl; rfl
    · simp [HProc.empty] at hl
  · obtain rfl := List.mem_singleton.1 hx
    rw [HYard.new_len, HYard.new_pr hn]
    exact ⟨hn, by simp⟩
/-! ## What one sees of it in a step -/
def wasIn (ls : List Line) (k : Key) : Nat := ls.foldl (fun w l => if l.key = k then l.asks.length else w) 0
def grownE (y z : Yard) (t : Nat) : List (Key × Int) := (z.pr t).lines.filterMap fun l => if wasIn (y.pr t).lines l.key < l.asks.length then some (l.key, (l.asks.getLastD (0, false)).1) else none
theorem was_fold {k : Key} : ∀ {ls : List Line} {w : Nat}, (∀ l ∈ ls, l.key ≠ k) → ls.foldl (fun w l => if l.key = k then l.asks.length else w) w = w
  | [], _, _ => rfl
  | l :: ls, w, h => by
    rw [List.foldl_cons, if_neg (h l (by simp))]
    exact was_fold fun x hx => h x (by simp [hx])
theorem was_none {ls : List Line} {k : Key} (h : ∀ l ∈ ls, l.key ≠ k) : wasIn ls k = 0 := was_fold h
theorem was_some {ls : List Line} {l : Line} (hnd : (ls.map Line.key).Nodup) (hl : l ∈ ls) : wasIn ls l.key = l.asks.length := by
  unfold wasIn
  obtain ⟨a, b, rfl⟩ := List.append_of_mem hl
  rw [List.foldl_append, List.foldl_cons, if_pos rfl, was_fold]
  intro x hx e
  rw [List.map_append, List.map_cons, List.nodup_append] at hnd
  have := (List.nodup_cons.1 hnd.2.1).1
  exact this (by rw [← e]; exact List.mem_map.2 ⟨x, hx, rfl⟩)
section
variable {h : HYard}
theorem HInv.asked_open (H : HInv h) {i t : Nat} (hi : i < h.procs.length) (hg : (h.pr i).goes = true) {x : Key × Int} (hx : x ∈ askedT t (h.asked i)) : ∀ l ∈ (h.pr t).hl, l.key = x.1 → l.closed = false := by
  rw [← step_news] at hx
  unfold newsT at hx
  rw [List.mem_flatMap] at hx
  obtain ⟨a, ha, hx⟩ := hx
  split at hx
  · rename_i e; subst e
    obtain ⟨h1, h2⟩ := H.step_ef hi hg
    have ef := h1 a ha
    obtain ⟨s, f⟩ := a
    intro l hl hk
    cases f with
    | ask k y =>
      have : x = (k, y.1) := by simpa [Eff.news] using hx
      subst this
      exact (ef.ask k y rfl).2 l hl hk
    | line y =>
      obtain ⟨z, _, rfl⟩ := List.mem_map.1 (show x ∈ y.all.map fun a => (y.key, a.1) from hx)
      have : y.key ∉ (h.pr s).hl.map HLine.key := ef.ok
      exact absurd (List.mem_map.2 ⟨l, hl, hk⟩) this
    | _ => simp [Eff.news] at hx
  · simp at hx
theorem now_nodup {p : HProc} (hnd : (p.hl.map HLine.key).Nodup) : (p.now.lines.map Line.key).Nodup := by
  have e : p.now.lines.map Line.key = (p.hl.map HLine.key).drop p.gone := by
    show ((p.hl.drop p.gone).map HLine.now).map Line.key = _
    rw [List.map_map, List.map_drop]; rfl
  rw [e]
  exact hnd.sublist (List.drop_sublist _ _)
theorem filterMap_one {α β : Type} {f : α → Option β} {b : β} : ∀ {l : List α} {i : Nat}, (∀ (j : Nat) x, l[j]? = some x → f x = if j = i then some b else none) → i < l.length → l.filterMap f = [b]
  | x :: l, 0, h, _ => by
    have h0 := h 0 x rfl
    rw [if_pos rfl] at h0
    have hr : l.filterMap f = [] := by
      rw [List.filterMap_eq_nil_iff]
      intro y hy
      obtain ⟨j, hj⟩ := List.getElem?_of_mem hy
      have := h (j + 1) y (by simpa using hj)
      rw [if_neg (by omega)] at this
      exact this
    rw [List.filterMap_cons_some h0, hr]
  | x :: l, i + 1, h, hi => by
    have h0 := h 0 x rfl
    rw [if_neg (by omega)] at h0
    rw [List.filterMap_cons_none h0]
    exact filterMap_one (i := i) (fun j y hj => by
      have := h (j + 1) y (by simpa using hj)
      rw [this]
      by_cases e : j = i
      · rw [if_pos (by omega), if_pos e]
      · rw [if_neg (by omega), if_neg e]) (by simpa using hi)
theorem HInv.grown (H : HInv h) {i t : Nat} (hi : i < h.procs.length) (hg : (h.pr i).goes = true) (ht : t < h.procs.length) : grownE h.now (h.step i).now t = askedT t (h.asked i) := by
  have H' := H.step hi hg
  have ht' : t < (h.step i).procs.length := by rw [HYard.step_len]; exact ht
  have ok := H.ok t ht
  have ok' := H'.ok t ht'
  have hnd := now_nodup ok.nd
  have hnd' := ok'.nd
  have hop := fun x hx => H.asked_open (t := t) hi hg (x := x) hx
  unfold grownE
  rw [HYard.now_pr, HYard.now_pr]
  have hidx : ∀ (j : Nat) y, (((h.step i).pr t).now.lines)[j]? = some y → ∃ l', ((h.step i).pr t).hl[((h.step i).pr t).gone + j]? = some l' ∧ y = l'.now := fun j y hj => by
    have hj : ((((h.step i).pr t).hl.drop ((h.step i).pr t).gone).map HLine.now)[j]? = some y := hj
    rw [List.getElem?_map, List.getElem?_drop] at hj
    cases hx : ((h.step i).pr t).hl[((h.step i).pr t).gone + j]? with
    | none => rw [hx] at hj; cases hj
    | some x => rw [hx] at hj; exact ⟨x, rfl, (Option.some.inj hj).symm⟩
  have hmemo : ∀ (j : Nat) l, (h.pr t).gone ≤ j → (h.pr t).hl[j]? = some l → l.now ∈ (h.pr t).now.lines := fun j l hj hl => by
    show l.now ∈ ((h.pr t).hl.drop (h.pr t).gone).map HLine.now
    refine List.mem_map.2 ⟨l, ?_, rfl⟩
    have : ((h.pr t).hl.drop (h.pr t).gone)[j - (h.pr t).gone]? = some l := by rw [List.getElem?_drop, show (h.pr t).gone + (j - (h.pr t).gone) = j by omega]; exact hl
    exact List.mem_of_getElem? this
  have hwas : ∀ (j : Nat) l, (h.pr t).gone ≤ j → (h.pr t).hl[j]? = some l → wasIn (h.pr t).now.lines l.key = l.all.length - l.tk := fun j l hj hl => by
    have := was_some hnd (hmemo j l hj hl)
    have e : l.now.key = l.key := rfl
    rw [e] at this
    rw [this]
    show (l.all.drop l.tk).length = _
    rw [List.length_drop]
  have htk : ∀ (j : Nat) l, (h.pr t).gone ≤ j → (h.pr t).hl[j]? = some l → l.tk ≤ l.all.length := fun j l hj hl => by
    have okl := ok.line j l hl
    by_cases e : j = (h.pr t).gone
    · exact (okl.cur e).1
    · have := (okl.later (by omega)).1; omega
  rcases H.step_grow hi hg ht with g | ⟨hn, g⟩
  · -- busy
    have gg := g.gone
    generalize hN : askedT t (h.asked i) = N at g hop ⊢
    have hN1 : N = [] ∨ ∃ x, N = [x] := by
      rw [← hN]
      unfold askedT
      split
      · exact .inl rfl
      · split
        · exact .inr ⟨_, rfl⟩
        · exact .inl rfl
    have each : ∀ (j : Nat) y, (((h.step i).pr t).now.lines)[j]? = some y → (if wasIn (h.pr t).now.lines y.key < y.asks.length then some (y.key, (y.asks.getLastD (0, false)).1) else none) = (match N with | [] => none | x :: _ => if y.key = x.1 then some x else none) := fun j y hj => by
      obtain ⟨l', hl', rfl⟩ := hidx j y hj
      have ek : l'.now.key = l'.key := rfl
      have ea : l'.now.asks = l'.all.drop l'.tk := rfl
      rw [ek, ea, List.length_drop]
      obtain ⟨a0, htk0, hw0, hal⟩ : ∃ a0 : List Ask, l'.tk ≤ a0.length ∧ wasIn (h.pr t).now.lines l'.key = a0.length - l'.tk ∧ l'.all.map (·.1) = a0.map (·.1) ++ pick1 l'.key N := by
        rcases Nat.lt_or_ge (((h.step i).pr t).gone + j) (h.pr t).hl.length with hlt | hge
        · obtain ⟨l1, e1, e2, e3, e4⟩ := g.old _ _ (List.getElem?_eq_getElem hlt)
          rw [hl'] at e1; cases e1
          have hge0 : (h.pr t).gone ≤ ((h.step i).pr t).gone + j := by omega
          refine ⟨((h.pr t).hl[((h.step i).pr t).gone + j]).all, ?_, ?_, by rw [e4, e2]⟩
          · rw [e3]; exact htk _ _ hge0 (List.getElem?_eq_getElem hlt)
          · rw [e2, e3]; exact hwas _ _ hge0 (List.getElem?_eq_getElem hlt)
        · obtain ⟨e1, e2, e3⟩ := g.new _ l' hge hl'
          refine ⟨[], by rw [e1]; exact Nat.le_refl _, ?_, by simpa using e2⟩
          rw [was_none]; · simp
          intro x hx e
          have hx : x ∈ ((h.pr t).hl.drop (h.pr t).gone).map HLine.now := hx
          obtain ⟨q, hq, rfl⟩ := List.mem_map.1 hx
          exact e3 (by rw [← e]; exact List.mem_map.2 ⟨q, List.mem_of_mem_drop hq, rfl⟩)
      have hlen := congrArg List.length hal
      simp only [List.length_map, List.length_append] at hlen
      rw [hw0]
      rcases hN1 with rfl | ⟨x, rfl⟩
      · have : pick1 l'.key [] = [] := rfl
        rw [this] at hlen
        simp only [List.length_nil] at hlen
        rw [if_neg (by omega)]
      · simp only
        by_cases hk : l'.key = x.1
        · have hp1 : pick1 l'.key [x] = [x.2] := by simp [pick1, hk]
          rw [hp1] at hlen hal
          simp only [List.length_cons, List.length_nil] at hlen
          rw [if_pos (by omega), if_pos hk]
          congr 1
          refine Prod.ext hk ?_
          simp only
          obtain ⟨q, hq⟩ : ∃ q, l'.all.getLast? = some q := by
            cases hgl : l'.all.getLast? with
            | none => rw [List.getLast?_eq_none_iff] at hgl; rw [hgl] at hlen; simp at hlen
            | some q => exact ⟨q, rfl⟩
          have hq2 : q.1 = x.2 := by
            have h1 : (l'.all.map (·.1)).getLast? = some q.1 := by rw [List.getLast?_map, hq]; rfl
            rw [hal] at h1
            simp at h1
            exact h1.symm
          have hq3 : (l'.all.drop l'.tk).getLast? = some q := by
            rw [List.getLast?_drop, if_neg (by omega)]; exact hq
          rw [List.getLastD_eq_getLast?, hq3]
          exact hq2
        · have hp1 : pick1 l'.key [x] = [] := by
            unfold pick1
            have : ¬ x.1 = l'.key := fun e => hk e.symm
            simp [this]
          rw [hp1] at hlen
          simp only [List.length_nil] at hlen
          rw [if_neg (by omega), if_neg hk]
    rcases hN1 with rfl | ⟨x, rfl⟩
    · rw [List.filterMap_eq_nil_iff]
      intro y hy
      obtain ⟨j, hj⟩ := List.getElem?_of_mem hy
      exact each j y hj
    · -- the queue of x
      have hx := g.mem x (by simp)
      obtain ⟨lx, hlx, hkx⟩ := List.mem_map.1 hx
      obtain ⟨jx, hjx⟩ := List.getElem?_of_mem hlx
      have hgx : ((h.step i).pr t).gone ≤ jx := by
        rw [gg]
        rcases Nat.lt_or_ge jx (h.pr t).gone with hlt | hge
        · exfalso
          have hlt2 : jx < (h.pr t).hl.length := by have := ok.gl; omega
          obtain ⟨l1, e1, e2, _, _⟩ := g.old jx _ (List.getElem?_eq_getElem hlt2)
          rw [hjx] at e1; cases e1
          have := hop x (by simp) _ (List.getElem_mem hlt2) (by rw [← e2]; exact hkx)
          rw [((ok.line jx _ (List.getElem?_eq_getElem hlt2)).past hlt).1] at this
          cases this
        · exact hge
      have hlines : (((h.step i).pr t).now.lines).length = ((h.step i).pr t).hl.length - ((h.step i).pr t).gone := by
        show ((((h.step i).pr t).hl.drop ((h.step i).pr t).gone).map HLine.now).length = _
        simp
      refine filterMap_one (i := jx - ((h.step i).pr t).gone) (fun j y hj => ?_) (by
        rw [hlines]
        have := (List.getElem?_eq_some_iff.1 hjx).1
        omega)
      rw [each j y hj]
      simp only
      obtain ⟨l', hl', rfl⟩ := hidx j y hj
      have ek : l'.now.key = l'.key := rfl
      rw [ek]
      by_cases e : j = jx - ((h.step i).pr t).gone
      · have : ((h.step i).pr t).gone + j = jx := by omega
        rw [this, hjx] at hl'
        cases hl'
        rw [if_pos hkx, if_pos e]
      · rw [if_neg e, if_neg]
        intro hk
        have := key_at hnd' hl' hjx (hk.trans hkx.symm)
        omega
  · rw [hn]
    show _ = []
    rw [List.filterMap_eq_nil_iff]
    intro y hy
    obtain ⟨j, hj⟩ := List.getElem?_of_mem hy
    obtain ⟨l', hl', rfl⟩ := hidx j y hj
    have hlt : ((h.step i).pr t).gone + j < (h.pr t).hl.length := by have := (List.getElem?_eq_some_iff.1 hl').1; rw [g.len] at this; exact this
    obtain ⟨l1, e1, e2, e3, e4⟩ := g.old _ _ (List.getElem?_eq_getElem hlt)
    rw [hl'] at e1; cases e1
    have hge0 : (h.pr t).gone ≤ ((h.step i).pr t).gone + j := by have := g.gone; omega
    have hw := hwas _ _ hge0 (List.getElem?_eq_getElem hlt)
    have ek : l'.now.key = l'.key := rfl
    have ea : l'.now.asks = l'.all.drop l'.tk := rfl
    rw [ek, ea, e2, hw, List.length_drop, e4, if_neg]
    omega
end
end Go.Wt
namespace Go.Wt
/-! ## What was done does not become less -/
structure Mn (p p' : HProc) : Prop where
  len : p.hl.length ≤ p'.hl.length
  old : ∀ (j : Nat) l, p.hl[j]? = some l → ∃ l', p'.hl[j]? = some l' ∧ l.all.length ≤ l'.all.length ∧ l.res.length ≤ l'.res.length
theorem Mn.refl (p : HProc) : Mn p p := ⟨Nat.le_refl _, fun j l h => ⟨l, h, Nat.le_refl _, Nat.le_refl _⟩⟩
theorem Mn.trans {p q r : HProc} (a : Mn p q) (b : Mn q r) : Mn p r := ⟨Nat.le_trans a.len b.len, fun j l h => by
  obtain ⟨l1, e1, e2, e3⟩ := a.old j l h
  obtain ⟨l2, f1, f2, f3⟩ := b.old j l1 e1
  exact ⟨l2, f1, Nat.le_trans e2 f2, Nat.le_trans e3 f3⟩⟩
theorem mn_modify {p p' : HProc} {j : Nat} {f : HLine → HLine} (h1 : p'.hl = p.hl.modify j f) (hf : ∀ l, l.all.length ≤ (f l).all.length ∧ l.res.length ≤ (f l).res.length) : Mn p p' := ⟨by rw [h1]; simp, fun i l h => by
  rw [h1, modify_get, h]
  by_cases e : j = i
  · rw [if_pos e]; exact ⟨_, rfl, hf l⟩
  · rw [if_neg e]; exact ⟨_, rfl, Nat.le_refl _, Nat.le_refl _⟩⟩
theorem mn_upd {p p' : HProc} {k : Key} {f : HLine → HLine} (h1 : p'.hl = updh k f p.hl) (hf : ∀ l, l.all.length ≤ (f l).all.length ∧ l.res.length ≤ (f l).res.length) : Mn p p' := ⟨by rw [h1]; simp [updh], fun i l h => by
  rw [h1, updh_get, h]
  refine ⟨_, rfl, ?_⟩
  dsimp only
  split
  · exact hf l
  · exact ⟨Nat.le_refl _, Nat.le_refl _⟩⟩
theorem Eff.mn (e : Eff) (p : HProc) : Mn p (e.ap p) := by
  cases e with
  | res j a b => exact mn_modify (f := HLine.fin a b) rfl fun l => ⟨Nat.le_refl _, by simp [HLine.fin]⟩
  | tk j => exact mn_modify (f := HLine.take) rfl fun l => ⟨Nat.le_refl _, Nat.le_refl _⟩
  | ask k a => exact mn_upd (f := HLine.asked a) rfl fun l => ⟨by simp [HLine.asked], Nat.le_refl _⟩
  | close k => exact mn_upd (f := HLine.shut) rfl fun l => ⟨Nat.le_refl _, Nat.le_refl _⟩
  | line l => exact ⟨by show _ ≤ (p.hl ++ [l]).length; simp, fun j x h => ⟨x, by
      show (p.hl ++ [l])[j]? = some x
      rw [List.getElem?_append_left (List.getElem?_eq_some_iff.1 h).1]; exact h, Nat.le_refl _, Nat.le_refl _⟩⟩
  | _ => exact ⟨Nat.le_refl _, fun j l h => ⟨l, h, Nat.le_refl _, Nat.le_refl _⟩⟩
theorem HYard.mn_aps {t : Nat} : ∀ {A : Effs} {h : HYard}, t < h.procs.length → Mn (h.pr t) ((h.aps A).pr t)
  | [], h, _ => Mn.refl _
  | a :: A, h, ht => by
    refine Mn.trans ?_ (HYard.mn_aps (A := A) (h := h.ap a) (by rw [HYard.ap_len]; exact ht))
    by_cases e : t = a.1
    · subst e; rw [HYard.pr_ap_same ht]; exact Eff.mn _ _
    · rw [HYard.pr_ap_ne e]; exact Mn.refl _
theorem sum_le {α : Type} {f : α → Nat} : ∀ {l l' : List α}, l.length ≤ l'.length → (∀ (j : Nat) x, l[j]? = some x → ∃ y, l'[j]? = some y ∧ f x ≤ f y) → (l.map f).sum ≤ (l'.map f).sum
  | [], _, _, _ => by simp
  | x :: l, [], h, _ => by simp at h
  | x :: l, y :: l', h, hh => by
    have h0 := hh 0 x rfl
    obtain ⟨z, e1, e2⟩ := h0
    have hz : y = z := by simpa using e1
    subst hz
    have := sum_le (f := f) (l := l) (l' := l') (by simpa using h) fun j a hj => by
      have := hh (j + 1) a (by simpa using hj)
      simpa using this
    simp only [List.map_cons, List.sum_cons]
    omega
theorem Mn.did {p p' : HProc} (h : Mn p p') : p.now.did.length ≤ p'.now.did.length := by
  show (p.hl.flatMap HLine.dids).length ≤ (p'.hl.flatMap HLine.dids).length
  rw [List.length_flatMap, List.length_flatMap]
  refine sum_le h.len fun j l hj => ?_
  obtain ⟨l', e1, e2, e3⟩ := h.old j l hj
  refine ⟨l', e1, ?_⟩
  simp only [HLine.dids, List.length_map, List.length_zip]
  omega
theorem Mn.puts {p p' : HProc} (h : Mn p p') : p.now.puts.length ≤ p'.now.puts.length := by
  show (p.hl.map HLine.key).length ≤ (p'.hl.map HLine.key).length
  simpa using h.len
section
variable {o : Nat → List Key}
theorem HYard.Run.mn {t : Nat} : ∀ {m : Nat} {h g : HYard}, HYard.Run o m h g → t < h.procs.length → Mn (h.pr t) (g.pr t)
  | _, _, _, .nil _, _ => Mn.refl _
  | _, h, _, .cons (i := i) _ hr, ht => Mn.trans (q := (h.step i).pr t) (HYard.mn_aps (A := h.effs i) ht) (HYard.Run.mn hr (by rw [HYard.step_len]; exact ht))
def HYard.Al (h : HYard) (B : Nat) : Prop := ∀ t, t < h.procs.length → ∀ l ∈ (h.pr t).hl, l.all.length ≤ B
theorem HInv.al_step {h : HYard} (H : HInv h) {B : Nat} (a : h.Al B) {i : Nat} (hi : i < h.procs.length) (hg : (h.pr i).goes = true) : (h.step i).Al (B + 1) := fun t ht l' hl' => by
  rw [HYard.step_len] at ht
  obtain ⟨j, hj⟩ := List.getElem?_of_mem hl'
  have h1 : (askedT t (h.asked i)).length ≤ 1 := by
    unfold askedT
    split
    · simp
    · split <;> simp
  have h2 : ∀ k, (pick1 k (askedT t (h.asked i))).length ≤ 1 := fun k => by
    unfold pick1
    rw [List.length_map]
    exact Nat.le_trans (List.length_filter_le _ _) h1
  rcases H.step_grow hi hg ht with g | ⟨_, g⟩
  · rcases Nat.lt_or_ge j (h.pr t).hl.length with hlt | hge
    · obtain ⟨l1, e1, _, _, e4⟩ := g.old j _ (List.getElem?_eq_getElem hlt)
      rw [hj] at e1; cases e1
      have := congrArg List.length e4
      simp only [List.length_map, List.length_append] at this
      have := h2 (h.pr t).hl[j].key
      have := a t ht _ (List.getElem_mem hlt)
      omega
    · obtain ⟨_, e2, _⟩ := g.new j l' hge hj
      have := congrArg List.length e2
      simp only [List.length_map] at this
      have := h2 l'.key
      omega
  · have hlt : j < (h.pr t).hl.length := by have := (List.getElem?_eq_some_iff.1 hj).1; rw [g.len] at this; exact this
    obtain ⟨l1, e1, _, _, e4⟩ := g.old j _ (List.getElem?_eq_getElem hlt)
    rw [hj] at e1; cases e1
    have := a t ht _ (List.getElem_mem hlt)
    rw [e4]; omega
theorem HYard.al_new {jobs : List (List Move)} {n : Nat} : (HYard.new jobs n).Al 1 := fun t ht l hl => by
  rw [HYard.new_len] at ht
  rw [HYard.new_pr ht] at hl
  split at hl
  · obtain rfl := List.mem_singleton.1 hl; simp
  · simp [HProc.empty] at hl
theorem HInv.run_full {h g : HYard} {m : Nat} (hr : HYard.Run o m h g) (hf : g.now.full = false) (ha : h.Al 400) : h.now.full = false := by
  have hlen : ∀ {m : Nat} {h g : HYard}, HYard.Run o m h g → g.procs.length = h.procs.length := fun {m h g} hr => by
    induction hr with
    | nil => rfl
    | cons _ _ ih => rw [ih, HYard.step_len]
  have hl := hlen hr
  unfold Yard.full at hf ⊢
  simp only [Bool.not_eq_false', List.all_eq_true, Bool.and_eq_true, decide_eq_true_eq] at hf ⊢
  intro p hp
  obtain ⟨q, hq, rfl⟩ := List.mem_map.1 (show p ∈ h.procs.map HProc.now from hp)
  obtain ⟨t, ht, rfl⟩ := List.mem_iff_getElem.1 hq
  have eh : h.procs[t] = h.pr t := by unfold HYard.pr; rw [List.getD_eq_getElem?_getD, List.getElem?_eq_getElem ht]; rfl
  rw [eh]
  have hm := HYard.Run.mn hr ht
  have hg := hf (g.pr t).now (by
    show _ ∈ g.procs.map HProc.now
    refine List.mem_map.2 ⟨g.pr t, ?_, rfl⟩
    have ht' : t < g.procs.length := by omega
    have : g.pr t = g.procs[t] := by unfold HYard.pr; rw [List.getD_eq_getElem?_getD, List.getElem?_eq_getElem ht']; rfl
    rw [this]; exact List.getElem_mem ht')
  have h1 := hm.did
  have h2 := hm.puts
  have h3 : (h.pr t).now.lines.length ≤ (h.pr t).now.puts.length := by
    show (((h.pr t).hl.drop (h.pr t).gone).map HLine.now).length ≤ ((h.pr t).hl.map HLine.key).length
    simp
  refine ⟨⟨⟨by omega, by omega⟩, by omega⟩, fun l hl => ?_⟩
  obtain ⟨l0, hl0, rfl⟩ := List.mem_map.1 (show l ∈ ((h.pr t).hl.drop (h.pr t).gone).map HLine.now from hl)
  have := ha t ht l0 (List.mem_of_mem_drop hl0)
  show ((l0.all.drop l0.tk).length : Int) ≤ 400
  rw [List.length_drop]
  omega
end
end Go.Wt
namespace Go.Wt
def Shape (n t : Nat) : Option Nat → List Move → Prop
  | none, [] => True
  | some _, [] => False
  | none, m :: r => (m.1 = 1 ∧ ∃ s : Nat, m.2.1 = s ∧ t < s ∧ s < n ∧ Shape n t (some s) r) ∨ (m.1 = 5 ∧ ∃ s a : Nat, m.2.1 = s ∧ t < s ∧ s < n ∧ m.2.2 = a ∧ a % n = s ∧ Shape n t none r)
  | some s, m :: r => ((m.1 = 3 ∨ m.1 = 4) ∧ m.2.1 = s ∧ (∃ a : Nat, m.2.2 = a ∧ a % n = s) ∧ Shape n t (some s) r) ∨ (m.1 = 2 ∧ Shape n t none r)
def HoldsAt (t : Nat) (H : List Hold) : Option Nat → Prop
  | none => H = []
  | some s => t < s ∧ ∃ k, H = [((s : Int), k, false)]
structure Nr (h : HYard) : Prop where
  jobs : ∀ (j : Nat) l, h.jobs[j]? = some l → Shape h.procs.length (j % h.procs.length) none l
  ask : ∀ t, t < h.procs.length → ∀ l ∈ (h.pr t).hl, ∀ a ∈ l.all, a.1.toNat % h.procs.length = t
  at_ : ∀ t, t < h.procs.length → 0 ≤ (h.pr t).job → ∃ o, Shape h.procs.length t o ((h.jobs.getD (h.pr t).job.toNat []).drop (h.pr t).pc.toNat) ∧ HoldsAt t (h.pr t).holds o
  wait : ∀ t, t < h.procs.length → 0 ≤ (h.pr t).waits → ∃ k, (h.pr t).holds = [((h.pr t).waits, k, false)]
  res : ∀ t, t < h.procs.length → ∀ l ∈ (h.pr t).hl, l.broken = false ∧ ∀ x ∈ l.res, x = (false, false)
  ao : ∀ t, t < h.procs.length → ∀ (j : Nat) l, (h.pr t).gone ≤ j → (h.pr t).hl[j]? = some l → ((∃ a ∈ l.all.drop l.tk, a.2 = true) ∨ (j = (h.pr t).gone ∧ (h.pr t).waited = true)) → l.closed = false
structure HProc.Nr (p : HProc) (t n : Nat) (jobs : List (List Move)) : Prop where
  ask : ∀ l ∈ p.hl, ∀ a ∈ l.all, a.1.toNat % n = t
  at_ : 0 ≤ p.job → ∃ o, Shape n t o ((jobs.getD p.job.toNat []).drop p.pc.toNat) ∧ HoldsAt t p.holds o
  wait : 0 ≤ p.waits → ∃ k, p.holds = [(p.waits, k, false)]
  res : ∀ l ∈ p.hl, l.broken = false ∧ ∀ x ∈ l.res, x = (false, false)
  ao : ∀ (j : Nat) l, p.gone ≤ j → p.hl[j]? = some l → ((∃ a ∈ l.all.drop l.tk, a.2 = true) ∨ (j = p.gone ∧ p.waited = true)) → l.closed = false
theorem nr_iff {h : HYard} : Nr h ↔ (∀ (j : Nat) l, h.jobs[j]? = some l → Shape h.procs.length (j % h.procs.length) none l) ∧ ∀ t, t < h.procs.length → (h.pr t).Nr t h.procs.length h.jobs :=
  ⟨fun N => ⟨N.jobs, fun t ht => ⟨N.ask t ht, N.at_ t ht, N.wait t ht, N.res t ht, N.ao t ht⟩⟩, fun N => ⟨N.1, fun t ht => (N.2 t ht).ask, fun t ht => (N.2 t ht).at_, fun t ht => (N.2 t ht).wait, fun t ht => (N.2 t ht).res, fun t ht => (N.2 t ht).ao⟩⟩
theorem Nr.ap {h : HYard} (N : Nr h) {a : Nat × Eff} (ha : a.1 < h.procs.length → (a.2.ap (h.pr a.1)).Nr a.1 h.procs.length h.jobs) : Nr (h.ap a) := by
  rw [nr_iff] at N ⊢
  refine ⟨by rw [HYard.ap_len]; exact N.1, fun t ht => ?_⟩
  rw [HYard.ap_len] at ht ⊢
  show ((h.ap a).pr t).Nr t h.procs.length h.jobs
  by_cases e : t = a.1
  · subst e; rw [HYard.pr_ap_same ht]; exact ha ht
  · rw [HYard.pr_ap_ne e]; exact N.2 t ht
section
variable {p : HProc} {t n : Nat} {jobs : List (List Move)}
theorem HProc.Nr.line (N : p.Nr t n jobs) (hg : p.waited = true → p.gone < p.hl.length) {l : HLine} (h1 : ∀ a ∈ l.all, a.1.toNat % n = t ∧ a.2 = false) (h3 : l.res = []) (h4 : l.broken = false) : ((Eff.line l).ap p).Nr t n jobs := by
  refine ⟨fun x hx a ha => ?_, N.at_, N.wait, fun x hx => ?_, fun j x hj hx hc => ?_⟩
  · rcases List.mem_append.1 (show x ∈ p.hl ++ [l] from hx) with hx | hx
    · exact N.ask x hx a ha
    · obtain rfl := List.mem_singleton.1 hx; exact (h1 a ha).1
  · rcases List.mem_append.1 (show x ∈ p.hl ++ [l] from hx) with hx | hx
    · exact N.res x hx
    · obtain rfl := List.mem_singleton.1 hx; exact ⟨h4, fun y hy => by rw [h3] at hy; simp at hy⟩
  · have hx : (p.hl ++ [l])[j]? = some x := hx
    rcases Nat.lt_or_ge j p.hl.length with hlt | hge
    · rw [List.getElem?_append_left hlt] at hx
      exact N.ao j x hj hx hc
    · have hl := (List.getElem?_eq_some_iff.1 hx).1
      simp at hl
      rw [List.getElem?_append_right hge, show j - p.hl.length = 0 by omega] at hx
      obtain rfl : l = x := by simpa using hx
      exfalso
      rcases hc with ⟨a, ha, hat⟩ | ⟨hj2, hw⟩
      · rw [(h1 a (List.mem_of_mem_drop ha)).2] at hat; cases hat
      · have := hg hw
        have hj2 : j = p.gone := hj2
        omega
theorem HProc.Nr.ask' (N : p.Nr t n jobs) {k : Key} {a : Ask} (h1 : a.1.toNat % n = t) (h2 : a.2 = true → ∀ l ∈ p.hl, l.key = k → l.closed = false) : ((Eff.ask k a).ap p).Nr t n jobs := by
  refine ⟨fun x hx b hb => ?_, N.at_, N.wait, fun x hx => ?_, fun j x hj hx hc => ?_⟩
  · obtain ⟨y, hy, ⟨_, rfl⟩ | ⟨_, rfl⟩⟩ := mem_upd (show x ∈ updh k (HLine.asked a) p.hl from hx)
    · rcases List.mem_append.1 (show b ∈ y.all ++ [a] from hb) with hb | hb
      · exact N.ask y hy b hb
      · obtain rfl := List.mem_singleton.1 hb; exact h1
    · exact N.ask x hy b hb
  · obtain ⟨y, hy, ⟨_, rfl⟩ | ⟨_, rfl⟩⟩ := mem_upd (show x ∈ updh k (HLine.asked a) p.hl from hx)
    · exact N.res y hy
    · exact N.res x hy
  · have hx : (updh k (HLine.asked a) p.hl)[j]? = some x := hx
    rw [updh_get] at hx
    cases hq : p.hl[j]? with
    | none => rw [hq] at hx; cases hx
    | some y =>
      rw [hq] at hx
      obtain rfl := Option.some.inj hx
      dsimp only at hc ⊢
      by_cases hk : y.key = k
      · rw [if_pos hk] at hc ⊢
        show y.closed = false
        rcases hc with ⟨b, hb, hbt⟩ | hc
        · have hb : b ∈ (y.all ++ [a]).drop y.tk := hb
          rw [List.drop_append] at hb
          rcases List.mem_append.1 hb with hb | hb
          · exact N.ao j y hj hq (.inl ⟨b, hb, hbt⟩)
          · have := List.mem_of_mem_drop hb
            obtain rfl := List.mem_singleton.1 this
            exact h2 hbt y (List.mem_of_getElem? hq) hk
        · exact N.ao j y hj hq (.inr hc)
      · rw [if_neg hk] at hc ⊢
        exact N.ao j y hj hq hc
theorem HProc.Nr.close (N : p.Nr t n jobs) {k : Key} (h2 : ∀ (j : Nat) l, p.gone ≤ j → p.hl[j]? = some l → l.key = k → ¬ ((∃ a ∈ l.all.drop l.tk, a.2 = true) ∨ (j = p.gone ∧ p.waited = true))) : ((Eff.close k).ap p).Nr t n jobs := by
  refine ⟨fun x hx b hb => ?_, N.at_, N.wait, fun x hx => ?_, fun j x hj hx hc => ?_⟩
  · obtain ⟨y, hy, ⟨_, rfl⟩ | ⟨_, rfl⟩⟩ := mem_upd (show x ∈ updh k HLine.shut p.hl from hx)
    · exact N.ask y hy b hb
    · exact N.ask x hy b hb
  · obtain ⟨y, hy, ⟨_, rfl⟩ | ⟨_, rfl⟩⟩ := mem_upd (show x ∈ updh k HLine.shut p.hl from hx)
    · exact N.res y hy
    · exact N.res x hy
  · have hx : (updh k HLine.shut p.hl)[j]? = some x := hx
    rw [updh_get] at hx
    cases hq : p.hl[j]? with
    | none => rw [hq] at hx; cases hx
    | some y =>
      rw [hq] at hx
      obtain rfl := Option.some.inj hx
      dsimp only at hc ⊢
      by_cases hk : y.key = k
      · rw [if_pos hk] at hc
        exact absurd hc (h2 j y hj hq hk)
      · rw [if_neg hk] at hc ⊢
        exact N.ao j y hj hq hc
end
section
variable {h : HYard}
theorem le_sum : ∀ {l : List Nat} {x : Nat}, x ∈ l → x ≤ l.sum
  | y :: l, x, h => by
    rw [List.sum_cons]
    rcases List.mem_cons.1 h with rfl | h
    · omega
    · have := le_sum h; omega
theorem mv_drop {jobs : List (List Move)} {j pc : Int} (h0 : 0 ≤ pc) (hlt : pc < ((jobs.getD j.toNat []).length : Int)) : (jobs.getD j.toNat []).drop pc.toNat = ((jobs.getD j.toNat []).getD pc.toNat (0, 0, 0)) :: (jobs.getD j.toNat []).drop (pc + 1).toNat := by
  have h1 : pc.toNat < (jobs.getD j.toNat []).length := by omega
  rw [List.drop_eq_getElem_cons h1, List.getD_eq_getElem?_getD (l := jobs.getD j.toNat []), List.getElem?_eq_getElem h1, show (pc + 1).toNat = pc.toNat + 1 by omega]
  rfl
theorem Nr.step (N : Nr h) (H : HInv h) {i : Nat} (hi : i < h.procs.length) (hg : (h.pr i).goes = true) : Nr (h.step i) := by
  have Ni := (nr_iff.1 N).2 i hi
  unfold HYard.step HYard.effs
  rcases goes_cases hg with ⟨hj, hw⟩ | ⟨hj, hgl, hcl⟩
  · have hw := HProc.waits_neg (H.ok i hi) hw
    have hb := (H.ok i hi).busy hj
    obtain ⟨o, hS, hH⟩ := Ni.at_ hj
    simp only
    rw [if_pos hj]
    by_cases hpc : (h.pr i).pc = (h.jlen (h.pr i).job : Int)
    · -- the job ends
      rw [if_pos hpc]
      have hd : (h.jobs.getD (h.pr i).job.toNat []).drop (h.pr i).pc.toNat = [] := by
        apply List.drop_of_length_le
        rw [hpc]; unfold HYard.jlen; omega
      rw [hd] at hS
      have hh : (h.pr i).holds = [] := by
        cases o with
        | none => exact hH
        | some s => exact hS.elim
      have e1 : h.effFin i false = [(i, .idle), (i, .res (h.pr i).gone false false)] ++ (if (h.pr i).waited then [((h.pr i).head.key.1.toNat, .waits (-1))] else []) := by
        unfold HYard.effFin HYard.effEnd HYard.effStop
        rw [hh]
        simp [lvs]
      rw [e1, HYard.aps_append]
      have e2 : h.aps [(i, .idle), (i, .res (h.pr i).gone false false)] = h.put i ((Eff.res (h.pr i).gone false false).ap ((Eff.idle).ap (h.pr i))) := HYard.ap_ap hi
      have N1 : Nr (h.aps [(i, .idle), (i, .res (h.pr i).gone false false)]) := by
        rw [e2]
        rw [nr_iff] at N ⊢
        refine ⟨by rw [HYard.put_len]; exact N.1, fun t ht => ?_⟩
        rw [HYard.put_len] at ht ⊢
        show ((h.put i _).pr t).Nr t h.procs.length h.jobs
        rw [HYard.pr_put hi]
        split
        · rename_i e; subst e
          refine ⟨fun x hx b hb => ?_, fun (h0 : (0 : Int) ≤ -1) => by omega, fun (h0 : 0 ≤ (h.pr t).waits) => by omega, fun x hx => ?_, fun j x hj hx hc => ?_⟩
          · obtain ⟨y, hy, rfl | rfl⟩ := mem_modify (show x ∈ (h.pr t).hl.modify (h.pr t).gone (HLine.fin false false) from hx)
            · exact Ni.ask x hy b hb
            · exact Ni.ask y hy b hb
          · obtain ⟨y, hy, rfl | rfl⟩ := mem_modify (show x ∈ (h.pr t).hl.modify (h.pr t).gone (HLine.fin false false) from hx)
            · exact Ni.res x hy
            · have := Ni.res y hy
              refine ⟨by show (y.broken || false) = false; rw [this.1]; rfl, fun z hz => ?_⟩
              rcases List.mem_append.1 (show z ∈ y.res ++ [(false, false)] from hz) with hz | hz
              · exact this.2 z hz
              · exact List.mem_singleton.1 hz
          · have hx : ((h.pr t).hl.modify (h.pr t).gone (HLine.fin false false))[j]? = some x := hx
            have hc : ∃ a ∈ x.all.drop x.tk, a.2 = true := by
              rcases hc with hc | ⟨_, hc⟩
              · exact hc
              · cases hc
            rw [modify_get] at hx
            split at hx
            · cases hq : (h.pr t).hl[j]? with
              | none => rw [hq] at hx; cases hx
              | some y => rw [hq] at hx; obtain rfl := Option.some.inj hx; exact Ni.ao j y hj hq (.inl hc)
            · exact Ni.ao j x hj hx (.inl hc)
        · exact N.2 t ht
      split
      · rename_i hwt
        obtain ⟨c1, c2, c3, c4, c5⟩ := H.client hi hwt
        refine Nr.ap N1 fun hs => ?_
        have hs' : (h.pr i).head.key.1.toNat < h.procs.length := c1
        have q := (nr_iff.1 N1).2 _ hs
        exact ⟨q.ask, q.at_, fun (h0 : (0 : Int) ≤ -1) => by omega, q.res, q.ao⟩
      · exact N1
    · -- a move
      rw [if_neg hpc]
      have hlt : (h.pr i).pc < ((h.jobs.getD (h.pr i).job.toNat []).length : Int) := by
        have := hb.2.2.1
        unfold HYard.jlen at this hpc
        omega
      have hdr := mv_drop hb.2.1 hlt
      have hmv : (h.jobs.getD (h.pr i).job.toNat []).getD (h.pr i).pc.toNat (0, 0, 0) = h.mv (h.pr i).job (h.pr i).pc := rfl
      rw [hdr, hmv] at hS
      have hpe := pc_pr hi ((h.pr i).pc + 1)
      show Nr ((h.ap (i, .pc ((h.pr i).pc + 1))).aps _)
      generalize hgd : h.ap (i, .pc ((h.pr i).pc + 1)) = g at hpe ⊢
      have hgl : g.procs.length = h.procs.length := by rw [← hgd, HYard.ap_len]
      have hgj : g.jobs = h.jobs := by rw [← hgd]; rfl
      have hgi : i < g.procs.length := by omega
      have hgo : ∀ t, t ≠ i → g.pr t = h.pr t := fun t ht => by rw [← hgd]; exact HYard.pr_ap_ne ht
      have fin : ∀ (A : Effs) (q : HProc), (∀ a ∈ A, a.1 < h.procs.length) → ((g.aps A).pr i) = q → (0 ≤ q.job → ∃ o, Shape h.procs.length i o ((h.jobs.getD q.job.toNat []).drop q.pc.toNat) ∧ HoldsAt i q.holds o) → (0 ≤ q.waits → ∃ k, q.holds = [(q.waits, k, false)]) → q.hl = (h.pr i).hl → q.gone = (h.pr i).gone → q.waited = (h.pr i).waited →
          (∀ t, t < h.procs.length → t ≠ i → ((g.aps A).pr t).Nr t h.procs.length h.jobs) → Nr (g.aps A) := fun A q _ hq q1 q2 q3 q4 q5 hoth => by
        rw [nr_iff]
        rw [HYard.aps_len, HYard.aps_jobs, hgj, hgl]
        refine ⟨N.jobs, fun t ht => ?_⟩
        by_cases e : t = i
        · subst e
          rw [hq]
          exact ⟨by rw [q3]; exact Ni.ask, q1, q2, by rw [q3]; exact Ni.res, by rw [q3, q4, q5]; exact Ni.ao⟩
        · exact hoth t ht e
      generalize h.mv (h.pr i).job (h.pr i).pc = m at hS
      have hhg : (g.pr i).holds = (h.pr i).holds := by rw [hpe]; rfl
      have hold_some : ∀ (s : Nat) (k : Key), (h.pr i).holds = [((s : Int), k, false)] → (g.pr i).hold s = some ((s : Int), k, false) := fun s k e => by
        unfold HProc.hold; rw [hhg, e]; simp
      have hold_nil : ∀ s, (h.pr i).holds = [] → (g.pr i).hold s = none := fun s e => by
        unfold HProc.hold; rw [hhg, e]; simp
      have hne2 : ∀ s : Nat, i < s → s < h.procs.length → ∀ {e : Eff}, (e.ap (h.pr s)).Nr s h.procs.length h.jobs → ∀ t, t < h.procs.length → t ≠ i → ((g.ap (s, e)).pr t).Nr t h.procs.length h.jobs := fun s his hs e he t ht hti => by
        by_cases e2 : t = s
        · subst e2; rw [HYard.pr_ap_same (by rw [hgl]; exact ht), hgo t hti]; exact he
        · rw [HYard.pr_ap_ne e2, hgo t hti]; exact (nr_iff.1 N).2 t ht
      unfold HYard.effDeed
      cases o with
      | none =>
        have hh : (h.pr i).holds = [] := hH
        rcases hS with ⟨m1, s, ms, his, hs, hS⟩ | ⟨m1, s, a, ms, his, hs, ma, has, hS⟩
        · -- enter
          have hne : ¬ m.2.1 = (i : Int) := by rw [ms]; omega
          simp only [m1, if_true]
          rw [if_neg (by
            rw [not_or]
            refine ⟨?_, hne⟩
            rw [ms, hold_nil _ hh]; simp)]
          rw [ms, Int.toNat_natCast]
          have Ns := (nr_iff.1 N).2 s hs
          have hNs := Ns.line (l := ⟨(g.pr i).next i, [], 0, [], false, false⟩) (fun hw => aw_waited (H.ok s hs) hw) (fun a ha => by simp at ha) rfl rfl
          refine fin _ ((Eff.hold ((s : Int), (g.pr i).next i, false)).ap ((Eff.made).ap (g.pr i))) (fun a ha => ?_) ?_ (fun _ => ⟨some s, ?_, his, (g.pr i).next i, ?_⟩) (fun h0 => ?_) (by rw [hpe]; rfl) (by rw [hpe]; rfl) (by rw [hpe]; rfl) (fun t ht hti => ?_)
          · simp only [List.mem_cons, List.not_mem_nil, or_false] at ha
            rcases ha with rfl | rfl | rfl <;> assumption
          · show ((((g.ap (s, _)).ap (i, .made)).ap (i, .hold _)).pr i) = _
            rw [HYard.pr_ap_same (by rw [HYard.ap_len, HYard.ap_len]; exact hgi)]
            simp only
            rw [HYard.pr_ap_same (by rw [HYard.ap_len]; exact hgi), HYard.pr_ap_ne (by simp only; omega)]
          · rw [hpe]; exact hS
          · show (g.pr i).holds ++ _ = _
            rw [hhg, hh]; rfl
          · exfalso
            have h0 : 0 ≤ (g.pr i).waits := h0
            rw [hpe] at h0
            have h0 : 0 ≤ (h.pr i).waits := h0
            omega
          · show ((((g.ap (s, _)).ap (i, .made)).ap (i, .hold _)).pr t).Nr t _ _
            rw [HYard.pr_ap_ne hti, HYard.pr_ap_ne hti]
            exact hne2 s his hs hNs t ht hti
        · -- spawn
          rw [if_neg (by omega), if_neg (by omega), if_neg (by omega), if_pos m1, ms, Int.toNat_natCast]
          have Ns := (nr_iff.1 N).2 s hs
          have hNs := Ns.line (l := ⟨(g.pr i).next i, [(m.2.2, false)], 0, [], true, false⟩) (fun hw => aw_waited (H.ok s hs) hw) (fun a ha => by obtain rfl := List.mem_singleton.1 ha; exact ⟨by rw [ma]; simpa using has, rfl⟩) rfl rfl
          refine fin _ ((Eff.made).ap (g.pr i)) (fun a ha => ?_) ?_ (fun _ => ⟨none, ?_, ?_⟩) (fun h0 => ?_) (by rw [hpe]; rfl) (by rw [hpe]; rfl) (by rw [hpe]; rfl) (fun t ht hti => ?_)
          · simp only [List.mem_cons, List.not_mem_nil, or_false] at ha
            rcases ha with rfl | rfl <;> assumption
          · show (((g.ap (s, _)).ap (i, .made)).pr i) = _
            rw [HYard.pr_ap_same (by rw [HYard.ap_len]; exact hgi), HYard.pr_ap_ne (by simp only; omega)]
          · rw [hpe]; exact hS
          · show (g.pr i).holds = []
            rw [hhg, hh]
          · exfalso
            have h0 : 0 ≤ (g.pr i).waits := h0
            rw [hpe] at h0
            have h0 : 0 ≤ (h.pr i).waits := h0
            omega
          · show (((g.ap (s, _)).ap (i, .made)).pr t).Nr t _ _
            rw [HYard.pr_ap_ne hti]
            exact hne2 s his hs hNs t ht hti
      | some s =>
        obtain ⟨his, k, hh⟩ := hH
        have hok := (H.ok i hi).hold ((s : Int), k, false) (by rw [hh]; simp)
        rw [if_neg (by simp)] at hok
        have hs : s < h.procs.length := by have := hok.2.1; simp only at this; omega
        have hkey : k.1 = (i : Int) := hok.2.2.2.1
        have Ns := (nr_iff.1 N).2 s hs
        have hheld := H.held i hi ((s : Int), k, false) (by rw [hh]; simp) rfl
        rcases hS with ⟨m34, ms, ⟨a, ma, has⟩, hS⟩ | ⟨m2, hS⟩
        · -- ask
          have hne : ¬ m.2.1 = (i : Int) := by rw [ms]; omega
          have hop : ∀ l ∈ (h.pr s).hl, l.key = k → l.closed = false := by
            obtain ⟨j, l, _, hl, hlk, hlc⟩ := hheld
            simp only [Int.toNat_natCast] at hl
            exact fun l2 hl2 hk2 => only_open (H.ok s hs).nd hl hlc l2 hl2 (hk2.trans hlk.symm)
          have hNs := Ns.ask' (k := k) (a := (m.2.2, m.1 == 4)) (by rw [ma]; simpa using has) (fun _ => hop)
          rw [if_neg (by omega), if_neg (by omega), if_pos m34, if_neg hne, ms, hold_some s k hh]
          simp only [Int.toNat_natCast]
          by_cases m4 : m.1 = 4
          · rw [if_pos m4]
            refine fin _ ((Eff.waits s).ap (g.pr i)) (fun a ha => ?_) ?_ (fun _ => ⟨some s, ?_, his, k, ?_⟩) (fun h0 => ⟨k, ?_⟩) (by rw [hpe]; rfl) (by rw [hpe]; rfl) (by rw [hpe]; rfl) (fun t ht hti => ?_)
            · simp only [List.mem_cons, List.not_mem_nil, or_false] at ha
              rcases ha with rfl | rfl <;> assumption
            · show (((g.ap (s, _)).ap (i, .waits s)).pr i) = _
              rw [HYard.pr_ap_same (by rw [HYard.ap_len]; exact hgi), HYard.pr_ap_ne (by simp only; omega)]
            · rw [hpe]; exact hS
            · show (g.pr i).holds = _
              rw [hhg, hh]
            · show (g.pr i).holds = _
              rw [hhg, hh]; rfl
            · show (((g.ap (s, _)).ap (i, .waits s)).pr t).Nr t _ _
              rw [HYard.pr_ap_ne hti]
              exact hne2 s his hs hNs t ht hti
          · rw [if_neg m4]
            refine fin _ (g.pr i) (fun a ha => ?_) ?_ (fun _ => ⟨some s, ?_, his, k, ?_⟩) (fun h0 => ?_) (by rw [hpe]; rfl) (by rw [hpe]; rfl) (by rw [hpe]; rfl) (fun t ht hti => ?_)
            · obtain rfl := List.mem_singleton.1 ha; exact hs
            · show ((g.ap (s, _)).pr i) = _
              rw [HYard.pr_ap_ne (by simp only; omega)]
            · rw [hpe]; exact hS
            · rw [hhg, hh]
            · exfalso
              rw [hpe] at h0
              have h0 : 0 ≤ (h.pr i).waits := h0
              omega
            · exact hne2 s his hs hNs t ht hti
        · -- leave
          have hclo := H.aw i s hi hs
          rw [hw, if_neg (by omega)] at hclo
          have hNs := Ns.close (k := k) (fun j l hj hl hk hc => by
            unfold HProc.aw at hclo
            rcases hc with ⟨a, ha, hat⟩ | ⟨hj2, hwt⟩
            · have h1 : 0 < l.aw i := by
                unfold HLine.aw
                rw [if_pos (by rw [hk, hkey])]
                exact List.countP_pos_iff.2 ⟨a, ha, hat⟩
              have h2 : l.aw i ≤ (((h.pr s).hl.drop (h.pr s).gone).map (HLine.aw i)).sum := by
                refine le_sum (List.mem_map.2 ⟨l, ?_, rfl⟩)
                have : ((h.pr s).hl.drop (h.pr s).gone)[j - (h.pr s).gone]? = some l := by rw [List.getElem?_drop, show (h.pr s).gone + (j - (h.pr s).gone) = j by omega]; exact hl
                exact List.mem_of_getElem? this
              omega
            · subst hj2
              have : (h.pr s).head.key.1 = i := by rw [head_get hl, hk, hkey]
              rw [if_pos ⟨hwt, this⟩] at hclo
              omega)
          rw [if_neg (by omega), if_pos m2]
          have hlast : (g.pr i).holds.getLast? = some ((s : Int), k, false) := by rw [hhg, hh]; rfl
          rw [hlast]
          have hdl : (g.pr i).holds.dropLast = [] := by rw [hhg, hh]; rfl
          simp only [clh, hdl, Int.toNat_natCast, Bool.false_eq_true, if_false]
          refine fin _ ((Eff.holds []).ap (g.pr i)) (fun a ha => ?_) ?_ (fun _ => ⟨none, ?_, rfl⟩) (fun h0 => ?_) (by rw [hpe]; rfl) (by rw [hpe]; rfl) (by rw [hpe]; rfl) (fun t ht hti => ?_)
          · simp only [List.mem_cons, List.not_mem_nil, or_false] at ha
            rcases ha with rfl | rfl <;> assumption
          · show (((g.ap (i, .holds [])).ap (s, .close k)).pr i) = _
            rw [HYard.pr_ap_ne (by simp only; omega), HYard.pr_ap_same hgi]
          · rw [hpe]; exact hS
          · exfalso
            have h0 : 0 ≤ (g.pr i).waits := h0
            rw [hpe] at h0
            have h0 : 0 ≤ (h.pr i).waits := h0
            omega
          · show (((g.ap (i, .holds [])).ap (s, .close k)).pr t).Nr t _ _
            by_cases e2 : t = s
            · subst e2; rw [HYard.pr_ap_same (by rw [HYard.ap_len, hgl]; exact ht)]
              simp only
              rw [HYard.pr_ap_ne hti, hgo t hti]; exact hNs
            · rw [HYard.pr_ap_ne e2, HYard.pr_ap_ne hti, hgo t hti]; exact (nr_iff.1 N).2 t ht
  · have hid := (H.ok i hi).idle hj
    simp only
    rw [if_neg (by omega)]
    cases ha : (h.pr i).head.all.drop (h.pr i).head.tk with
    | nil =>
      simp only
      refine Nr.ap N fun _ => ?_
      refine ⟨Ni.ask, fun (h0 : 0 ≤ (h.pr i).job) => by omega, Ni.wait, Ni.res, fun j l hj2 hl hc => ?_⟩
      have hj2 : (h.pr i).gone + 1 ≤ j := hj2
      rcases hc with hc | ⟨_, hc⟩
      · exact Ni.ao j l (by omega) hl (.inl hc)
      · have hc : (h.pr i).waited = true := hc
        rw [hid.2.2.2.2] at hc; cases hc
    | cons a r =>
      have hgh := get_head hgl
      have hbr := (Ni.res _ (List.mem_of_getElem? hgh)).1
      simp only [hbr, Bool.false_eq_true, if_false]
      have e2 : h.aps [(i, .tk (h.pr i).gone), (i, .job a.1 a.2)] = h.put i ((Eff.job a.1 a.2).ap ((Eff.tk (h.pr i).gone).ap (h.pr i))) := HYard.ap_ap hi
      rw [e2]
      have ham : a ∈ (h.pr i).head.all := List.mem_of_mem_drop (by rw [ha]; simp)
      have hma := Ni.ask _ (List.mem_of_getElem? hgh) a ham
      have hak := ((H.ok i hi).line _ _ hgh).ask a ham
      rw [nr_iff]
      rw [HYard.put_len]
      refine ⟨N.jobs, fun t ht => ?_⟩
      show ((h.put i _).pr t).Nr t h.procs.length h.jobs
      rw [HYard.pr_put hi]
      split
      · rename_i e; subst e
        refine ⟨fun x hx b hb => ?_, fun _ => ⟨none, ?_, hid.2.2.1⟩, fun (h0 : 0 ≤ (h.pr t).waits) => by omega, fun x hx => ?_, fun j x hj2 hx hc => ?_⟩
        · obtain ⟨y, hy, rfl | rfl⟩ := mem_modify (show x ∈ (h.pr t).hl.modify (h.pr t).gone HLine.take from hx)
          · exact Ni.ask x hy b hb
          · exact Ni.ask y hy b hb
        · show Shape _ _ _ ((h.jobs.getD a.1.toNat []).drop (0 : Int).toNat)
          have hlt : a.1.toNat < h.jobs.length := by omega
          have := N.jobs a.1.toNat h.jobs[a.1.toNat] (List.getElem?_eq_getElem hlt)
          rw [hma] at this
          rw [List.getD_eq_getElem?_getD, List.getElem?_eq_getElem hlt]
          exact this
        · obtain ⟨y, hy, rfl | rfl⟩ := mem_modify (show x ∈ (h.pr t).hl.modify (h.pr t).gone HLine.take from hx)
          · exact Ni.res x hy
          · exact Ni.res y hy
        · have hx : ((h.pr t).hl.modify (h.pr t).gone HLine.take)[j]? = some x := hx
          have hj2 : (h.pr t).gone ≤ j := hj2
          rw [modify_get] at hx
          split at hx
          · rename_i e
            subst e
            rw [hgh] at hx
            obtain rfl := Option.some.inj hx
            show (h.pr t).head.closed = false
            refine Ni.ao _ _ hj2 hgh (.inl ?_)
            rcases hc with ⟨b, hb, hbt⟩ | ⟨_, hc⟩
            · have hb : b ∈ (h.pr t).head.all.drop ((h.pr t).head.tk + 1) := hb
              rw [← List.drop_drop, ha] at hb
              exact ⟨b, by rw [ha]; exact List.mem_cons_of_mem _ hb, hbt⟩
            · exact ⟨a, by rw [ha]; simp, hc⟩
          · rename_i e
            rcases hc with hc | ⟨hc, _⟩
            · exact Ni.ao j x hj2 hx (.inl hc)
            · exact absurd hc.symm e
      · exact (nr_iff.1 N).2 t ht
end
end Go.Wt
namespace Go.Proofs.YtboepbencndobaaGreat
open Go.Ck
namespace Fx
theorem mixed : Tryz.prog.follows .mixedOrders = true := by kernel_rfl
theorem sz3 : Sz Tryz.prog 3 1 := fun _ => by kernel_rfl
theorem sz4 : Sz Tryz.prog 4 1 := fun _ => by kernel_rfl
theorem sz22 : Sz Tryz.prog 22 1 := fun _ => by kernel_rfl
theorem sz25 : Sz Tryz.prog 25 1 := fun _ => by kernel_rfl
theorem sz27 : Sz Tryz.prog 27 2 := fun _ => by kernel_rfl
theorem sz28 : Sz Tryz.prog 28 1 := fun _ => by kernel_rfl
theorem sz43 : Sz Tryz.prog 43 1 := fun _ => by kernel_rfl
theorem sz62 : Sz Tryz.prog 62 1 := fun _ => by kernel_rfl
theorem sz65 : Sz Tryz.prog 65 1 := fun _ => by kernel_rfl
theorem sz73 : Sz Tryz.prog 73 1 := fun _ => by kernel_rfl
theorem sz74 : Sz Tryz.prog 74 1 := fun _ => by kernel_rfl
theorem sz75 : Sz Tryz.prog 75 1 := fun _ => by kernel_rfl
theorem sz77 : Sz Tryz.prog 77 9 := fun _ => by kernel_rfl
theorem sz79 : Sz Tryz.prog 79 2 := fun _ => by kernel_rfl
theorem sz81 : Sz Tryz.prog 81 5 := fun _ => by kernel_rfl
theorem sz87 : Sz Tryz.prog 87 4 := fun _ => by kernel_rfl
theorem sz108 : Sz Tryz.prog 108 1 := fun _ => by kernel_rfl
theorem sz110 : Sz Tryz.prog 110 3 := fun _ => by kernel_rfl
theorem sz117 : Sz Tryz.prog 117 2 := fun _ => by kernel_rfl
theorem sz118 : Sz Tryz.prog 118 1 := fun _ => by kernel_rfl
theorem sz120 : Sz Tryz.prog 120 5 := fun _ => by kernel_rfl
theorem sz140 : Sz Tryz.prog 140 3 := fun _ => by kernel_rfl
theorem sz161 : Sz Tryz.prog 161 4 := fun _ => by kernel_rfl
theorem sz179 : Sz Tryz.prog 179 1 := fun _ => by kernel_rfl
theorem sz187 : Sz Tryz.prog 187 1 := fun _ => by kernel_rfl
theorem sz188 : Sz Tryz.prog 188 1 := fun _ => by kernel_rfl
theorem sl22 : SlE Tryz.prog 22 108 1 := ⟨Tryz.underlying22, sz108⟩
theorem sl25 : SlE Tryz.prog 25 77 9 := ⟨Tryz.underlying25, sz77⟩
theorem sl43 : SlE Tryz.prog 43 3 1 := ⟨Tryz.underlying43, sz3⟩
theorem sl54 : SlE Tryz.prog 54 62 1 := ⟨Tryz.underlying54, sz62⟩
theorem sl62 : SlE Tryz.prog 62 81 5 := ⟨Tryz.underlying62, sz81⟩
theorem sl64 : SlE Tryz.prog 64 65 1 := ⟨Tryz.underlying64, sz65⟩
theorem sl65 : SlE Tryz.prog 65 140 3 := ⟨Tryz.underlying65, sz140⟩
theorem sl70 : SlE Tryz.prog 70 87 4 := ⟨Tryz.underlying70, sz87⟩
theorem sl73 : SlE Tryz.prog 73 120 5 := ⟨Tryz.underlying73, sz120⟩
theorem sl74 : SlE Tryz.prog 74 79 2 := ⟨Tryz.underlying74, sz79⟩
theorem sl75 : SlE Tryz.prog 75 161 4 := ⟨Tryz.underlying75, sz161⟩
theorem sl92 : SlE Tryz.prog 92 74 1 := ⟨Tryz.underlying92, sz74⟩
theorem sl108 : SlE Tryz.prog 108 110 3 := ⟨Tryz.underlying108, sz110⟩
theorem sl118 : SlE Tryz.prog 118 117 2 := ⟨Tryz.underlying118, sz117⟩
theorem mp145 : MpT Tryz.prog 145 3 4 := ⟨Tryz.underlying145, Tryz.underlying3⟩
theorem mp200 : MpT Tryz.prog 200 3 199 := ⟨Tryz.underlying200, Tryz.underlying3⟩
theorem inf3 : Inf Tryz.prog 3 (.int .i64 0) 1 8 := by unfold Inf; kernel_rfl
theorem inf4 : Inf Tryz.prog 4 (.bool false) 1 1 := by unfold Inf; kernel_rfl
theorem inf28 : Inf Tryz.prog 28 (.int .i64 0) 1 8 := by unfold Inf; kernel_rfl
theorem inf62 : Inf Tryz.prog 62 (.slice none 0 0) 1 24 := by unfold Inf; kernel_rfl
theorem inf74 : Inf Tryz.prog 74 (.slice none 0 0) 1 24 := by unfold Inf; kernel_rfl
theorem inf77 : Inf Tryz.prog 77 (.agg #[.slice none 0 0, .slice none 0 0, .int .i64 0, .int .i64 0, .bool false, .slice none 0 0, .int .i64 0, .int .i64 0, .slice none 0 0]) 9 136 := by unfold Inf; kernel_rfl
theorem inf79 : Inf Tryz.prog 79 (.agg #[.int .i64 0, .int .i64 0]) 2 16 := by unfold Inf; kernel_rfl
theorem inf81 : Inf Tryz.prog 81 (.agg #[.int .i64 0, .int .i64 0, .int .i64 0, .bool false, .bool false]) 5 32 := by unfold Inf; kernel_rfl
theorem inf87 : Inf Tryz.prog 87 (.agg #[.int .i64 0, .int .i64 0, .int .i64 0, .int .i64 0]) 4 32 := by unfold Inf; kernel_rfl
theorem inf108 : Inf Tryz.prog 108 (.slice none 0 0) 1 24 := by unfold Inf; kernel_rfl
theorem inf110 : Inf Tryz.prog 110 (.agg #[.int .i64 0, .int .i64 0, .int .i64 0]) 3 24 := by unfold Inf; kernel_rfl
theorem inf117 : Inf Tryz.prog 117 (.agg #[.int .i64 0, .bool false]) 2 16 := by unfold Inf; kernel_rfl
theorem inf120 : Inf Tryz.prog 120 (.agg #[.int .i64 0, .int .i64 0, .slice none 0 0, .bool false, .bool false]) 5 48 := by unfold Inf; kernel_rfl
theorem inf161 : Inf Tryz.prog 161 (.agg #[.int .i64 0, .int .i64 0, .int .i64 0, .bool false]) 4 32 := by unfold Inf; kernel_rfl
theorem inf199 : Inf Tryz.prog 199 (.nilFunc) 1 8 := by unfold Inf; kernel_rfl
theorem pt202 : PtT Tryz.prog 202 120 := Tryz.underlying202
theorem ld3 : Ld1 Tryz.prog 3 := Ld1.of Tryz.underlying3 rfl
theorem ld4 : Ld1 Tryz.prog 4 := Ld1.of Tryz.underlying4 rfl
theorem ld5 : Ld1 Tryz.prog 5 := Ld1.of Tryz.underlying5 rfl
theorem ld22 : Ld1 Tryz.prog 22 := Ld1.of Tryz.underlying22 rfl
theorem ld25 : Ld1 Tryz.prog 25 := Ld1.of Tryz.underlying25 rfl
theorem ld27 : LdN Tryz.prog 27 2 := LdN.of Tryz.underlying27 sz27
theorem ld28 : Ld1 Tryz.prog 28 := Ld1.of Tryz.underlying28 rfl
theorem ld43 : Ld1 Tryz.prog 43 := Ld1.of Tryz.underlying43 rfl
theorem ld62 : Ld1 Tryz.prog 62 := Ld1.of Tryz.underlying62 rfl
theorem ld63 : Ld1 Tryz.prog 63 := Ld1.of Tryz.underlying63 rfl
theorem ld65 : Ld1 Tryz.prog 65 := Ld1.of Tryz.underlying65 rfl
theorem ld73 : Ld1 Tryz.prog 73 := Ld1.of Tryz.underlying73 rfl
theorem ld74 : Ld1 Tryz.prog 74 := Ld1.of Tryz.underlying74 rfl
theorem ld75 : Ld1 Tryz.prog 75 := Ld1.of Tryz.underlying75 rfl
theorem ld77 : LdN Tryz.prog 77 9 := LdN.of Tryz.underlying77 sz77
theorem ld79 : LdN Tryz.prog 79 2 := LdN.of Tryz.underlying79 sz79
theorem ld81 : LdN Tryz.prog 81 5 := LdN.of Tryz.underlying81 sz81
theorem ld87 : LdN Tryz.prog 87 4 := LdN.of Tryz.underlying87 sz87
theorem ld92 : Ld1 Tryz.prog 92 := Ld1.of Tryz.underlying92 rfl
theorem ld108 : Ld1 Tryz.prog 108 := Ld1.of Tryz.underlying108 rfl
theorem ld110 : LdN Tryz.prog 110 3 := LdN.of Tryz.underlying110 sz110
theorem ld117 : LdN Tryz.prog 117 2 := LdN.of Tryz.underlying117 sz117
theorem ld118 : Ld1 Tryz.prog 118 := Ld1.of Tryz.underlying118 rfl
theorem ld120 : LdN Tryz.prog 120 5 := LdN.of Tryz.underlying120 sz120
theorem ld123 : Ld1 Tryz.prog 123 := Ld1.of Tryz.underlying123 rfl
theorem ld126 : Ld1 Tryz.prog 126 := Ld1.of Tryz.underlying126 rfl
theorem ld140 : LdN Tryz.prog 140 3 := LdN.of Tryz.underlying140 sz140
theorem ld149 : Ld1 Tryz.prog 149 := Ld1.of Tryz.underlying149 rfl
theorem ld161 : LdN Tryz.prog 161 4 := LdN.of Tryz.underlying161 sz161
theorem ld168 : Ld1 Tryz.prog 168 := Ld1.of Tryz.underlying168 rfl
theorem ld177 : Ld1 Tryz.prog 177 := Ld1.of Tryz.underlying177 rfl
theorem ld179 : LdN Tryz.prog 179 1 := LdN.of Tryz.underlying179 sz179
theorem ld187 : Ld1 Tryz.prog 187 := Ld1.of Tryz.underlying187 rfl
theorem ld188 : Ld1 Tryz.prog 188 := Ld1.of Tryz.underlying188 rfl
theorem ld190 : Ld1 Tryz.prog 190 := Ld1.of Tryz.underlying190 rfl
theorem ld191 : Ld1 Tryz.prog 191 := Ld1.of Tryz.underlying191 rfl
theorem ld192 : Ld1 Tryz.prog 192 := Ld1.of Tryz.underlying192 rfl
theorem ld205 : Ld1 Tryz.prog 205 := Ld1.of Tryz.underlying205 rfl
theorem fa27_0 : Fa Tryz.prog 27 0 0 := fun _ _ _ => by kernel_rfl
theorem fa27_1 : Fa Tryz.prog 27 1 1 := fun _ _ _ => by kernel_rfl
theorem fa77_0 : Fa Tryz.prog 77 0 0 := fun _ _ _ => by kernel_rfl
theorem fa77_1 : Fa Tryz.prog 77 1 1 := fun _ _ _ => by kernel_rfl
theorem fa77_2 : Fa Tryz.prog 77 2 2 := fun _ _ _ => by kernel_rfl
theorem fa77_3 : Fa Tryz.prog 77 3 3 := fun _ _ _ => by kernel_rfl
theorem fa77_4 : Fa Tryz.prog 77 4 4 := fun _ _ _ => by kernel_rfl
theorem fa77_5 : Fa Tryz.prog 77 5 5 := fun _ _ _ => by kernel_rfl
theorem fa77_6 : Fa Tryz.prog 77 6 6 := fun _ _ _ => by kernel_rfl
theorem fa77_7 : Fa Tryz.prog 77 7 7 := fun _ _ _ => by kernel_rfl
theorem fa77_8 : Fa Tryz.prog 77 8 8 := fun _ _ _ => by kernel_rfl
theorem fa79_0 : Fa Tryz.prog 79 0 0 := fun _ _ _ => by kernel_rfl
theorem fa79_1 : Fa Tryz.prog 79 1 1 := fun _ _ _ => by kernel_rfl
theorem fa81_0 : Fa Tryz.prog 81 0 0 := fun _ _ _ => by kernel_rfl
theorem fa81_1 : Fa Tryz.prog 81 1 2 := fun _ _ _ => by kernel_rfl
theorem fa81_2 : Fa Tryz.prog 81 2 3 := fun _ _ _ => by kernel_rfl
theorem fa81_3 : Fa Tryz.prog 81 3 4 := fun _ _ _ => by kernel_rfl
theorem fa87_0 : Fa Tryz.prog 87 0 0 := fun _ _ _ => by kernel_rfl
theorem fa87_1 : Fa Tryz.prog 87 1 1 := fun _ _ _ => by kernel_rfl
theorem fa87_2 : Fa Tryz.prog 87 2 3 := fun _ _ _ => by kernel_rfl
theorem fa110_0 : Fa Tryz.prog 110 0 0 := fun _ _ _ => by kernel_rfl
theorem fa110_1 : Fa Tryz.prog 110 1 1 := fun _ _ _ => by kernel_rfl
theorem fa110_2 : Fa Tryz.prog 110 2 2 := fun _ _ _ => by kernel_rfl
theorem fa117_0 : Fa Tryz.prog 117 0 0 := fun _ _ _ => by kernel_rfl
theorem fa117_1 : Fa Tryz.prog 117 1 1 := fun _ _ _ => by kernel_rfl
theorem fa120_0 : Fa Tryz.prog 120 0 0 := fun _ _ _ => by kernel_rfl
theorem fa120_1 : Fa Tryz.prog 120 1 2 := fun _ _ _ => by kernel_rfl
theorem fa120_2 : Fa Tryz.prog 120 2 3 := fun _ _ _ => by kernel_rfl
theorem fa120_3 : Fa Tryz.prog 120 3 4 := fun _ _ _ => by kernel_rfl
theorem fa140_0 : Fa Tryz.prog 140 0 0 := fun _ _ _ => by kernel_rfl
theorem fa140_1 : Fa Tryz.prog 140 1 1 := fun _ _ _ => by kernel_rfl
theorem fa161_0 : Fa Tryz.prog 161 0 0 := fun _ _ _ => by kernel_rfl
theorem fa161_1 : Fa Tryz.prog 161 1 1 := fun _ _ _ => by kernel_rfl
theorem fa161_2 : Fa Tryz.prog 161 2 3 := fun _ _ _ => by kernel_rfl
theorem fa179_0 : Fa Tryz.prog 179 0 0 := fun _ _ _ => by kernel_rfl
theorem al3 : Al Tryz.prog 3 [.int .i64 0] := fun _ => by kernel_rfl
theorem al4 : Al Tryz.prog 4 [.bool false] := fun _ => by kernel_rfl
theorem al27 : Al Tryz.prog 27 [.slice none 0 0, .slice none 0 0] := fun _ => by kernel_rfl
theorem al28 : Al Tryz.prog 28 [.int .i64 0] := fun _ => by kernel_rfl
theorem al77 : Al Tryz.prog 77 [.slice none 0 0, .slice none 0 0, .int .i64 0, .int .i64 0, .bool false, .slice none 0 0, .int .i64 0, .int .i64 0, .slice none 0 0] := fun _ => by kernel_rfl
theorem al79 : Al Tryz.prog 79 [.int .i64 0, .int .i64 0] := fun _ => by kernel_rfl
theorem al81 : Al Tryz.prog 81 [.int .i64 0, .int .i64 0, .int .i64 0, .bool false, .bool false] := fun _ => by kernel_rfl
theorem al87 : Al Tryz.prog 87 [.int .i64 0, .int .i64 0, .int .i64 0, .int .i64 0] := fun _ => by kernel_rfl
theorem al110 : Al Tryz.prog 110 [.int .i64 0, .int .i64 0, .int .i64 0] := fun _ => by kernel_rfl
theorem al117 : Al Tryz.prog 117 [.int .i64 0, .bool false] := fun _ => by kernel_rfl
theorem al120 : Al Tryz.prog 120 [.int .i64 0, .int .i64 0, .slice none 0 0, .bool false, .bool false] := fun _ => by kernel_rfl
theorem al140 : Al Tryz.prog 140 [.int .u8 0, .int .u8 0, .int .u8 0] := fun _ => by kernel_rfl
theorem al161 : Al Tryz.prog 161 [.int .i64 0, .int .i64 0, .int .i64 0, .bool false] := fun _ => by kernel_rfl
theorem al187 : Al Tryz.prog 187 [.nilFunc] := fun _ => by kernel_rfl
theorem al188 : Al Tryz.prog 188 [.nilFunc] := fun _ => by kernel_rfl
theorem en12 : Enters Tryz.prog 12 := fun _ _ => by kernel_rfl
theorem en13 : Enters Tryz.prog 13 := fun _ _ => by kernel_rfl
theorem en14 : Enters Tryz.prog 14 := fun _ _ => by kernel_rfl
theorem en16 : Enters Tryz.prog 16 := fun _ _ => by kernel_rfl
theorem en17 : Enters Tryz.prog 17 := fun _ _ => by kernel_rfl
theorem en20 : Enters Tryz.prog 20 := fun _ _ => by kernel_rfl
theorem en22 : Enters Tryz.prog 22 := fun _ _ => by kernel_rfl
theorem en24 : Enters Tryz.prog 24 := fun _ _ => by kernel_rfl
theorem en26 : Enters Tryz.prog 26 := fun _ _ => by kernel_rfl
theorem en28 : Enters Tryz.prog 28 := fun _ _ => by kernel_rfl
theorem en29 : Enters Tryz.prog 29 := fun _ _ => by kernel_rfl
theorem en30 : Enters Tryz.prog 30 := fun _ _ => by kernel_rfl
theorem en31 : Enters Tryz.prog 31 := fun _ _ => by kernel_rfl
theorem en32 : Enters Tryz.prog 32 := fun _ _ => by kernel_rfl
theorem en33 : Enters Tryz.prog 33 := fun _ _ => by kernel_rfl
theorem en34 : Enters Tryz.prog 34 := fun _ _ => by kernel_rfl
theorem en35 : Enters Tryz.prog 35 := fun _ _ => by kernel_rfl
theorem en36 : Enters Tryz.prog 36 := fun _ _ => by kernel_rfl
theorem en37 : Enters Tryz.prog 37 := fun _ _ => by kernel_rfl
theorem en38 : Enters Tryz.prog 38 := fun _ _ => by kernel_rfl
theorem en40 : Enters Tryz.prog 40 := fun _ _ => by kernel_rfl
theorem en42 : Enters Tryz.prog 42 := fun _ _ => by kernel_rfl
theorem en43 : Enters Tryz.prog 43 := fun _ _ => by kernel_rfl
theorem en48 : Enters Tryz.prog 48 := fun _ _ => by kernel_rfl
theorem en49 : Enters Tryz.prog 49 := fun _ _ => by kernel_rfl
theorem en50 : Enters Tryz.prog 50 := fun _ _ => by kernel_rfl
theorem en51 : Enters Tryz.prog 51 := fun _ _ => by kernel_rfl
theorem en52 : Enters Tryz.prog 52 := fun _ _ => by kernel_rfl
theorem en53 : Enters Tryz.prog 53 := fun _ _ => by kernel_rfl
theorem en54 : Enters Tryz.prog 54 := fun _ _ => by kernel_rfl
theorem en55 : Enters Tryz.prog 55 := fun _ _ => by kernel_rfl
theorem en56 : Enters Tryz.prog 56 := fun _ _ => by kernel_rfl
theorem en57 : Enters Tryz.prog 57 := fun _ _ => by kernel_rfl
theorem en58 : Enters Tryz.prog 58 := fun _ _ => by kernel_rfl
theorem en59 : Enters Tryz.prog 59 := fun _ _ => by kernel_rfl
theorem en60 : Enters Tryz.prog 60 := fun _ _ => by kernel_rfl
theorem en61 : Enters Tryz.prog 61 := fun _ _ => by kernel_rfl
theorem en62 : Enters Tryz.prog 62 := fun _ _ => by kernel_rfl
theorem en63 : Enters Tryz.prog 63 := fun _ _ => by kernel_rfl
theorem en64 : Enters Tryz.prog 64 := fun _ _ => by kernel_rfl
theorem en67 : Enters Tryz.prog 67 := fun _ _ => by kernel_rfl
theorem en68 : Enters Tryz.prog 68 := fun _ _ => by kernel_rfl
theorem en71 : Enters Tryz.prog 71 := fun _ _ => by kernel_rfl
theorem en72 : Enters Tryz.prog 72 := fun _ _ => by kernel_rfl
theorem en75 : Enters Tryz.prog 75 := fun _ _ => by kernel_rfl
theorem en76 : Enters Tryz.prog 76 := fun _ _ => by kernel_rfl
theorem en77 : Enters Tryz.prog 77 := fun _ _ => by kernel_rfl
theorem en78 : Enters Tryz.prog 78 := fun _ _ => by kernel_rfl
theorem en79 : Enters Tryz.prog 79 := fun _ _ => by kernel_rfl
theorem en80 : Enters Tryz.prog 80 := fun _ _ => by kernel_rfl
theorem en81 : Enters Tryz.prog 81 := fun _ _ => by kernel_rfl
theorem en82 : Enters Tryz.prog 82 := fun _ _ => by kernel_rfl
theorem en83 : Enters Tryz.prog 83 := fun _ _ => by kernel_rfl
theorem en84 : Enters Tryz.prog 84 := fun _ _ => by kernel_rfl
theorem en85 : Enters Tryz.prog 85 := fun _ _ => by kernel_rfl
theorem en86 : Enters Tryz.prog 86 := fun _ _ => by kernel_rfl
theorem en87 : Enters Tryz.prog 87 := fun _ _ => by kernel_rfl
theorem en88 : Enters Tryz.prog 88 := fun _ _ => by kernel_rfl
theorem en102 : Enters Tryz.prog 102 := fun _ _ => by kernel_rfl
theorem en103 : Enters Tryz.prog 103 := fun _ _ => by kernel_rfl
theorem en104 : Enters Tryz.prog 104 := fun _ _ => by kernel_rfl
theorem en105 : Enters Tryz.prog 105 := fun _ _ => by kernel_rfl
theorem en106 : Enters Tryz.prog 106 := fun _ _ => by kernel_rfl
theorem en107 : Enters Tryz.prog 107 := fun _ _ => by kernel_rfl
theorem en108 : Enters Tryz.prog 108 := fun _ _ => by kernel_rfl
theorem en109 : Enters Tryz.prog 109 := fun _ _ => by kernel_rfl
theorem en110 : Enters Tryz.prog 110 := fun _ _ => by kernel_rfl
theorem en111 : Enters Tryz.prog 111 := fun _ _ => by kernel_rfl
theorem en112 : Enters Tryz.prog 112 := fun _ _ => by kernel_rfl
theorem en114 : Enters Tryz.prog 114 := fun _ _ => by kernel_rfl
theorem en115 : Enters Tryz.prog 115 := fun _ _ => by kernel_rfl
theorem en116 : Enters Tryz.prog 116 := fun _ _ => by kernel_rfl
theorem en117 : Enters Tryz.prog 117 := fun _ _ => by kernel_rfl
theorem en118 : Enters Tryz.prog 118 := fun _ _ => by kernel_rfl
theorem en119 : Enters Tryz.prog 119 := fun _ _ => by kernel_rfl
theorem en120 : Enters Tryz.prog 120 := fun _ _ => by kernel_rfl
theorem en121 : Enters Tryz.prog 121 := fun _ _ => by kernel_rfl
theorem en122 : Enters Tryz.prog 122 := fun _ _ => by kernel_rfl
theorem en123 : Enters Tryz.prog 123 := fun _ _ => by kernel_rfl
theorem en124 : Enters Tryz.prog 124 := fun _ _ => by kernel_rfl
theorem en125 : Enters Tryz.prog 125 := fun _ _ => by kernel_rfl
theorem en131 : Enters Tryz.prog 131 := fun _ _ => by kernel_rfl
theorem en132 : Enters Tryz.prog 132 := fun _ _ => by kernel_rfl
theorem en133 : Enters Tryz.prog 133 := fun _ _ => by kernel_rfl
theorem en134 : Enters Tryz.prog 134 := fun _ _ => by kernel_rfl
theorem en135 : Enters Tryz.prog 135 := fun _ _ => by kernel_rfl
theorem en136 : Enters Tryz.prog 136 := fun _ _ => by kernel_rfl
theorem en137 : Enters Tryz.prog 137 := fun _ _ => by kernel_rfl
theorem en138 : Enters Tryz.prog 138 := fun _ _ => by kernel_rfl
theorem en139 : Enters Tryz.prog 139 := fun _ _ => by kernel_rfl
theorem en140 : Enters Tryz.prog 140 := fun _ _ => by kernel_rfl
theorem en141 : Enters Tryz.prog 141 := fun _ _ => by kernel_rfl
theorem en142 : Enters Tryz.prog 142 := fun _ _ => by kernel_rfl
theorem en143 : Enters Tryz.prog 143 := fun _ _ => by kernel_rfl
theorem en144 : Enters Tryz.prog 144 := fun _ _ => by kernel_rfl
theorem en146 : Enters Tryz.prog 146 := fun _ _ => by kernel_rfl
theorem en147 : Enters Tryz.prog 147 := fun _ _ => by kernel_rfl
theorem en148 : Enters Tryz.prog 148 := fun _ _ => by kernel_rfl
theorem en149 : Enters Tryz.prog 149 := fun _ _ => by kernel_rfl
theorem en150 : Enters Tryz.prog 150 := fun _ _ => by kernel_rfl
theorem en151 : Enters Tryz.prog 151 := fun _ _ => by kernel_rfl
theorem en152 : Enters Tryz.prog 152 := fun _ _ => by kernel_rfl
theorem en153 : Enters Tryz.prog 153 := fun _ _ => by kernel_rfl
theorem en162 : Enters Tryz.prog 162 := fun _ _ => by kernel_rfl
theorem en163 : Enters Tryz.prog 163 := fun _ _ => by kernel_rfl
theorem en164 : Enters Tryz.prog 164 := fun _ _ => by kernel_rfl
theorem en165 : Enters Tryz.prog 165 := fun _ _ => by kernel_rfl
theorem en166 : Enters Tryz.prog 166 := fun _ _ => by kernel_rfl
theorem en167 : Enters Tryz.prog 167 := fun _ _ => by kernel_rfl
theorem en168 : Enters Tryz.prog 168 := fun _ _ => by kernel_rfl
theorem en169 : Enters Tryz.prog 169 := fun _ _ => by kernel_rfl
theorem en170 : Enters Tryz.prog 170 := fun _ _ => by kernel_rfl
theorem en171 : Enters Tryz.prog 171 := fun _ _ => by kernel_rfl
theorem en172 : Enters Tryz.prog 172 := fun _ _ => by kernel_rfl
theorem en173 : Enters Tryz.prog 173 := fun _ _ => by kernel_rfl
theorem en174 : Enters Tryz.prog 174 := fun _ _ => by kernel_rfl
theorem en175 : Enters Tryz.prog 175 := fun _ _ => by kernel_rfl
theorem en176 : Enters Tryz.prog 176 := fun _ _ => by kernel_rfl
theorem en177 : Enters Tryz.prog 177 := fun _ _ => by kernel_rfl
theorem en178 : Enters Tryz.prog 178 := fun _ _ => by kernel_rfl
theorem en179 : Enters Tryz.prog 179 := fun _ _ => by kernel_rfl
theorem en180 : Enters Tryz.prog 180 := fun _ _ => by kernel_rfl
theorem en181 : Enters Tryz.prog 181 := fun _ _ => by kernel_rfl
theorem en183 : Enters Tryz.prog 183 := fun _ _ => by kernel_rfl
theorem en184 : Enters Tryz.prog 184 := fun _ _ => by kernel_rfl
theorem en185 : Enters Tryz.prog 185 := fun _ _ => by kernel_rfl
theorem en186 : Enters Tryz.prog 186 := fun _ _ => by kernel_rfl
theorem en187 : Enters Tryz.prog 187 := fun _ _ => by kernel_rfl
theorem en188 : Enters Tryz.prog 188 := fun _ _ => by kernel_rfl
theorem en189 : Enters Tryz.prog 189 := fun _ _ => by kernel_rfl
theorem en190 : Enters Tryz.prog 190 := fun _ _ => by kernel_rfl
theorem en191 : Enters Tryz.prog 191 := fun _ _ => by kernel_rfl
end Fx
end Go.Proofs.YtboepbencndobaaGreat
namespace Go.Ck
open Go Go.RowKit

def OpenRow (v : Value) (sz n : Nat) (l : List Value) (b cp : Nat) (j : List Value) : Prop := v = .slice (some ⟨b, 0, none⟩) n cp ∧ l.length = n * sz ∧ n ≤ cp ∧ cp ≤ maxLen ∧ (l ++ j).length = cp * sz
section
variable {c : Cx} {Q : Exit → Act → World → Prop} {e : Env} {h h' : SH} {x : Code} {v : Value} {E : TypeId} {sz n : Nat} {l l' : List Value}
end
end Go.Ck
namespace Go.Ck
open Go Go.RowKit

/-! ## Rows that are read -/
def Row {α : Type} (S : Res) (sz : Nat) (X : List Value → α → Prop) (v : Value) (l : List α) : Prop :=
  ∃ a cap, v = .slice a l.length cap ∧ l.length ≤ cap ∧ cap ≤ maxLen ∧ (a = none → cap = 0) ∧ ∀ i x, l[i]? = some x → ∃ b o us, a = some ⟨b, o, none⟩ ∧ us.length = sz ∧ Rds S b (o + i * sz) us ∧ X us x
section
variable {α : Type} {S S' : Res} {sz : Nat} {X X' : List Value → α → Prop} {v : Value} {l : List α}
theorem Row.mono (h : Row S sz X v l) (hr : ∀ p u, Rd S p u → Rd S' p u) (hx : ∀ us x, x ∈ l → X us x → X' us x) : Row S' sz X' v l := by
  obtain ⟨a, cap, h1, h2, h3, h4, h5⟩ := h
  refine ⟨a, cap, h1, h2, h3, h4, fun i x hi => ?_⟩
  obtain ⟨b, o, us, g1, g2, g3, g4⟩ := h5 i x hi
  exact ⟨b, o, us, g1, g2, fun j hj => hr _ _ (g3 j hj), hx _ _ (List.mem_of_getElem? hi) g4⟩
theorem Row.nil : Row S sz X (.slice none 0 0) [] := ⟨none, 0, rfl, Nat.le_refl _, Nat.zero_le _, fun _ => rfl, fun i x h => by simp at h⟩
theorem Row.at (h : Row S sz X v l) {i : Nat} {x : α} (hi : l[i]? = some x) : ∃ b o cap us, v = .slice (some ⟨b, o, none⟩) l.length cap ∧ us.length = sz ∧ Rds S b (o + i * sz) us ∧ X us x := by
  obtain ⟨a, cap, h1, h2, h3, h4, h5⟩ := h
  obtain ⟨b, o, us, g1, g2, g3, g4⟩ := h5 i x hi
  exact ⟨b, o, cap, us, by rw [h1, g1], g2, g3, g4⟩
theorem Row.one (h : Row S sz X v l) : v.oneCell' = true := by obtain ⟨a, cap, rfl, _⟩ := h; rfl
theorem Row.lenle (h : Row S sz X v l) : l.length ≤ maxLen := by obtain ⟨a, cap, _, h2, h3, _⟩ := h; omega
end
theorem Row.at1 {α : Type} {S : Res} {X : List Value → α → Prop} {v : Value} {l : List α} (h : Row S 1 X v l) {i : Nat} {x : α} (hi : l[i]? = some x) : ∃ b o cap u, v = .slice (some ⟨b, o, none⟩) l.length cap ∧ Rd S ⟨b, o + i * 1, none⟩ u ∧ X [u] x := by
  obtain ⟨b, o, cap, us, h1, h2, h3, h4⟩ := h.at hi
  match us, h2 with
  | [u], _ => exact ⟨b, o, cap, u, h1, by simpa using h3 0 (by simp), h4⟩
theorem rds_at {r : Res} {b o k : Nat} {us : List Value} {v : Value} (h : Rds r b o us) (hv : us[k]? = some v) : Rd r ⟨b, o + k, none⟩ v := by
  obtain ⟨hk, hv⟩ := List.getElem?_eq_some_iff.1 hv
  subst hv; exact h k hk
theorem rds_sub {r : Res} {b o k : Nat} {us vs : List Value} (h : Rds r b o us) (hv : (us.drop k).take vs.length = vs) : Rds r b (o + k) vs := fun i hi => by
  have h1 : us[k + i]? = some vs[i] := by
    have : vs[i]? = some vs[i] := List.getElem?_eq_getElem hi
    rw [← this, ← hv, List.getElem?_take, if_pos (by have := congrArg List.length hv; simp at this; omega), List.getElem?_drop]
  rw [Nat.add_assoc]; exact rds_at h h1
theorem rd_in {k : SH} {r : Res} {k' : SH} (s : Sel k r k') (p : Addr) (v : Value) (h : Rd r p v) : Rd (Res.star k) p v := rd_star s h

/-! ## Contracts over many resources as one -/
theorem holds_star1 {w : World} {L hr : SH} : Holds w (Res.star L :: hr) ↔ Holds w (L ++ hr) := star_iff
theorem reads_star {P : Program} {k : FuncId} {args : Array Value} {L : SH} {v : Value} (h : Reads P k args [Res.star L] v) : Reads P k args L v := fun hr w hh =>
  (h hr w (holds_star1.2 hh)).mono fun _ _ ⟨u, h', he, ⟨hu, hh'⟩, hH, hS⟩ => ⟨u, L, he, ⟨hu, rfl⟩, by subst hh'; exact holds_star1.1 hH, hS⟩
theorem reads_one {P : Program} {k : FuncId} {args : Array Value} {L : SH} {v : Value} (h : Reads P k args L v) : Reads P k args [Res.star L] v := fun hr w hh =>
  (h hr w (holds_star1.1 hh)).mono fun _ _ ⟨u, h', he, ⟨hu, hh'⟩, hH, hS⟩ => ⟨u, _, he, ⟨hu, rfl⟩, by subst hh'; exact holds_star1.2 hH, hS⟩
def CtN (P : Program) (k : FuncId) (args : Array Value) (hf : SH) (Q : Value → Res → Prop) : Prop := Ct P k args hf fun u h' => ∃ T, h' = T :: hf ∧ Q u T
theorem ctn_star {P : Program} {k : FuncId} {args : Array Value} {L : SH} {Q : Value → Res → Prop} (h : CtN P k args [Res.star L] Q) : CtN P k args L Q := fun hr w hh =>
  (h hr w (holds_star1.2 hh)).mono fun _ _ ⟨u, h', he, ⟨T, hT, hQ⟩, hH, hS⟩ => ⟨u, T :: L, he, ⟨T, rfl, hQ⟩, by
    subst hT
    have h1 : Holds _ (T :: Res.star L :: hr) := hH
    have h2 : Holds _ (Res.star L :: T :: hr) := h1.perm (.swap _ _ _)
    exact (holds_star1.1 h2).perm List.perm_middle, hS⟩
theorem CtN.mono {P : Program} {k : FuncId} {args : Array Value} {hf : SH} {Q Q' : Value → Res → Prop} (h : CtN P k args hf Q) (hq : ∀ u T, Q u T → Q' u T) : CtN P k args hf Q' := Ct.mono h fun _ _ ⟨T, h1, h2⟩ => ⟨T, h1, hq _ _ h2⟩

/-! ## Rows that are owned -/
def VR (v : Value) (E : TypeId) (sz : Nat) (rows : List (List Value)) : Res where
  dom b := ∃ o m cp, v = .slice (some ⟨b, o, none⟩) m cp
  ok f := (∀ r ∈ rows, r.length = sz) ∧ ((v = .slice none 0 0 ∧ rows = []) ∨ ∃ b o cp pre j, v = .slice (some ⟨b, o, none⟩) rows.length cp ∧ f b = some (cl (pre ++ (rows.flatten ++ j)) E) ∧ pre.length = o ∧ rows.length ≤ cp ∧ cp ≤ maxLen ∧ cp * sz ≤ (rows.flatten ++ j).length)
  loc f g he := fun ⟨h1, h2⟩ => ⟨h1, h2.imp id fun ⟨b, o, cp, pre, j, hv, hb, hr⟩ => ⟨b, o, cp, pre, j, hv, by rw [← he b ⟨o, _, cp, hv⟩]; exact hb, hr⟩⟩
  pres f := fun ⟨_, h2⟩ b ⟨o, m, cp, hv⟩ => by
    rcases h2 with ⟨h3, _⟩ | ⟨b', o', cp', pre, j, h3, hb, _⟩
    · rw [h3] at hv; cases hv
    · rw [h3] at hv; cases hv; rw [hb]; rfl
section
variable {v : Value} {E : TypeId} {sz : Nat} {rows : List (List Value)} {f : Nat → Option Obj}
theorem VR.form (h : (VR v E sz rows).ok f) : (v = .slice none 0 0 ∧ rows = []) ∨ ∃ b o cp, v = .slice (some ⟨b, o, none⟩) rows.length cp ∧ rows.length ≤ cp ∧ cp ≤ maxLen := by
  rcases h.2 with h | ⟨b, o, cp, _, _, h1, _, _, h2, h3, _⟩
  · exact .inl h
  · exact .inr ⟨b, o, cp, h1, h2, h3⟩
theorem VR.one (h : (VR v E sz rows).ok f) : v.oneCell' = true := by rcases VR.form h with ⟨rfl, _⟩ | ⟨_, _, _, rfl, _⟩ <;> rfl
theorem VR.nil : (VR (.slice none 0 0) E sz []).ok f := ⟨by simp, .inl ⟨rfl, rfl⟩⟩
theorem flatten_at {rows : List (List Value)} {sz m k : Nat} {r : List Value} {x : Value} (h : ∀ r ∈ rows, r.length = sz) (hm : rows[m]? = some r) (hk : r[k]? = some x) : rows.flatten[m * sz + k]? = some x := by
  induction rows generalizing m with
  | nil => simp at hm
  | cons q t ih =>
    have hq := h q (by simp)
    cases m with
    | zero =>
      simp only [List.getElem?_cons_zero, Option.some.injEq] at hm
      subst hm
      rw [List.flatten_cons, Nat.zero_mul, Nat.zero_add, List.getElem?_append_left (List.getElem?_eq_some_iff.1 hk).1]; exact hk
    | succ m =>
      rw [List.getElem?_cons_succ] at hm
      rw [List.flatten_cons, List.getElem?_append_right (by rw [hq, Nat.succ_mul]; omega), hq, ← ih (fun r hr => h r (by simp [hr])) hm]
      congr 1
      rw [Nat.succ_mul]; omega
theorem flatten_set {rows : List (List Value)} {sz m k : Nat} {r : List Value} {x : Value} (h : ∀ r ∈ rows, r.length = sz) (hm : rows[m]? = some r) (hk : k < sz) : rows.flatten.set (m * sz + k) x = (rows.set m (r.set k x)).flatten := by
  induction rows generalizing m with
  | nil => simp at hm
  | cons q t ih =>
    have hq := h q (by simp)
    cases m with
    | zero =>
      simp only [List.getElem?_cons_zero, Option.some.injEq] at hm
      subst hm
      rw [List.flatten_cons, Nat.zero_mul, Nat.zero_add, List.set_append_left _ _ (by omega), List.set_cons_zero, List.flatten_cons]
    | succ m =>
      rw [List.getElem?_cons_succ] at hm
      rw [List.flatten_cons, List.set_append_right _ _ (by rw [hq, Nat.succ_mul]; omega), hq, List.set_cons_succ, List.flatten_cons, ← ih (fun r hr => h r (by simp [hr])) hm]
      congr 2
      rw [Nat.succ_mul]; omega
theorem flatten_len {rows : List (List Value)} {sz : Nat} (h : ∀ r ∈ rows, r.length = sz) : rows.flatten.length = rows.length * sz := by
  induction rows with
  | nil => simp
  | cons q t ih => rw [List.flatten_cons, List.length_append, h q (by simp), ih (fun r hr => h r (by simp [hr])), List.length_cons, Nat.succ_mul]; omega
theorem flatten_inv {rows : List (List Value)} {sz j : Nat} {x : Value} (h : ∀ r ∈ rows, r.length = sz) (hj : rows.flatten[j]? = some x) : ∃ m k r, j = m * sz + k ∧ rows[m]? = some r ∧ r[k]? = some x := by
  induction rows generalizing j with
  | nil => simp at hj
  | cons q t ih =>
    have hq := h q (by simp)
    rw [List.flatten_cons] at hj
    by_cases hjq : j < q.length
    · rw [List.getElem?_append_left hjq] at hj
      exact ⟨0, j, q, by simp, rfl, hj⟩
    · rw [List.getElem?_append_right (by omega)] at hj
      obtain ⟨m, k, r, h1, h2, h3⟩ := ih (fun r hr => h r (by simp [hr])) hj
      exact ⟨m + 1, k, r, by rw [Nat.succ_mul]; omega, h2, h3⟩
theorem Row.cells {α : Type} {S : Res} {X : List Value → α → Prop} {a : Option Addr} {n cp : Nat} : ∀ {l : List α}, Row S sz X (.slice a n cp) l → ∃ rows : List (List Value), rows.length = l.length ∧ (∀ r ∈ rows, r.length = sz) ∧ (∀ (i : Nat) us x, rows[i]? = some us → l[i]? = some x → X us x) ∧
    ∀ j u, rows.flatten[j]? = some u → ∃ b o, a = some ⟨b, o, none⟩ ∧ Rd S ⟨b, o + j, none⟩ u := fun {l} h => by
  obtain ⟨a', cap, h1, _, _, _, h5⟩ := h
  cases h1
  have key : ∀ (k : Nat), k ≤ l.length → ∃ rows : List (List Value), rows.length = k ∧ ∀ (i : Nat) us, rows[i]? = some us → ∃ x b o, l[i]? = some x ∧ a = some ⟨b, o, none⟩ ∧ us.length = sz ∧ Rds S b (o + i * sz) us ∧ X us x := by
    intro k
    induction k with
    | zero => exact fun _ => ⟨[], rfl, fun i us h => by simp at h⟩
    | succ k ih =>
      intro hk
      obtain ⟨rows, g1, g2⟩ := ih (by omega)
      obtain ⟨b, o, us, e1, e2, e3, e4⟩ := h5 k l[k] (List.getElem?_eq_getElem (by omega))
      refine ⟨rows ++ [us], by simp [g1], fun i us' hi => ?_⟩
      by_cases hik : i < rows.length
      · rw [List.getElem?_append_left hik] at hi; exact g2 i us' hi
      · rw [List.getElem?_append_right (by omega)] at hi
        have hi0 : i - rows.length = 0 := by
          have := (List.getElem?_eq_some_iff.1 hi).1
          simp at this; omega
        rw [hi0] at hi
        simp only [List.getElem?_cons_zero, Option.some.injEq] at hi
        subst hi
        have : i = k := by omega
        subst this
        exact ⟨l[i], b, o, List.getElem?_eq_getElem (by omega), e1, e2, e3, e4⟩
  obtain ⟨rows, g1, g2⟩ := key l.length (Nat.le_refl _)
  have hsz : ∀ r ∈ rows, r.length = sz := fun r hr => by
    obtain ⟨i, hi, rfl⟩ := List.mem_iff_getElem.1 hr
    obtain ⟨_, _, _, _, _, e2, _⟩ := g2 i _ (List.getElem?_eq_getElem hi)
    exact e2
  refine ⟨rows, g1, hsz, fun i us x hi hx => ?_, fun j u hj => ?_⟩
  · obtain ⟨x', b, o, e0, _, _, _, e4⟩ := g2 i us hi
    rw [hx] at e0; cases e0; exact e4
  · obtain ⟨m, k, r, rfl, e1, e2⟩ := flatten_inv hsz hj
    obtain ⟨x, b, o, _, e3, e4, e5, _⟩ := g2 m r e1
    exact ⟨b, o, e3, by have := rds_at e5 e2; rwa [Nat.add_assoc] at this⟩
theorem rds_vr {b o n cp m : Nat} {r : List Value} (hm : rows[m]? = some r) : Rds (VR (.slice (some ⟨b, o, none⟩) n cp) E sz rows) b (o + m * sz) r := fun i hi w hw => by
  obtain ⟨h1, h2⟩ := hw
  rcases h2 with ⟨h3, _⟩ | ⟨b', o', cp', pre, j, h3, hb, hp, _⟩
  · cases h3
  · cases h3
    have hb' : w.heap[b]? = _ := hb
    have h4 := flatten_at h1 hm (List.getElem?_eq_getElem hi)
    have hlt := (List.getElem?_eq_some_iff.1 h4).1
    simp only [World.cell?, hb', cl, List.getElem?_toArray, Option.isSome_none, Bool.false_eq_true, if_false]
    rw [List.getElem?_append_right (by omega), hp, show o + m * sz + i - o = m * sz + i by omega, List.getElem?_append_left hlt, h4]
theorem row_vr {α : Type} {X : List Value → α → Prop} {l : List α} {S : Res} (hok : ∃ f, (VR v E sz rows).ok f) (hl : rows.length = l.length) (hr : ∀ p u, Rd (VR v E sz rows) p u → Rd S p u) (hx : ∀ (i : Nat) us x, rows[i]? = some us → l[i]? = some x → X us x) : Row S sz X v l := by
  obtain ⟨f, hf⟩ := hok
  rcases VR.form hf with ⟨rfl, h1⟩ | ⟨b, o, cp, rfl, h1, h2⟩
  · have hl0 : l = [] := List.eq_nil_of_length_eq_zero (by rw [← hl, h1]; rfl)
    subst hl0; exact Row.nil
  · refine ⟨some ⟨b, o, none⟩, cp, by rw [hl], by omega, h2, (fun h => by cases h), fun i x hi => ?_⟩
    have hlt : i < rows.length := by rw [hl]; exact (List.getElem?_eq_some_iff.1 hi).1
    have hri : rows[i]? = some rows[i] := List.getElem?_eq_getElem hlt
    exact ⟨b, o, rows[i], rfl, hf.1 _ (List.getElem_mem hlt), fun j hj => hr _ _ (rds_vr hri j hj), hx i _ _ hri hi⟩
end

/-! ### What is done to them -/
section
variable {w : World} {v : Value} {E : TypeId} {sz : Nat} {rows : List (List Value)} {h : SH}
theorem Holds.vr_nil (hh : Holds w h) (E : TypeId) (sz : Nat) : Holds w (VR (.slice none 0 0) E sz [] :: h) := ⟨VR.nil, (fun _ ⟨_, _, _, hv⟩ => by cases hv), hh⟩
theorem Holds.vr_set {b o n cp m k : Nat} {r : List Value} {x : Value} (hh : Holds w (VR (.slice (some ⟨b, o, none⟩) n cp) E sz rows :: h)) (hm : rows[m]? = some r) (hk : k < sz) :
    (∃ l, w.heap[b]? = some (cl l E) ∧ o + m * sz + k < l.length) ∧ Holds (w.setCell ⟨b, o + m * sz + k, none⟩ x) (VR (.slice (some ⟨b, o, none⟩) n cp) E sz (rows.set m (r.set k x)) :: h) := by
  obtain ⟨⟨h1, h2⟩, hd, ht⟩ := hh
  rcases h2 with ⟨h3, _⟩ | ⟨b', o', cp', pre, j, h3, hb, hp, hc1, hc2, hc3⟩
  · cases h3
  · cases h3
    have hr := h1 r (List.mem_of_getElem? hm)
    have h4 := flatten_at (k := k) h1 hm (List.getElem?_eq_getElem (by omega))
    have hlt := (List.getElem?_eq_some_iff.1 h4).1
    refine ⟨⟨_, hb, by simp only [List.length_append]; omega⟩, ?_⟩
    have hpt : Holds w (pt b (cl (pre ++ (rows.flatten ++ j)) E) :: h) := ⟨hb, fun c hc => by rw [show c = b from hc]; exact hd b ⟨o, _, cp, rfl⟩, ht⟩
    have hset := Holds.setCell (off := o + m * sz + k) hpt x
    have hl : (pre ++ (rows.flatten ++ j)).set (o + m * sz + k) x = pre ++ ((rows.set m (r.set k x)).flatten ++ j) := by
      rw [List.set_append_right _ _ (by omega), hp, show o + m * sz + k - o = m * sz + k by omega, List.set_append_left _ _ hlt, flatten_set h1 hm hk]
    rw [hl] at hset
    refine ⟨⟨fun q hq => ?_, .inr ⟨b, o, cp, pre, j, by rw [List.length_set], hset.1, hp, by rw [List.length_set]; exact hc1, hc2, ?_⟩⟩, fun c hc => hd c hc, hset.2.2⟩
    · rcases List.mem_or_eq_of_mem_set hq with hq | rfl
      · exact h1 q hq
      · rw [List.length_set]; exact hr
    · have : (rows.set m (r.set k x)).flatten.length = rows.flatten.length := by rw [← flatten_set h1 hm hk, List.length_set]
      rw [List.length_append, this, ← List.length_append]; exact hc3
theorem Holds.vr_tail {b o n cp m : Nat} (hh : Holds w (VR (.slice (some ⟨b, o, none⟩) n cp) E sz rows :: h)) (hm : m ≤ rows.length) :
    Holds w (VR (.slice (some ⟨b, if cp = m then o else o + m * sz, none⟩) (n - m) (cp - m)) E sz (rows.drop m) :: h) := by
  obtain ⟨⟨h1, h2⟩, hd, ht⟩ := hh
  rcases h2 with ⟨h3, _⟩ | ⟨b', o', cp', pre, j, h3, hb, hp, hc1, hc2, hc3⟩
  · cases h3
  · cases h3
    have hsp : rows.flatten = (rows.take m).flatten ++ (rows.drop m).flatten := by rw [← List.flatten_append, List.take_append_drop]
    have htl : (rows.take m).flatten.length = m * sz := by rw [flatten_len (fun r hr => h1 r (List.mem_of_mem_take hr)), List.length_take, Nat.min_eq_left hm]
    refine ⟨⟨fun q hq => h1 q (List.mem_of_mem_drop hq), .inr ?_⟩, fun c ⟨o', m', cp', hv⟩ => ?_, ht⟩
    · by_cases hcm : cp = m
      · have hn : rows.drop m = [] := List.drop_of_length_le (by omega)
        refine ⟨b, o, cp - m, pre, rows.flatten ++ j, by rw [if_pos hcm, List.length_drop], by rw [hn]; exact hb, hp, by rw [hn]; exact Nat.zero_le _, by omega, by subst hcm; simp⟩
      · refine ⟨b, o + m * sz, cp - m, pre ++ (rows.take m).flatten, j, by rw [if_neg hcm, List.length_drop], by rw [hb, hsp]; simp, by rw [List.length_append, hp, htl], by rw [List.length_drop]; omega, by omega, ?_⟩
        rw [hsp, List.length_append, List.length_append, htl] at hc3
        rw [List.length_append, Nat.sub_mul]; omega
    · cases hv; exact hd _ ⟨_, _, _, rfl⟩
theorem Holds.vr_take {b o n cp m : Nat} (hh : Holds w (VR (.slice (some ⟨b, o, none⟩) n cp) E sz rows :: h)) (hm : m ≤ rows.length) :
    Holds w (VR (.slice (some ⟨b, o, none⟩) m cp) E sz (rows.take m) :: h) := by
  obtain ⟨⟨h1, h2⟩, hd, ht⟩ := hh
  rcases h2 with ⟨h3, _⟩ | ⟨b', o', cp', pre, j, h3, hb, hp, hc1, hc2, hc3⟩
  · cases h3
  · cases h3
    have hsp : rows.flatten = (rows.take m).flatten ++ (rows.drop m).flatten := by rw [← List.flatten_append, List.take_append_drop]
    refine ⟨⟨fun q hq => h1 q (List.mem_of_mem_take hq), .inr ⟨b, o, cp, pre, (rows.drop m).flatten ++ j, by rw [List.length_take, Nat.min_eq_left hm], by rw [hb, hsp, List.append_assoc], hp, by rw [List.length_take]; omega, hc2, ?_⟩⟩, fun c ⟨o', m', cp', hv⟩ => ?_, ht⟩
    · rw [← List.append_assoc, ← hsp]; exact hc3
    · cases hv; exact hd _ ⟨_, _, _, rfl⟩
theorem Holds.vr_of {b n : Nat} {cells : List Value} (hh : Holds w (pt b (cl cells E) :: h)) (hc : cells = rows.flatten) (h1 : ∀ r ∈ rows, r.length = sz) (hn : rows.length = n) (hm : n ≤ maxLen) : Holds w (VR (.slice (some ⟨b, 0, none⟩) n n) E sz rows :: h) := by
  subst hn hc
  refine ⟨⟨h1, .inr ⟨b, 0, _, [], [], rfl, ?_, rfl, Nat.le_refl _, hm, by rw [List.append_nil, flatten_len h1]; exact Nat.le_refl _⟩⟩, fun c ⟨o', m', cp', hv⟩ => ?_, hh.2.2⟩
  · have := hh.1
    simpa [pt] using this
  · cases hv; exact hh.2.1 _ rfl

theorem run_append_vr {P : Program} {t : TypeId} (ty : TypeId) {z : Value} {bytes : Nat} (ht : P.underlying t = some (.slice E)) (hE : Inf P E z sz bytes) (hzs : z.cells.size = sz) (hsz : 0 < sz)
    (hh : Holds w (VR v E sz rows :: h)) {src : Addr} {m cp : Nat} {news : List (List Value)} (hn1 : ∀ r ∈ news, r.length = sz) (hl : news.length = m)
    (hnews : ∀ j u, news.flatten[j]? = some u → w.cell? (src.add j) = some u) (h1 : ∀ u ∈ news.flatten, u.oneCell' = true) (hb : (rows.length + m) * bytes ≤ 140737488355328) (h63 : rows.length + m ≤ 9223372036854775807) :
    ∃ v' w', (Builtin.append_ #[t, t] ty #[v, .slice (some src) m cp]).run P w = .ok v' w' ∧ Holds w' (VR v' E sz (rows ++ news) :: h) ∧ Same w w' ∧ (v' = .slice none 0 0 ↔ v = .slice none 0 0 ∧ m = 0) := by
  obtain ⟨i, hi, hz, hisz, hiby⟩ := hE.parts
  subst hisz hiby
  have hok : (VR v E i.size rows).ok (hp w) := hh.1
  have hmax : maxLen = 9223372036854775807 := rfl
  have hall : ∀ r ∈ rows ++ news, r.length = i.size := fun r hr => (List.mem_append.1 hr).elim (hok.1 r) (hn1 r)
  have hnl : news.flatten.length = m * i.size := by rw [flatten_len hn1, hl]
  have hrl : rows.flatten.length = rows.length * i.size := flatten_len hok.1
  have newrow : ∀ (old : Nat), old < rows.length + m → ∀ w1 : World, w1 = w.drew.alloc (.cells (rows.flatten.toArray ++ news.flatten.toArray ++ Builtin.zeroCells z.cells (grownCap w (rows.length + m) old E - (rows.length + m))) E) →
      Holds w1 (VR (.slice (some ⟨w.heap.size, 0, none⟩) (rows.length + m) (grownCap w (rows.length + m) old E)) E i.size (rows ++ news) :: h) ∧ Same w w1 := by
    intro old ho w1 hw1
    have hge := grownCap_ge w (rows.length + m) old E
    have hcm : grownCap w (rows.length + m) old E ≤ maxLen := grownCap_le_maxLen w (rows.length + m) old E (by rw [hmax]; exact h63)
    have hH : Holds w.drew h := Holds.grew hh.2.2 (Grew.drawn w _)
    have hA := Holds.alloc hH (.cells (rows.flatten.toArray ++ news.flatten.toArray ++ Builtin.zeroCells z.cells (grownCap w (rows.length + m) old E - (rows.length + m))) E)
    have hobj : (Obj.cells (rows.flatten.toArray ++ news.flatten.toArray ++ Builtin.zeroCells z.cells (grownCap w (rows.length + m) old E - (rows.length + m))) E) = cl ([] ++ ((rows ++ news).flatten ++ (Builtin.zeroCells z.cells (grownCap w (rows.length + m) old E - (rows.length + m))).toList)) E := by
      simp only [cl, Obj.cells.injEq, and_true]
      apply Array.ext'
      simp
    rw [hobj] at hA
    refine ⟨?_, ?_⟩
    · rw [hw1, hobj]
      refine ⟨⟨hall, .inr ⟨w.heap.size, 0, _, [], _, by rw [List.length_append, hl], hA.1, rfl, by rw [List.length_append, hl]; exact hge, hcm, ?_⟩⟩, fun b ⟨o', m', cp', hv⟩ => ?_, hA.2.2⟩
      · have hzl : (Builtin.zeroCells z.cells (grownCap w (rows.length + m) old E - (rows.length + m))).toList.length = (grownCap w (rows.length + m) old E - (rows.length + m)) * i.size := by rw [Array.length_toList, size_zeroCells, hzs]
        rw [List.length_append, flatten_len hall, List.length_append, hl, hzl, ← Nat.add_mul]
        apply Nat.mul_le_mul_right; omega
      · cases hv; exact hA.2.1 _ rfl
    · rw [hw1]; exact (Grew.drawn w _).toSame.trans (Grew.alloc _ _ rfl).toSame
  rcases hok.2 with ⟨rfl, rfl⟩ | ⟨g, o, cap, pre, j, rfl, hg, hpo, hnc, hcm, hcs⟩
  · by_cases hm : m = 0
    · subst hm
      have hn : news = [] := List.eq_nil_of_length_eq_zero hl
      subst hn
      refine ⟨.slice none 0 0, w, ?_, hh, Same.refl w, by simp⟩
      simp [Builtin.append_, run_underlying ht, sizeOf, typeInfo, hi, Builtin.lenOf, Builtin.firstCells, loadCells, loadCellsFrom]
    · have hr := run_append_nil (P := P) w t ty E i z ht hi hz src m cp news.flatten hnl hnews (by omega) (by simp only [List.length_nil] at h63; omega) (by simp only [List.length_nil, Nat.zero_add] at hb; omega)
      have := newrow 0 (by omega) _ rfl
      simp only [List.length_nil, Nat.zero_add, List.nil_append, List.flatten_nil, Array.empty_append] at this hr ⊢
      exact ⟨_, _, hr, this.1, this.2, by simp [hm]⟩
  · have hg' : w.heap[g]? = some (.cells (pre ++ (rows.flatten ++ j)).toArray E (0, 0)) := hg
    by_cases hroom : rows.length + m ≤ cap
    · have hfit : o + rows.length * i.size + 0 + news.flatten.length ≤ (pre ++ (rows.flatten ++ j)).toArray.size := by
        rw [hnl, List.size_toArray, List.length_append, hpo]
        have : (rows.length + m) * i.size ≤ cap * i.size := Nat.mul_le_mul_right _ hroom
        rw [Nat.add_mul] at this
        omega
      have hst := run_storeCells_at P g (o + rows.length * i.size) E news.flatten 0 _ w hg' hfit h1
      simp only [Nat.add_zero] at hst
      have hfc := run_firstCells_some (P := P) w i.size m src m cp news.flatten hnl hnews
      have hr : (Builtin.append_ #[t, t] ty #[.slice (some ⟨g, o, none⟩) rows.length cap, .slice (some src) m cp]).run P w = .ok (.slice (some ⟨g, o, none⟩) (rows.length + m) cap) (w.setRow g ((pre ++ (rows.flatten ++ j)).toArray.toList.take (o + rows.length * i.size) ++ news.flatten ++ (pre ++ (rows.flatten ++ j)).toArray.toList.drop (o + rows.length * i.size + news.flatten.length)).toArray) := by
        simp [Builtin.append_, run_underlying ht, sizeOf, typeInfo, hi, Builtin.lenOf, hroom, hfc, Addr.add_lit, hst]
      have hset := setRow_heap w g (pre ++ (rows.flatten ++ j)).toArray ((pre ++ (rows.flatten ++ j)).toArray.toList.take (o + rows.length * i.size) ++ news.flatten ++ (pre ++ (rows.flatten ++ j)).toArray.toList.drop (o + rows.length * i.size + news.flatten.length)).toArray E (0, 0) hg'
      refine ⟨_, _, hr, ?_, ⟨rfl, rfl, rfl, by simp, fz_one (b := g) (fun o ho => by rw [hg'] at ho; cases ho; rfl) (fun o ho => by rw [hset] at ho; cases ho; rfl) fun c hc => setRow_other w g c _ hc⟩, by simp⟩
      have htk : (pre ++ (rows.flatten ++ j)).take (o + rows.length * i.size) = pre ++ rows.flatten := by
        rw [← List.append_assoc, List.take_left' (by rw [List.length_append, hpo, hrl])]
      have hdr : (pre ++ (rows.flatten ++ j)).drop (o + rows.length * i.size + news.flatten.length) = j.drop news.flatten.length := by
        rw [← List.drop_drop, ← List.append_assoc, List.drop_left' (by rw [List.length_append, hpo, hrl])]
      simp only [htk, hdr] at hset ⊢
      refine ⟨⟨hall, .inr ⟨g, o, cap, pre, j.drop news.flatten.length, by rw [List.length_append, hl], ?_, hpo, by rw [List.length_append, hl]; exact hroom, hcm, ?_⟩⟩, fun b ⟨o', m', cp', hv⟩ => ?_, ?_⟩
      · show w.setRow g _ |>.heap[g]? = _
        rw [hset]; simp [cl]
      · rw [List.length_append, List.length_drop, flatten_len hall, List.length_append, hl, hnl]
        rw [List.length_append, hrl] at hcs
        have h5 : (rows.length + m) * i.size ≤ cap * i.size := Nat.mul_le_mul_right _ hroom
        rw [Nat.add_mul] at h5 ⊢
        omega
      · cases hv; exact hh.2.1 _ ⟨_, _, _, rfl⟩
      · exact HoldsF.loc hh.2.2 fun b hb => (setRow_other w g b _ (fun e => hh.2.1 b ⟨o, rows.length, cap, by rw [e]⟩ hb)).symm
    · have holds : ∀ k u, rows.flatten[k]? = some u → w.cell? ((⟨g, o, none⟩ : Addr).add k) = some u := fun k u hu => by
        rw [Addr.add_lit]
        have hlt := (List.getElem?_eq_some_iff.1 hu).1
        simp only [World.cell?, hg', List.getElem?_toArray, Option.isSome_none, Bool.false_eq_true, if_false]
        rw [List.getElem?_append_right (by omega), hpo, show o + k - o = k by omega, List.getElem?_append_left hlt, hu]
      have hr := run_append_grow (P := P) w t ty E i z ht hi hz ⟨g, o, none⟩ rows.length cap rows.flatten hrl holds src m cp news.flatten hnl hnews (by omega) (by omega) (growslice_fits (by omega) hb)
      have := newrow cap (by omega) _ rfl
      exact ⟨_, _, hr, this.1, this.2, by simp⟩
end
end Go.Ck
