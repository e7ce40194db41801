/-
  The reference: in, moved, balanced. Conditions: what is read.
  The reference: balanced, Check. Conditions: what is read.
  The reference: New. Conditions: what is read.
  The reference: keyed, right. Conditions: what is read, that lists are not too long.
  The reference: Right, spotted, state, State, ready, Ready, Ended. Conditions: what is read, that lists are not too long.
-/
import Derived.Test.YtboepbencndobaaGreatM11
import Derived.Test.YtboepbencndobaaGreatM2
set_option linter.unusedVariables false
set_option linter.unusedSimpArgs false
namespace Go.Wt
open Go Go.Ck Go.Proofs Go.Proofs.YtboepbencndobaaGreat Fx
attribute [local irreducible] Go.Ck.Sub St Cd Xt Nx DrL LsW
section
variable {S : Res} {v : Value}
set_option maxRecDepth 100000 in
theorem in_ct (n lo hi : Int) : Reads Tryz.prog 89 #[.int .i64 n, .int .i64 lo, .int .i64 hi] [] (.bool (within n lo hi)) := by
  refine ct_of (n := 15) Tryz.func89 rfl rfl (len rfl) fun hr w0 => ?_
  refine cS (cR (sV (vA rfl) (sN (nT (cS (cR (sV (vM rfl) (sV (vM rfl) (sV (v_geq rfl rfl) (sV (vM rfl) (st_cut (k := 8) (d := 14) (v := .bool (decide (lo ≤ n) && decide (n ≤ hi))) (fun hcut => bool_want (b := decide (lo ≤ n)) true (fun hg => ?_) (fun hg => ?_)) ?_)))))))))))
  · refine st_sk rfl rfl hg ?_
    refine st_sk rfl rfl hg ?_
    refine st_sk rfl rfl hg ?_
    refine sV (vP (bool_ev rfl hg) rfl) ?_
    exact hcut _ (ssub_head (by first | rfl | (rw [hg]; rfl) | simp_all) (uS rfl (uS rfl (uS rfl (ssub_refl)))))
  · skip
    refine st_vg rfl (bG rfl hg) (vM rfl) (st_vg rfl (bG rfl hg) (vM rfl) (st_vg rfl (bG rfl hg) (v_leq rfl rfl) (sV (v_pick_true (bool_ev rfl hg) rfl) ?_)))
    exact hcut _ (ssub_head (by first | rfl | (rw [hg]; rfl) | simp_all) (uS rfl (uS rfl (uS rfl (ssub_refl)))))
  refine sV (vA rfl) (sN (nK [6] rfl (nT (cT ?_))))
  exact xt_rt rfl ⟨rfl, rfl⟩ (by (repeat (refine Sub.sel (by repeat (first | exact Sel.here | apply Sel.there)) ?_)); (repeat apply Sub.cons); first | exact Sub.refl _ | exact Sub.nil _)
set_option maxRecDepth 100000 in
theorem rmoved_ct (m : Move) (spots jobs : Int) (hs : 0 ≤ spots ∧ spots ≤ 1000000) (hj : 0 ≤ jobs ∧ jobs ≤ 1000000) : Reads Tryz.prog 65 #[.agg (mC m).toArray, .int .i64 spots, .int .i64 jobs] [] (.int .i64 (if moved m jobs spots = true then 0 else 1)) := by
  generalize hr0 : (if moved m jobs spots = true then (0 : Int) else 1) = r0
  have key : ∀ (a b : Bool), moved m jobs spots = (a && b) → r0 = if (a && b) = true then 0 else 1 := fun a b h => by rw [← hr0, h]
  unfold moved at key
  have e1 : ∀ x : Int, (x == 0) = decide (x = 0) := fun x => rfl
  refine ct_of (n := 43) Tryz.func65 rfl rfl (len rfl) fun hr w0 => ?_
  refine cS (cR (st_bx rfl rfl fun b3 => ?_))
  refine sV (vA rfl) (sN (nK [1, 2, 3, 6] rfl (nT (cS (cR (sV (vF rfl fa110_1 rfl) (sV (v_ldy rfl ld3) ?_)))))))
  refine sV (vM rfl) (sV (v_sub rfl rfl (by unfold I64 at *; omega)) (st_clr rfl rfl en89 rfl (in_ct m.2.1 0 (spots - 1)) ?_))
  refine sV (vA rfl) (sN (nK [2, 3, 6, 7] rfl (nT (cS (cR (sV (vF rfl fa110_2 rfl) (sV (v_ldy rfl ld3) ?_)))))))
  refine sV (vM rfl) (sV (v_sub rfl rfl (by unfold I64 at *; omega)) (st_clr rfl rfl en89 rfl (in_ct m.2.2 0 (jobs - 1)) ?_))
  refine sV (vA rfl) (sN (nK [3, 6, 7, 8] rfl (nT (cS (cS (cR (sV (vF rfl fa110_0 rfl) (sV (v_ldy rfl ld3) ?_))))))))
  refine sN (nK [3, 6, 7, 8, 20] rfl (nT (cd_block (cS (cR (sV (v_eql rfl rfl) (sV (vA rfl) (sN (nK [3, 6, 7, 8, 20, 21] rfl (nT (cC rfl (fun h1 => ?_) (fun h1 => ?_))))))))))))
  · skip
    have q1 : m.1 = 1 := by simpa using h1
    rw [if_pos q1] at key
    have hk := key (within m.2.1 0 (spots - 1)) (m.2.2 == 0) rfl
    refine cR (sV (vF rfl fa110_2 rfl) (sV (v_ldy rfl ld3) ?_))
    refine sV (v_eql rfl rfl) (sV (vA rfl) (sN (nK [6, 7, 8] rfl (nx_xt (xB (xT (cS (cS (cR (sV (vM rfl) (sV (vM rfl) (st_cut (k := 4) (d := 42) (v := .bool (within m.2.1 0 (spots - 1) && (m.2.2 == 0))) (fun hcut => bool_want (b := within m.2.1 0 (spots - 1)) true (fun hg => ?_) (fun hg => ?_)) ?_))))))))))))
    · refine st_sk rfl rfl hg ?_
      refine sV (vP (bool_ev rfl hg) rfl) ?_
      exact hcut _ (ssub_head (by first | rfl | (rw [hg]; rfl) | simp_all) (uS rfl (ssub_refl)))
    · skip
      refine st_vg rfl (bG rfl hg) (vM rfl) (sV (v_pick_true (bool_ev rfl hg) rfl) ?_)
      exact hcut _ (ssub_head (by first | rfl | (rw [hg]; rfl) | simp_all) (uS rfl (ssub_refl)))
    refine sN (nK [6, 42] rfl (nT (cC rfl (fun h9 => ?_) (fun h9 => ?_))))
    · skip
      rw [if_pos h9] at hk
      subst hk
      refine cS (cR (sV (vA rfl) (sN (nK [6] rfl (nT (cT (xR ?_)))))))
      exact xt_rt rfl ⟨rfl, rfl⟩ (by (repeat (refine Sub.sel (by repeat (first | exact Sel.here | apply Sel.there)) ?_)); (repeat apply Sub.cons); first | exact Sub.refl _ | exact Sub.nil _)
    · skip
      rw [if_neg (by rw [h9]; simp)] at hk
      subst hk
      refine cK (xT (cS (cR (sV (vA rfl) (sN (nK [6] rfl (nT (cT ?_))))))))
      exact xt_rt rfl ⟨rfl, rfl⟩ (by (repeat (refine Sub.sel (by repeat (first | exact Sel.here | apply Sel.there)) ?_)); (repeat apply Sub.cons); first | exact Sub.refl _ | exact Sub.nil _)
  · skip
    have q1 : m.1 ≠ 1 := by simpa using h1
    rw [if_neg q1] at key
    refine cS (cS (cR (sV (v_eql rfl rfl) (sV (vA rfl) (sN (nK [3, 6, 7, 8, 20, 26] rfl (nT (cC rfl (fun h2 => ?_) (fun h2 => ?_)))))))))
    · skip
      have q2 : m.1 = 2 := by simpa using h2
      rw [if_pos (.inl q2)] at key
      have hk := key (m.2.1 == 0) (m.2.2 == 0) rfl
      refine cK (xT (cC rfl (fun h3 => ?_) (fun h3 => ?_)))
      · skip
        refine cS (cR (sV (vF rfl fa110_1 rfl) (sV (v_ldy rfl ld3) ?_)))
        refine sV (v_eql rfl rfl) (sV (vA rfl) (sN (nK [3, 6, 7, 8] rfl (nT (cR (sV (vF rfl fa110_2 rfl) (sV (v_ldy rfl ld3) ?_)))))))
        refine sV (v_eql rfl rfl) (sV (vA rfl) (sN (nK [6, 7, 8] rfl (nx_xt (xB (xT (cS (cS (cR (sV (vM rfl) (sV (vM rfl) (st_cut (k := 4) (d := 42) (v := .bool ((m.2.1 == 0) && (m.2.2 == 0))) (fun hcut => bool_want (b := (m.2.1 == 0)) true (fun hg => ?_) (fun hg => ?_)) ?_))))))))))))
        · refine st_sk rfl rfl hg ?_
          refine sV (vP (bool_ev rfl hg) rfl) ?_
          exact hcut _ (ssub_head (by first | rfl | (rw [hg]; rfl) | simp_all) (uS rfl (ssub_refl)))
        · skip
          refine st_vg rfl (bG rfl hg) (vM rfl) (sV (v_pick_true (bool_ev rfl hg) rfl) ?_)
          exact hcut _ (ssub_head (by first | rfl | (rw [hg]; rfl) | simp_all) (uS rfl (ssub_refl)))
        refine sN (nK [6, 42] rfl (nT (cC rfl (fun h9 => ?_) (fun h9 => ?_))))
        · skip
          rw [if_pos h9] at hk
          subst hk
          refine cS (cR (sV (vA rfl) (sN (nK [6] rfl (nT (cT (xR ?_)))))))
          exact xt_rt rfl ⟨rfl, rfl⟩ (by (repeat (refine Sub.sel (by repeat (first | exact Sel.here | apply Sel.there)) ?_)); (repeat apply Sub.cons); first | exact Sub.refl _ | exact Sub.nil _)
        · skip
          rw [if_neg (by rw [h9]; simp)] at hk
          subst hk
          refine cK (xT (cS (cR (sV (vA rfl) (sN (nK [6] rfl (nT (cT ?_))))))))
          exact xt_rt rfl ⟨rfl, rfl⟩ (by (repeat (refine Sub.sel (by repeat (first | exact Sel.here | apply Sel.there)) ?_)); (repeat apply Sub.cons); first | exact Sub.refl _ | exact Sub.nil _)
      · skip
        rw [h2] at h3; cases h3
    · skip
      have q2 : m.1 ≠ 2 := by simpa using h2
      refine cR (sV (v_eql rfl rfl) (sV (vA rfl) (sN (nK [3, 6, 7, 8, 20, 26] rfl (nT (cC rfl (fun h3 => ?_) (fun h3 => ?_)))))))
      · skip
        have q3 : m.1 = 6 := by simpa using h3
        rw [if_pos (.inr q3)] at key
        have hk := key (m.2.1 == 0) (m.2.2 == 0) rfl
        refine cS (cR (sV (vF rfl fa110_1 rfl) (sV (v_ldy rfl ld3) ?_)))
        refine sV (v_eql rfl rfl) (sV (vA rfl) (sN (nK [3, 6, 7, 8] rfl (nT (cR (sV (vF rfl fa110_2 rfl) (sV (v_ldy rfl ld3) ?_)))))))
        refine sV (v_eql rfl rfl) (sV (vA rfl) (sN (nK [6, 7, 8] rfl (nx_xt (xB (xT (cS (cS (cR (sV (vM rfl) (sV (vM rfl) (st_cut (k := 4) (d := 42) (v := .bool ((m.2.1 == 0) && (m.2.2 == 0))) (fun hcut => bool_want (b := (m.2.1 == 0)) true (fun hg => ?_) (fun hg => ?_)) ?_))))))))))))
        · refine st_sk rfl rfl hg ?_
          refine sV (vP (bool_ev rfl hg) rfl) ?_
          exact hcut _ (ssub_head (by first | rfl | (rw [hg]; rfl) | simp_all) (uS rfl (ssub_refl)))
        · skip
          refine st_vg rfl (bG rfl hg) (vM rfl) (sV (v_pick_true (bool_ev rfl hg) rfl) ?_)
          exact hcut _ (ssub_head (by first | rfl | (rw [hg]; rfl) | simp_all) (uS rfl (ssub_refl)))
        refine sN (nK [6, 42] rfl (nT (cC rfl (fun h9 => ?_) (fun h9 => ?_))))
        · skip
          rw [if_pos h9] at hk
          subst hk
          refine cS (cR (sV (vA rfl) (sN (nK [6] rfl (nT (cT (xR ?_)))))))
          exact xt_rt rfl ⟨rfl, rfl⟩ (by (repeat (refine Sub.sel (by repeat (first | exact Sel.here | apply Sel.there)) ?_)); (repeat apply Sub.cons); first | exact Sub.refl _ | exact Sub.nil _)
        · skip
          rw [if_neg (by rw [h9]; simp)] at hk
          subst hk
          refine cK (xT (cS (cR (sV (vA rfl) (sN (nK [6] rfl (nT (cT ?_))))))))
          exact xt_rt rfl ⟨rfl, rfl⟩ (by (repeat (refine Sub.sel (by repeat (first | exact Sel.here | apply Sel.there)) ?_)); (repeat apply Sub.cons); first | exact Sub.refl _ | exact Sub.nil _)
      · skip
        have q3 : m.1 ≠ 6 := by simpa using h3
        rw [if_neg (by omega)] at key
        refine cS (cS (cR (sV (v_eql rfl rfl) (sV (vA rfl) (sN (nK [6, 7, 8, 20, 35] rfl (nT (cC rfl (fun h4 => ?_) (fun h4 => ?_)))))))))
        · skip
          have q4 : m.1 = 3 := by simpa using h4
          rw [if_pos (by omega)] at key
          have hk := key (within m.2.1 0 (spots - 1)) (within m.2.2 0 (jobs - 1)) rfl
          refine cK (xT (cC rfl (fun h5 => ?_) (fun h5 => ?_)))
          · skip
            refine cK (xB (xT (cS (cS (cR (sV (vM rfl) (sV (vM rfl) (st_cut (k := 4) (d := 42) (v := .bool (within m.2.1 0 (spots - 1) && within m.2.2 0 (jobs - 1))) (fun hcut => bool_want (b := within m.2.1 0 (spots - 1)) true (fun hg => ?_) (fun hg => ?_)) ?_))))))))
            · refine st_sk rfl rfl hg ?_
              refine sV (vP (bool_ev rfl hg) rfl) ?_
              exact hcut _ (ssub_head (by first | rfl | (rw [hg]; rfl) | simp_all) (uS rfl (ssub_refl)))
            · skip
              refine st_vg rfl (bG rfl hg) (vM rfl) (sV (v_pick_true (bool_ev rfl hg) rfl) ?_)
              exact hcut _ (ssub_head (by first | rfl | (rw [hg]; rfl) | simp_all) (uS rfl (ssub_refl)))
            refine sN (nK [6, 42] rfl (nT (cC rfl (fun h9 => ?_) (fun h9 => ?_))))
            · skip
              rw [if_pos h9] at hk
              subst hk
              refine cS (cR (sV (vA rfl) (sN (nK [6] rfl (nT (cT (xR ?_)))))))
              exact xt_rt rfl ⟨rfl, rfl⟩ (by (repeat (refine Sub.sel (by repeat (first | exact Sel.here | apply Sel.there)) ?_)); (repeat apply Sub.cons); first | exact Sub.refl _ | exact Sub.nil _)
            · skip
              rw [if_neg (by rw [h9]; simp)] at hk
              subst hk
              refine cK (xT (cS (cR (sV (vA rfl) (sN (nK [6] rfl (nT (cT ?_))))))))
              exact xt_rt rfl ⟨rfl, rfl⟩ (by (repeat (refine Sub.sel (by repeat (first | exact Sel.here | apply Sel.there)) ?_)); (repeat apply Sub.cons); first | exact Sub.refl _ | exact Sub.nil _)
          · skip
            rw [h4] at h5; cases h5
        · skip
          have q4 : m.1 ≠ 3 := by simpa using h4
          refine cS (cR (sV (v_eql rfl rfl) (sV (vA rfl) (sN (nK [6, 7, 8, 20, 35] rfl (nT (cC rfl (fun h6 => ?_) (fun h6 => ?_))))))))
          · skip
            have q5 : m.1 = 4 := by simpa using h6
            rw [if_pos (by omega)] at key
            have hk := key (within m.2.1 0 (spots - 1)) (within m.2.2 0 (jobs - 1)) rfl
            refine cK (xT (cC rfl (fun h7 => ?_) (fun h7 => ?_)))
            · skip
              refine cK (xB (xT (cS (cS (cR (sV (vM rfl) (sV (vM rfl) (st_cut (k := 4) (d := 42) (v := .bool (within m.2.1 0 (spots - 1) && within m.2.2 0 (jobs - 1))) (fun hcut => bool_want (b := within m.2.1 0 (spots - 1)) true (fun hg => ?_) (fun hg => ?_)) ?_))))))))
              · refine st_sk rfl rfl hg ?_
                refine sV (vP (bool_ev rfl hg) rfl) ?_
                exact hcut _ (ssub_head (by first | rfl | (rw [hg]; rfl) | simp_all) (uS rfl (ssub_refl)))
              · skip
                refine st_vg rfl (bG rfl hg) (vM rfl) (sV (v_pick_true (bool_ev rfl hg) rfl) ?_)
                exact hcut _ (ssub_head (by first | rfl | (rw [hg]; rfl) | simp_all) (uS rfl (ssub_refl)))
              refine sN (nK [6, 42] rfl (nT (cC rfl (fun h9 => ?_) (fun h9 => ?_))))
              · skip
                rw [if_pos h9] at hk
                subst hk
                refine cS (cR (sV (vA rfl) (sN (nK [6] rfl (nT (cT (xR ?_)))))))
                exact xt_rt rfl ⟨rfl, rfl⟩ (by (repeat (refine Sub.sel (by repeat (first | exact Sel.here | apply Sel.there)) ?_)); (repeat apply Sub.cons); first | exact Sub.refl _ | exact Sub.nil _)
              · skip
                rw [if_neg (by rw [h9]; simp)] at hk
                subst hk
                refine cK (xT (cS (cR (sV (vA rfl) (sN (nK [6] rfl (nT (cT ?_))))))))
                exact xt_rt rfl ⟨rfl, rfl⟩ (by (repeat (refine Sub.sel (by repeat (first | exact Sel.here | apply Sel.there)) ?_)); (repeat apply Sub.cons); first | exact Sub.refl _ | exact Sub.nil _)
            · skip
              rw [h6] at h7; cases h7
          · skip
            have q5 : m.1 ≠ 4 := by simpa using h6
            refine cR (sV (v_eql rfl rfl) (sV (vA rfl) (sN (nK [6, 7, 8, 35] rfl (nT (cC rfl (fun h7 => ?_) (fun h7 => ?_)))))))
            · skip
              have q6 : m.1 = 5 := by simpa using h7
              rw [if_pos (by omega)] at key
              have hk := key (within m.2.1 0 (spots - 1)) (within m.2.2 0 (jobs - 1)) rfl
              refine cK (xB (xT (cS (cS (cR (sV (vM rfl) (sV (vM rfl) (st_cut (k := 4) (d := 42) (v := .bool (within m.2.1 0 (spots - 1) && within m.2.2 0 (jobs - 1))) (fun hcut => bool_want (b := within m.2.1 0 (spots - 1)) true (fun hg => ?_) (fun hg => ?_)) ?_))))))))
              · refine st_sk rfl rfl hg ?_
                refine sV (vP (bool_ev rfl hg) rfl) ?_
                exact hcut _ (ssub_head (by first | rfl | (rw [hg]; rfl) | simp_all) (uS rfl (ssub_refl)))
              · skip
                refine st_vg rfl (bG rfl hg) (vM rfl) (sV (v_pick_true (bool_ev rfl hg) rfl) ?_)
                exact hcut _ (ssub_head (by first | rfl | (rw [hg]; rfl) | simp_all) (uS rfl (ssub_refl)))
              refine sN (nK [6, 42] rfl (nT (cC rfl (fun h9 => ?_) (fun h9 => ?_))))
              · skip
                rw [if_pos h9] at hk
                subst hk
                refine cS (cR (sV (vA rfl) (sN (nK [6] rfl (nT (cT (xR ?_)))))))
                exact xt_rt rfl ⟨rfl, rfl⟩ (by (repeat (refine Sub.sel (by repeat (first | exact Sel.here | apply Sel.there)) ?_)); (repeat apply Sub.cons); first | exact Sub.refl _ | exact Sub.nil _)
              · skip
                rw [if_neg (by rw [h9]; simp)] at hk
                subst hk
                refine cK (xT (cS (cR (sV (vA rfl) (sN (nK [6] rfl (nT (cT ?_))))))))
                exact xt_rt rfl ⟨rfl, rfl⟩ (by (repeat (refine Sub.sel (by repeat (first | exact Sel.here | apply Sel.there)) ?_)); (repeat apply Sub.cons); first | exact Sub.refl _ | exact Sub.nil _)
            · skip
              have q6 : m.1 ≠ 5 := by simpa using h7
              rw [if_neg (by omega)] at key
              have hk := key false false rfl
              subst hk
              refine cS (cR (sV (vA rfl) (sN (nK [6] rfl (nT (cT (xt_ret_block (xR ?_))))))))
              exact xt_rt rfl ⟨rfl, rfl⟩ (by (repeat (refine Sub.sel (by repeat (first | exact Sel.here | apply Sel.there)) ?_)); (repeat apply Sub.cons); first | exact Sub.refl _ | exact Sub.nil _)
end
end Go.Wt
namespace Go.Wt
open Go Go.Ck Go.Proofs Go.Proofs.YtboepbencndobaaGreat Fx
attribute [local irreducible] Go.Ck.Sub St Cd Xt Nx DrL LsW
theorem all_bad {α : Type} {l : List α} {g : α → Bool} {i : Nat} (hi : i < l.length) (h : g l[i] = false) : l.all g = false := by
  rw [List.all_eq_false]
  exact ⟨l[i], List.getElem_mem hi, by simp [h]⟩
theorem all_good {α : Type} {l : List α} {g : α → Bool} (h : ∀ (j : Nat) (hj : j < l.length), g l[j] = true) : l.all g = true := by
  rw [List.all_eq_true]
  intro x hx
  obtain ⟨j, hj, rfl⟩ := List.getElem_of_mem hx
  exact h j hj
section
variable {S : Res} {v jv : Value}
set_option maxRecDepth 100000 in
theorem rbalanced_ct {l : List Move} (hv : Row S 3 (eqC mC) v l) (hl : l.length ≤ 1000000) : Reads Tryz.prog 66 #[v] [S] (.bool (bal 0 l)) := by
  obtain ⟨a, cap, hv1, _⟩ := id hv
  refine ct_of (n := 35) Tryz.func66 rfl rfl (len rfl) fun hr w0 => ?_
  refine cS (cR (sV (vA rfl) (sN (nT (cS (cR (sV (vA rfl) (sN (nT (cS (cS (cR (sV (vA rfl) (sN (nT (cd_block ?_))))))))))))))))
  refine cd_lq (σ := Nat × Int) (fun s => [(0, v), (3, .int .i64 s.2), (4, .int .i64 (s.1 : Nat))]) (fun _ => S :: hr) (fun s => s.1 ≤ l.length ∧ 0 ≤ s.2 ∧ s.2 ≤ s.1 ∧ bal 0 l = bal s.2 (l.drop s.1)) (fun s => l.length - s.1) (0, 0) ⟨Nat.zero_le _, by decide, by decide, rfl⟩ ?_
  rintro ⟨i, o⟩ ⟨hi, ho, hoi, hb⟩
  simp only at hi ho hoi hb
  refine cS (cS (cR (sV (vM rfl) (sV (vM rfl) (sV (v_len (congrArg some hv1) Tryz.underlying108) (sV (v_lss rfl rfl) (sN (nK [0, 3, 4, 8] rfl (nT (cC rfl (fun hd => ?_) (fun hd => ?_)))))))))))
  · skip
    have hlt : i < l.length := by simpa using hd
    obtain ⟨b, off, cp2, us, hv2, hus, hrd, rfl⟩ := hv.at (List.getElem?_eq_getElem hlt)
    have hrd0 : Rd S ⟨b, off + i * 3, none⟩ (.int .i64 l[i].1) := rds_at (k := 0) hrd rfl
    refine cK (xT (cS (cd_block (cS (cS (cR (sV (vM rfl) (sV (vM rfl) (sV (v_indexAddr (k := i) (congrArg some hv2) rfl sl108 rfl hlt rfl) (sV (vF rfl fa110_0 rfl) (sV (v_ldy rfl ld3) ?_)))))))))))
    refine sN (nK [0, 3, 4, 15] rfl (nT (cd_block (cS (cR (sV (v_eql rfl rfl) (sV (vA rfl) (sN (nK [0, 3, 4, 15, 16] rfl (nT ?_))))))))))
    rw [drop_at hlt, bal_cons] at hb
    refine cC rfl (fun h1 => ?_) (fun h1 => ?_)
    · skip
      refine cR (sV (vM rfl) (sV (v_add rfl rfl (by unfold I64 at *; omega)) (sV (vA rfl) (sN (nK [0, 3, 4] rfl (nx_xt (xB (xT (cS (cR (sV (vM rfl) (sV (v_lss rfl rfl) (sN (nK [0, 3, 4, 32] rfl (nT ?_)))))))))))))))
      rw [if_pos (by simpa using h1)] at hb
      refine cC rfl (fun h5 => ?_) (fun h5 => ?_)
      · skip
        exact absurd (of_decide_eq_true h5) (by omega)
      · skip
        refine cK (xB (xT (cR (sV (vM rfl) (sV (v_add rfl rfl (by unfold I64 at *; omega)) (sV (vA rfl) (sN (nK [0, 3, 4] rfl (nx_xt ?_)))))))))
        refine xt_aq (i + 1, o + 1) ⟨hlt, by show 0 ≤ o + 1; omega, by show o + 1 ≤ ((i + 1 : Nat) : Int); omega, hb⟩ (by show _ - _ < _ - _; omega)
    · skip
      rw [if_neg (by simpa using h1)] at hb
      refine cS (cR (sV (v_eql rfl rfl) (sV (vA rfl) (sN (nK [0, 3, 4, 15, 20] rfl (nT (cC rfl (fun h2 => ?_) (fun h2 => ?_))))))))
      · skip
        refine cR (sV (vM rfl) (sV (v_sub rfl rfl (by unfold I64 at *; omega)) (sV (vA rfl) (sN (nK [0, 3, 4] rfl (nx_xt (xB (xT (cS (cR (sV (vM rfl) (sV (v_lss rfl rfl) (sN (nK [0, 3, 4, 32] rfl (nT ?_)))))))))))))))
        rw [if_pos (by simpa using h2)] at hb
        refine cC rfl (fun h3 => ?_) (fun h3 => ?_)
        · skip
          refine cS (cR (sV (vA rfl) (sN (nK [2] rfl (nT (cT (xt_ret_block (xR (xR (xt_ret_block (xR ?_)))))))))))
          rw [if_pos (by simpa using h3)] at hb
          rw [hb]
          exact xt_rt rfl ⟨rfl, rfl⟩ (by (repeat (refine Sub.sel (by repeat (first | exact Sel.here | apply Sel.there)) ?_)); (repeat apply Sub.cons); first | exact Sub.refl _ | exact Sub.nil _)
        · skip
          refine cK (xB (xT (cR (sV (vM rfl) (sV (v_add rfl rfl (by unfold I64 at *; omega)) (sV (vA rfl) (sN (nK [0, 3, 4] rfl (nx_xt ?_)))))))))
          have h3' : ¬ o - 1 < 0 := by simpa using h3
          rw [if_neg h3'] at hb
          refine xt_aq (i + 1, o - 1) ⟨hlt, by show 0 ≤ o - 1; omega, by show o - 1 ≤ ((i + 1 : Nat) : Int); omega, hb⟩ (by show _ - _ < _ - _; omega)
      · skip
        rw [if_neg (by simpa using h2)] at hb
        refine cS (cR (sV (v_eql rfl rfl) (sV (vA rfl) (sN (nK [0, 3, 4, 24] rfl (nT (cC rfl (fun h4 => ?_) (fun h4 => ?_))))))))
        · skip
          refine cS (cR (sV (vM rfl) (sV (vM rfl) (sV (v_len (congrArg some hv1) Tryz.underlying108) (sV (v_sub rfl rfl (by unfold I64 at *; omega)) (sV (v_eql rfl rfl) (sV (vA rfl) (sN (nK [2] rfl (nT (cT (xt_ret_block (xR (xt_ret_block (xR ?_)))))))))))))))
          refine xR (xt_ret_block (xR ?_))
          rw [if_pos (by simpa using h4)] at hb
          have hq : bal 0 l = ((i : Int) == (l.length : Int) - 1) := by
            rw [hb]
            by_cases he : i + 1 = l.length
            · rw [List.drop_of_length_le (by omega)]
              exact (beq_iff_eq.2 (by omega)).symm
            · rw [drop_at (show i + 1 < l.length by omega)]
              exact (beq_eq_false_iff_ne.2 (by omega)).symm
          rw [hq]
          exact xt_rt rfl ⟨rfl, rfl⟩ (by (repeat (refine Sub.sel (by repeat (first | exact Sel.here | apply Sel.there)) ?_)); (repeat apply Sub.cons); first | exact Sub.refl _ | exact Sub.nil _)
        · skip
          rw [if_neg (by simpa using h4)] at hb
          refine cK (xB (xT (cS (cR (sV (vM rfl) (sV (v_lss rfl rfl) (sN (nK [0, 3, 4, 32] rfl (nT (cC rfl (fun h5 => ?_) (fun h5 => ?_)))))))))))
          · skip
            exact absurd (of_decide_eq_true h5) (by omega)
          · skip
            refine cK (xB (xT (cR (sV (vM rfl) (sV (v_add rfl rfl (by unfold I64 at *; omega)) (sV (vA rfl) (sN (nK [0, 3, 4] rfl (nx_xt ?_)))))))))
            refine xt_aq (i + 1, o) ⟨hlt, ho, by show o ≤ ((i + 1 : Nat) : Int); omega, hb⟩ (by show _ - _ < _ - _; omega)
  · skip
    refine cd_exit (xE (xE (xt_exit_block (xT (cS (cR (sV (vM rfl) (sV (v_eql rfl rfl) (sV (vA rfl) (sN (nK [2] rfl (nT (cT ?_)))))))))))))
    have hil : i = l.length := by have : ¬ i < l.length := by simpa using hd
                                  omega
    rw [List.drop_of_length_le (by omega)] at hb
    have hq : bal 0 l = (o == 0) := by rw [hb]; rfl
    rw [hq]
    exact xt_rt rfl ⟨rfl, rfl⟩ (by (repeat (refine Sub.sel (by repeat (first | exact Sel.here | apply Sel.there)) ?_)); (repeat apply Sub.cons); first | exact Sub.refl _ | exact Sub.nil _)
theorem jobs_at {jobs : List (List Move)} (hj : Row S 1 (jobR S) jv jobs) {i : Nat} (hi : i < jobs.length) : ∃ b o cap u a c, jv = .slice (some ⟨b, o, none⟩) jobs.length cap ∧ Rd S ⟨b, o + i * 1, none⟩ u ∧ u = .slice a (jobs[i]).length c ∧ Row S 3 (eqC mC) u jobs[i] := by
  obtain ⟨b, o, cap, u, h1, h2, u', hu, hX⟩ := hj.at1 (List.getElem?_eq_getElem hi)
  simp only [List.cons.injEq, and_true] at hu
  subst hu
  obtain ⟨a, c, h3, _⟩ := id hX
  exact ⟨b, o, cap, u, a, c, h1, h2, h3, hX⟩
set_option maxHeartbeats 1000000 in
set_option maxRecDepth 100000 in
theorem rcheck_ct {jobs : List (List Move)} {spots : Int} (hj : Row S 1 (jobR S) jv jobs) (hf : Fits jobs) (hs : I64 spots) : Reads Tryz.prog 18 #[jv, .int .i64 spots] [S] (.int .i64 (check jobs spots)) := by
  obtain ⟨hl, hll⟩ := hf
  obtain ⟨a, cap, hv1, _⟩ := id hj
  generalize hr0 : check jobs spots = r0
  unfold check at hr0
  refine ct_of (n := 79) Tryz.func18 rfl rfl (len rfl) fun hr w0 => ?_
  refine cS (cR (sV (vA rfl) (sN (nT (cS (cS (cR (sV (vM rfl) (sV (v_gtr rfl rfl) (sV (vM rfl) (st_cut (k := 7) (d := 17) (v := .bool (decide (12 < spots) || decide (30 < (jobs.length : Int)))) (fun hcut => bool_want (b := decide (12 < spots)) false (fun hg => ?_) (fun hg => ?_)) ?_)))))))))))
  · refine st_sk rfl rfl hg ?_
    refine st_sk rfl rfl hg ?_
    refine st_sk rfl rfl hg ?_
    refine sV (v_pick_true (bool_ev rfl hg) rfl) ?_
    exact hcut _ (ssub_head (by first | rfl | (rw [hg]; rfl) | simp_all) (uS rfl (uS rfl (uS rfl (ssub_refl)))))
  · skip
    refine st_vg rfl (bG rfl hg) (vM rfl) (st_vg rfl (bG rfl hg) (v_len (congrArg some hv1) Tryz.underlying22) (st_vg rfl (bG rfl hg) (v_gtr rfl rfl) (sV (vP (bool_ev rfl hg) rfl) ?_)))
    exact hcut _ (ssub_head (by first | rfl | (rw [hg]; rfl) | simp_all) (uS rfl (uS rfl (uS rfl (ssub_refl)))))
  refine sN (nK [0, 1, 4, 17] rfl (nT (cC rfl (fun hA => ?_) (fun hA => ?_))))
  · skip
    refine cS (cR (sV (vA rfl) (sN (nK [4] rfl (nT (cT (xR ?_)))))))
    rw [if_pos (by rw [hA]; rfl)] at hr0
    subst hr0
    exact xt_rt rfl ⟨rfl, rfl⟩ (by (repeat (refine Sub.sel (by repeat (first | exact Sel.here | apply Sel.there)) ?_)); (repeat apply Sub.cons); first | exact Sub.refl _ | exact Sub.nil _)
  · skip
    rw [hA, Bool.false_or] at hr0
    refine cK (xT (cS (cS (cR (sV (vA rfl) (sN (nK [0, 1, 4, 5] rfl (nT (cd_block (cd_lq (σ := Nat) (fun i => [(0, jv), (1, .int .i64 spots), (5, .int .i64 (i : Nat))]) (fun _ => S :: hr) (fun i => i ≤ jobs.length ∧ ∀ (j : Nat) (hj : j < jobs.length), j < i → decide (((jobs[j]).length : Int) ≤ 20) = true) (fun i => jobs.length - i) 0 ⟨Nat.zero_le _, fun j _ hj => by omega⟩ ?_))))))))))
    rintro i ⟨hi, hall⟩
    refine cS (cS (cR (sV (vM rfl) (sV (vM rfl) (sV (v_len (congrArg some hv1) Tryz.underlying22) (sV (v_lss rfl rfl) (sN (nK [0, 1, 5, 21] rfl (nT (cC rfl (fun hd => ?_) (fun hd => ?_)))))))))))
    · skip
      have hlt : i < jobs.length := by simpa using hd
      obtain ⟨b, o, cp2, u, ua, uc, hv2, hrd, hu, hX⟩ := jobs_at hj hlt
      subst hu
      refine cK (xT (cS (cd_block (cS (cR (sV (vM rfl) (sV (vM rfl) (sV (v_indexAddr (k := i) (congrArg some hv2) rfl sl22 rfl hlt rfl) (sV (v_ldy rfl ld108) ?_)))))))))
      refine sV (v_len rfl Tryz.underlying108) (sV (v_gtr rfl rfl) (sN (nK [0, 1, 5, 29] rfl (nT (cC rfl (fun h3 => ?_) (fun h3 => ?_))))))
      · skip
        refine cS (cR (sV (vA rfl) (sN (nK [4] rfl (nT (cT (xt_ret_block (xR (xR (xt_ret_block (xR ?_)))))))))))
        rw [if_pos (by rw [all_bad (g := fun l : List Move => decide ((l.length : Int) ≤ 20)) hlt (by rw [decide_eq_false_iff_not]; simpa using h3)]; rfl)] at hr0
        subst hr0
        exact xt_rt rfl ⟨rfl, rfl⟩ (by (repeat (refine Sub.sel (by repeat (first | exact Sel.here | apply Sel.there)) ?_)); (repeat apply Sub.cons); first | exact Sub.refl _ | exact Sub.nil _)
      · skip
        refine cK (xB (xT (cR (sV (vM rfl) (sV (v_add rfl rfl (by unfold I64 at *; omega)) (sV (vA rfl) (sN (nK [0, 1, 5] rfl (nx_xt (xt_aq (i + 1) ⟨hlt, fun j hj' hji => ?_⟩ (by show _ - _ < _ - _; omega)))))))))))
        by_cases hjk : j = i
        · subst hjk; simpa using h3
        · exact hall j hj' (by omega)
    · skip
      have hil : i = jobs.length := by have : ¬ i < jobs.length := by simpa using hd
                                       omega
      rw [all_good (g := fun l : List Move => decide ((l.length : Int) ≤ 20)) (fun j hj' => hall j hj' (by omega)), if_neg (by decide)] at hr0
      refine cd_exit (xE (xE (xt_exit_block (xT (cS (cS (cR (sV (vM rfl) (sV (v_lss rfl rfl) (sV (vM rfl) (st_cut (k := 7) (d := 36) (v := .bool (decide (spots < 1) || decide ((jobs.length : Int) < 1))) (fun hcut => bool_want (b := decide (spots < 1)) false (fun hg => ?_) (fun hg => ?_)) ?_)))))))))))
      · refine st_sk rfl rfl hg ?_
        refine st_sk rfl rfl hg ?_
        refine st_sk rfl rfl hg ?_
        refine sV (v_pick_true (bool_ev rfl hg) rfl) ?_
        exact hcut _ (ssub_head (by first | rfl | (rw [hg]; rfl) | simp_all) (uS rfl (uS rfl (uS rfl (ssub_refl)))))
      · skip
        refine st_vg rfl (bG rfl hg) (vM rfl) (st_vg rfl (bG rfl hg) (v_len (congrArg some hv1) Tryz.underlying22) (st_vg rfl (bG rfl hg) (v_lss rfl rfl) (sV (vP (bool_ev rfl hg) rfl) ?_)))
        exact hcut _ (ssub_head (by first | rfl | (rw [hg]; rfl) | simp_all) (uS rfl (uS rfl (uS rfl (ssub_refl)))))
      refine sN (nK [0, 1, 36] rfl (nT (cC rfl (fun hB => ?_) (fun hB => ?_))))
      · skip
        refine cS (cR (sV (vA rfl) (sN (nK [4] rfl (nT (cT (xR ?_)))))))
        rw [if_pos (by
          rw [Bool.or_eq_true, decide_eq_true_eq, decide_eq_true_eq] at hB
          rw [Bool.and_eq_false_iff, decide_eq_false_iff_not, decide_eq_false_iff_not]
          omega)] at hr0
        subst hr0
        exact xt_rt rfl ⟨rfl, rfl⟩ (by (repeat (refine Sub.sel (by repeat (first | exact Sel.here | apply Sel.there)) ?_)); (repeat apply Sub.cons); first | exact Sub.refl _ | exact Sub.nil _)
      · skip
        rw [Bool.or_eq_false_iff, decide_eq_false_iff_not, decide_eq_false_iff_not] at hA hB
        rw [if_neg (by
          rw [Bool.and_eq_false_iff, decide_eq_false_iff_not, decide_eq_false_iff_not]
          omega)] at hr0
        refine cK (xT (cS (cS (cR (sV (vA rfl) (sN (nK [0, 1, 6] rfl (nT (cd_block (cd_lq (σ := Nat) (fun i => [(0, jv), (1, .int .i64 spots), (6, .int .i64 (i : Nat))]) (fun _ => S :: hr) (fun i => i ≤ jobs.length ∧ ∀ (j : Nat) (hj : j < jobs.length), j < i → ((jobs[j]).all fun m => moved m jobs.length spots) = true) (fun i => jobs.length - i) 0 ⟨Nat.zero_le _, fun j _ hj => by omega⟩ ?_))))))))))
        rintro i2 ⟨hi2, hall2⟩
        refine cS (cS (cR (sV (vM rfl) (sV (vM rfl) (sV (v_len (congrArg some hv1) Tryz.underlying22) (sV (v_lss rfl rfl) (sN (nK [0, 1, 6, 40] rfl (nT (cC rfl (fun hd2 => ?_) (fun hd2 => ?_)))))))))))
        · skip
          have hlt : i2 < jobs.length := by simpa using hd2
          obtain ⟨b, o, cp2, u, ua, uc, hv2, hrd, hu, hX⟩ := jobs_at hj hlt
          subst hu
          refine cK (xT (cS (cd_block (cS (cR (sV (vA rfl) (sN (nK [0, 1, 6, 7] rfl (nT (cd_block ?_))))))))))
          have hmb := fun (k : Nat) (hk : k < (jobs[i2]).length) (h : moved (jobs[i2][k]) jobs.length spots = false) => all_bad (l := jobs) (g := fun l => l.all fun m => moved m jobs.length spots) hlt (all_bad (g := fun m => moved m jobs.length spots) hk h)
          have hmg : ((jobs[i2]).all fun m => moved m jobs.length spots) = true → ∀ (j : Nat) (hj : j < jobs.length), j < i2 + 1 → ((jobs[j]).all fun m => moved m jobs.length spots) = true := fun h j hj' hji => by
            by_cases hjk : j = i2
            · subst hjk; exact h
            · exact hall2 j hj' (by omega)
          have hxl := hll _ (List.getElem_mem hlt)
          generalize jobs[i2] = x at *
          refine cd_lq (σ := Nat) (fun k => [(0, jv), (1, .int .i64 spots), (6, .int .i64 (i2 : Nat)), (7, .int .i64 (k : Nat))]) (fun _ => S :: hr) (fun k => k ≤ x.length ∧ ∀ (j : Nat) (hj : j < x.length), j < k → moved x[j] jobs.length spots = true) (fun k => x.length - k) 0 ⟨Nat.zero_le _, fun j _ hj => by omega⟩ ?_
          rintro k ⟨hk, hallk⟩
          refine cS (cS (cR (sV (vM rfl) (sV (vM rfl) (sV (vM rfl) (sV (v_indexAddr (k := i2) (congrArg some hv2) rfl sl22 rfl hlt rfl) (sV (v_ldy rfl ld108) ?_)))))))
          refine sV (v_len rfl Tryz.underlying108) (sV (v_lss rfl rfl) (sN (nK [0, 1, 6, 7, 49] rfl (nT (cC rfl (fun hd3 => ?_) (fun hd3 => ?_))))))
          · skip
            have hkt : k < x.length := by simpa using hd3
            obtain ⟨c1, c2, c3, cus, hcv, hcus, hcrd, rfl⟩ := hX.at (List.getElem?_eq_getElem hkt)
            refine cK (xT (cS (cd_block (cS (cR (sV (vM rfl) (sV (vM rfl) (sV (v_indexAddr (k := i2) (congrArg some hv2) rfl sl22 rfl hlt rfl) (sV (v_ldy rfl ld108) ?_)))))))))
            refine sV (vM rfl) (sV (v_indexAddr (k := k) (congrArg some hcv) rfl sl108 rfl hkt rfl) (sV (v_ldn rfl ld110 hcus hcrd) ?_))
            refine sV (vM rfl) (sV (vM rfl) (sV (v_len (congrArg some hv1) Tryz.underlying22) (st_clr rfl rfl en65 rfl (rmoved_ct x[k] spots jobs.length ⟨by omega, by omega⟩ ⟨by omega, by omega⟩) ?_)))
            refine sV (vA rfl) (sN (nK [0, 1, 6, 7, 8] rfl (nT (cS (cR (sV (vM rfl) (sV (v_neq rfl rfl) (sN (nK [0, 1, 6, 7, 8, 64] rfl (nT ?_))))))))))
            cases hmv : moved x[k] jobs.length spots with
            | true =>
              rw [if_pos rfl]
              refine cC rfl (fun hq => ?_) (fun hq => ?_)
              · skip
                exact absurd hq (by decide)
              · skip
                refine cK (xB (xT (cR (sV (vM rfl) (sV (v_add rfl rfl (by unfold I64 at *; omega)) (sV (vA rfl) (sN (nK [0, 1, 6, 7] rfl (nx_xt (xt_aq (k + 1) ⟨hkt, fun j hj' hji => ?_⟩ (by show _ - _ < _ - _; omega)))))))))))
                by_cases hjk : j = k
                · subst hjk; exact hmv
                · exact hallk j hj' (by omega)
            | false =>
              rw [if_pos (hmb k hkt hmv)] at hr0
              rw [if_neg (by decide)]
              subst hr0
              refine cC rfl (fun hq => ?_) (fun hq => ?_)
              · skip
                refine cS (cR (sV (vM rfl) (sV (vA rfl) (sN (nK [4] rfl (nT (cT (xt_ret_block (xR (xR (xt_ret_block (xt_ret_block (xR (xR (xt_ret_block ?_)))))))))))))))
                refine xR ?_
                exact xt_rt rfl ⟨rfl, rfl⟩ (by (repeat (refine Sub.sel (by repeat (first | exact Sel.here | apply Sel.there)) ?_)); (repeat apply Sub.cons); first | exact Sub.refl _ | exact Sub.nil _)
              · skip
                exact absurd hq (by decide)
          · skip
            have hkl : k = x.length := by have : ¬ k < x.length := by simpa using hd3
                                          omega
            refine cd_exit (xE (xE (xt_exit_block (xB (xT (cR (sV (vM rfl) (sV (v_add rfl rfl (by unfold I64 at *; omega)) (sV (vA rfl) (sN (nK [0, 1, 6] rfl (nx_xt ?_))))))))))))
            refine xt_aq (i2 + 1) ⟨hlt, hmg (all_good fun j hj' => hallk j hj' (by omega))⟩ (by show _ - _ < _ - _; omega)
        · skip
          have hil2 : i2 = jobs.length := by have : ¬ i2 < jobs.length := by simpa using hd2
                                             omega
          rw [all_good (g := fun l : List Move => l.all fun m => moved m jobs.length spots) (fun j hj' => hall2 j hj' (by omega)), if_neg (by decide)] at hr0
          refine cd_exit (xE (xE (xt_exit_block (xT (cS (cS (cR (sV (vA rfl) (sN (nK [0, 9] rfl (nT (cd_block (cd_lq (σ := Nat) (fun i => [(0, jv), (9, .int .i64 (i : Nat))]) (fun _ => S :: hr) (fun i => i ≤ jobs.length ∧ ∀ (j : Nat) (hj : j < jobs.length), j < i → bal 0 jobs[j] = true) (fun i => jobs.length - i) 0 ⟨Nat.zero_le _, fun j _ hj => by omega⟩ ?_)))))))))))))
          rintro i3 ⟨hi3, hall3⟩
          refine cS (cS (cR (sV (vM rfl) (sV (vM rfl) (sV (v_len (congrArg some hv1) Tryz.underlying22) (sV (v_lss rfl rfl) (sN (nK [0, 9, 69] rfl (nT (cC rfl (fun hd3 => ?_) (fun hd3 => ?_)))))))))))
          · skip
            have hlt : i3 < jobs.length := by simpa using hd3
            obtain ⟨b, o, cp2, u, ua, uc, hv2, hrd, hu, hX⟩ := jobs_at hj hlt
            subst hu
            refine cK (xT (cS (cd_block (cS (cR (sV (vM rfl) (sV (vM rfl) (sV (v_indexAddr (k := i3) (congrArg some hv2) rfl sl22 rfl hlt rfl) (sV (v_ldy rfl ld108) ?_)))))))))
            refine st_clr rfl rfl en66 rfl (rbalanced_ct hX (hll _ (List.getElem_mem hlt))) ?_
            refine sV (vA rfl) (sN (nK [0, 9, 10] rfl (nT (cS (cR (sV (vM rfl) (sV (v_not rfl) (sN (nK [0, 9, 78] rfl (nT (cC rfl (fun hq => ?_) (fun hq => ?_))))))))))))
            · skip
              refine cS (cR (sV (vA rfl) (sN (nK [4] rfl (nT (cT (xt_ret_block (xR (xR (xt_ret_block (xR ?_)))))))))))
              rw [if_pos (all_bad (g := fun l => bal 0 l) hlt (by simpa using hq))] at hr0
              subst hr0
              exact xt_rt rfl ⟨rfl, rfl⟩ (by (repeat (refine Sub.sel (by repeat (first | exact Sel.here | apply Sel.there)) ?_)); (repeat apply Sub.cons); first | exact Sub.refl _ | exact Sub.nil _)
            · skip
              refine cK (xB (xT (cR (sV (vM rfl) (sV (v_add rfl rfl (by unfold I64 at *; omega)) (sV (vA rfl) (sN (nK [0, 9] rfl (nx_xt (xt_aq (i3 + 1) ⟨hlt, fun j hj' hji => ?_⟩ (by show _ - _ < _ - _; omega)))))))))))
              by_cases hjk : j = i3
              · subst hjk; simpa using hq
              · exact hall3 j hj' (by omega)
          · skip
            have hil3 : i3 = jobs.length := by have : ¬ i3 < jobs.length := by simpa using hd3
                                               omega
            rw [all_good (g := fun l : List Move => bal 0 l) (fun j hj' => hall3 j hj' (by omega)), if_neg (by decide)] at hr0
            subst hr0
            refine cd_exit (xE (xE (xt_exit_block (xT (cS (cR (sV (vA rfl) (sN (nK [4] rfl (nT (cT ?_)))))))))))
            exact xt_rt rfl ⟨rfl, rfl⟩ (by (repeat (refine Sub.sel (by repeat (first | exact Sel.here | apply Sel.there)) ?_)); (repeat apply Sub.cons); first | exact Sub.refl _ | exact Sub.nil _)
end
end Go.Wt
namespace Go.Wt
open Go Go.Ck Go.Proofs Go.Proofs.YtboepbencndobaaGreat Fx
attribute [local irreducible] Go.Ck.Sub St Cd Xt Nx DrL LsW
theorem own_ryard {S : Res} {jv pv : Value} {n : Nat} {H : Nat → PH} {f : Nat → Proc} {jobs : List (List Move)} (hok : ∃ g, (Res.star (YO pv n H f)).ok g) (hj : Row S 1 (jobR S) jv jobs) :
    yardR (Res.star [Res.star (YO pv n H f), S]) [jv, pv] ⟨jobs, (List.range n).map f⟩ :=
  ⟨jv, pv, rfl, jobsR.mono (rd_in (.there .here)) hj, procsR.mono (rd_in .here) (YO_row hok fun r hr a u h => rd_mem hr a u h)⟩
section
variable {S : Res} {jv : Value}
set_option maxRecDepth 100000 in
theorem rnew_ct {jobs : List (List Move)} {spots : Int} (hj : Row S 1 (jobR S) jv jobs) (hf : Fits jobs) (hs : I64 spots) : CtN Tryz.prog 15 #[jv, .int .i64 spots] [S] fun u T => ∃ ys, u = .agg (ys ++ [.int .i64 (check jobs spots)]).toArray ∧ yardR (Res.star [T, S]) ys (newY jobs spots) := by
  obtain ⟨a, cap, rfl, _⟩ := id hj
  refine ct_of (n := 48) Tryz.func15 rfl rfl (len rfl) fun hr w0 => ?_
  refine cS (cR (st_alc al32 fun b4 => ?_))
  refine sN (nT (cS (cR (sV (vM rfl) (sV (vM rfl) (st_clr rfl rfl en18 rfl (rcheck_ct hj hf hs) ?_))))))
  refine sV (vA rfl) (sN (nK [0, 1, 4, 5] rfl (nT (cS (cS (cR (sV (vM rfl) (sV (v_neq rfl rfl) (sN (nK [0, 1, 4, 5, 12] rfl (nT ?_)))))))))))
  generalize hcc : check jobs spots = cc
  refine cC rfl (fun hc => ?_) (fun hc => ?_)
  · skip
    refine cS (cR (sV (vM rfl) (sV (v_build (cells := [.slice none 0 0, .slice none 0 0, .int .i64 cc]) rfl (fun _ => by kernel_rfl)) ?_)))
    refine st_stoW rfl rfl sz32 rfl rfl ?_
    refine sN (nK [4] rfl (nT (cT (xR ?_))))
    have hn : newY jobs spots = Yard.nil := by unfold newY; rw [if_neg (by rw [hcc]; simpa using hc)]
    rw [hn]
    refine xt_vw (vw_pure (φ := True) trivial) ?_
    exact xt_retV (.cellN rfl ld32 rfl (by repeat (first | exact Sel.here | apply Sel.there)) .nil) ⟨pureR True, rfl, [.slice none 0 0, .slice none 0 0], rfl, nil_yard _⟩ (by repeat (first | exact Sub.refl _ | exact Sub.nil _ | refine Sub.sel (by repeat (first | exact Sel.here | apply Sel.there)) ?_ | apply Sub.cons))
  · skip
    have hc0 : cc = 0 := by simpa using hc
    subst hc0
    obtain ⟨hs0, hs12, hj0, hj30, hl20⟩ := check_pos hcc
    have hn : newY jobs spots = Yard.new jobs spots.toNat := by unfold newY; rw [if_pos hcc]
    rw [hn]
    obtain ⟨m, rfl⟩ : ∃ m : Nat, spots = ((m + 1 : Nat) : Int) := ⟨spots.toNat - 1, by omega⟩
    refine cK (xT (cS (cR (sV (vM rfl) (sV (v_build (cells := [.slice a jobs.length cap, .slice none 0 0]) rfl (fun _ => by kernel_rfl)) ?_)))))
    refine st_alc al27 fun b6 => ?_
    refine st_stoW rfl rfl sz27 rfl rfl ?_
    refine sN (nK [1, 4, 6] rfl (nT (cS (cS (cR (sV (vA rfl) (sN (nT (cd_block (cd_vw (vw_nil 77 9) (cd_lq (σ := Nat × Value) (fun s => [(1, .int .i64 ((m + 1 : Nat) : Int)), (4, .pointer (some ⟨b4, 0, none⟩)), (6, .pointer (some ⟨b6, 0, none⟩)), (7, .int .i64 (s.1 : Nat))]) (fun s => pt b6 (cl [.slice a jobs.length cap, s.2] 27) :: VR s.2 77 9 (List.replicate s.1 (hpC PH.nil Proc.empty)) :: pt b4 (cl [.slice none 0 0, .slice none 0 0, .int .i64 0] 32) :: S :: hr) (fun s => s.1 ≤ m + 1 ∧ s.2.oneCell' = true) (fun s => m + 1 - s.1) (0, .slice none 0 0) ⟨Nat.zero_le _, rfl⟩ ?_)))))))))))
    rintro ⟨q, pv⟩ ⟨hq, h2⟩
    simp only at hq h2
    refine cS (cS (cR (sV (vM rfl) (sV (vM rfl) (sV (v_lss rfl rfl) (sN (nK [1, 4, 6, 7, 19] rfl (nT (cC rfl (fun hd2 => ?_) (fun hd2 => ?_))))))))))
    · skip
      have hlt : q < m + 1 := by simp at hd2; omega
      refine cK (xT (cS (cd_block (cR (sV (vF rfl fa27_1 rfl) (sV (v_ldy rfl ld25) ?_))))))
      refine sV (v_build (cells := hpC PH.nil Proc.empty) rfl (fun _ => by kernel_rfl)) ?_
      refine st_buildSlice (cells := hpC PH.nil Proc.empty) rfl Tryz.underlying25 inf77 rfl rfl (by kernel_rfl) (ltn rfl) fun b25 => ?_
      refine st_app [hpC PH.nil Proc.empty] rfl rfl Tryz.underlying25 inf77 rfl (by decide) (by repeat (first | exact Sel.here | apply Sel.there)) (by simp [hpC, pC]) rfl (fun j u2 hu2 => at_here (rd_cl (by simpa using hu2))) (by simp [hpC, pC, PH.nil, Value.oneCell']) (by simp; omega) (by simp; omega) (ltn rfl) fun v' hv' _ => ?_
      refine sV (vF rfl fa27_1 rfl) (st_sto rfl rfl sz25 ?_)
      refine sN (nK [1, 4, 6, 7] rfl (nx_xt (xB (xT (cR (sV (vM rfl) (sV (v_add rfl rfl (by unfold I64 at *; omega)) (sV (vA rfl) (sN (nK [1, 4, 6, 7] rfl (nx_xt ?_)))))))))))
      rw [replicate_snoc]
      refine xt_aq (q + 1, v') ⟨hlt, hv'⟩ (by show _ - _ < _ - _; omega)
    · skip
      have hqm : q = m + 1 := by simp at hd2; omega
      subst hqm
      refine cd_row (v := pv) (by repeat (first | exact Sel.here | apply Sel.there)) (fun h0 hr0 => by simp at hr0) (fun pb po cp hpv hle hm => ?_)
      simp only [List.length_replicate] at hpv hle
      subst hpv
      rw [List.replicate_succ]
      refine cd_exit (xE (xE (xt_exit_block (xT (cS (cR (sV (vF rfl fa27_1 rfl) (sV (v_ldy rfl ld25) ?_))))))))
      refine sV (v_build (cells := [.int .i64 0, .bool false]) rfl (fun _ => by kernel_rfl)) ?_
      refine st_buildSlice (cells := [.int .i64 0, .bool false]) rfl Tryz.underlying118 inf117 rfl rfl (by kernel_rfl) (ltn rfl) fun b50 => ?_
      refine sV (v_build (cells := [.int .i64 0, .int .i64 0, .slice (some ⟨b50, 0, none⟩) 1 1, .bool true, .bool false]) rfl (fun _ => by kernel_rfl)) ?_
      refine st_buildSlice (cells := [.int .i64 0, .int .i64 0, .slice (some ⟨b50, 0, none⟩) 1 1, .bool true, .bool false]) rfl Tryz.underlying73 inf120 rfl rfl (by kernel_rfl) (ltn rfl) fun b52 => ?_
      refine sV (v_indexAddr (k := 0) rfl rfl sl25 rfl (by omega) rfl) (sV (vF rfl fa77_0 rfl) (st_vr (sz := 9) (m := 0) (k := 0) rfl rfl sz73 rfl rfl (by decide) rfl (by repeat (first | exact Sel.here | apply Sel.there)) ?_))
      refine sN (nK [4, 6] rfl (nT (cS (cR (sV (vF rfl fa27_1 rfl) (sV (v_ldy rfl ld25) ?_))))))
      refine sV (v_build (cells := [.int .i64 0, .int .i64 0]) rfl (fun _ => by kernel_rfl)) ?_
      refine st_buildSlice (cells := [.int .i64 0, .int .i64 0]) rfl Tryz.underlying74 inf79 rfl rfl (by kernel_rfl) (ltn rfl) fun b54 => ?_
      refine sV (v_indexAddr (k := 0) rfl rfl sl25 rfl (by omega) rfl) (sV (vF rfl fa77_1 rfl) (st_vr (sz := 9) (m := 0) (k := 1) rfl rfl sz74 rfl rfl (by decide) rfl (by repeat (first | exact Sel.here | apply Sel.there)) ?_))
      refine sN (nK [4, 6] rfl (nT (cS (cR (sV (vF rfl fa27_1 rfl) (sV (v_ldy rfl ld25) ?_))))))
      refine sV (v_indexAddr (k := 0) rfl rfl sl25 rfl (by omega) rfl) (sV (vF rfl fa77_7 rfl) (st_vr (sz := 9) (m := 0) (k := 7) rfl rfl sz3 rfl rfl (by decide) rfl (by repeat (first | exact Sel.here | apply Sel.there)) ?_))
      refine sN (nK [4, 6] rfl (nT (cS (cR (sV (v_ldn rfl ld27 rfl rds_pt) ?_)))))
      refine sV (v_build (cells := [.slice a jobs.length cap, .slice (some ⟨pb, po, none⟩) (m + 1) cp, .int .i64 0]) rfl (fun _ => by kernel_rfl)) ?_
      refine st_stoW rfl rfl sz32 rfl rfl ?_
      refine sN (nK [4] rfl (nT (cT (xt_pv (pv_new (jobs := jobs) (m := m) (b50 := b50) (b52 := b52) (b54 := b54)) ?_))))
      refine xt_pv (pv_pack (L := YO _ (m + 1) _ (Yard.new jobs (m + 1)).pr)) ?_
      refine xt_ok .here fun hok => ?_
      exact xt_retV (.cellN rfl ld32 rfl (by repeat (first | exact Sel.here | apply Sel.there)) .nil) ⟨_, rfl, [.slice a jobs.length cap, .slice (some ⟨pb, po, none⟩) (m + 1) cp], rfl, by have := own_ryard hok hj; rw [new_range] at this; exact this⟩ (by repeat (first | exact Sub.refl _ | exact Sub.nil _ | refine Sub.sel (by repeat (first | exact Sel.here | apply Sel.there)) ?_ | apply Sub.cons))
end
end Go.Wt
namespace Go.Wt
open Go Go.Ck Go.Proofs Go.Proofs.YtboepbencndobaaGreat Fx
attribute [local irreducible] Go.Ck.Sub St Cd Xt Nx DrL LsW
section
variable (p : Proc) (i : Int) (y : Yard)
def Proc.rA : Bool := (!within p.job (-1) ((y.jobs.length : Int) - 1)) || (!within p.waits (-1) ((y.procs.length : Int) - 1)) || (p.waits == i) || decide (p.made < 0) || decide (p.pc < 0)
def Proc.rC : Bool := decide (p.job < 0) && (p.pc != 0 || decide (0 ≤ p.waits) || decide (0 < (p.holds.length : Int)))
def Proc.rD : Bool := decide (0 ≤ p.job) && decide ((y.jlen p.job : Int) < p.pc)
theorem right_r : p.right i y = (!p.rA i y && !p.g3 && !p.rC && !p.rD y && !p.g4 y) := by
  have key : (!p.g1 y && !p.g2 i y) = (!p.rA i y && !p.rC && !p.rD y) := by
    unfold Proc.g1 Proc.g2 Proc.rA Proc.rC Proc.rD
    generalize within p.job (-1) ((y.jobs.length : Int) - 1) = a1
    generalize within p.waits (-1) ((y.procs.length : Int) - 1) = a2
    generalize (p.waits == i) = a3
    generalize decide (p.made < 0) = a4
    generalize decide (0 < (p.holds.length : Int)) = a5
    generalize decide (0 ≤ p.waits) = a6
    generalize (y.jlen p.job : Int) = jl
    unfold within
    by_cases h1 : p.job < 0
    · have h2 : ¬ 0 ≤ p.job := by omega
      by_cases h3 : p.pc = 0
      · have h4 : ¬ p.pc < 0 := by omega
        simp only [h1, h2, h3, decide_true, decide_false]
        cases a1 <;> cases a2 <;> cases a3 <;> cases a4 <;> cases a5 <;> cases a6 <;> rfl
      · have h5 : (p.pc != 0) = true := by simpa using h3
        simp only [h1, h2, h5, decide_true, decide_false]
        generalize decide (p.pc < 0) = a7
        cases a1 <;> cases a2 <;> cases a3 <;> cases a4 <;> cases a5 <;> cases a6 <;> cases a7 <;> rfl
    · have h2 : 0 ≤ p.job := by omega
      have h6 : decide (p.pc < 0) = !decide (0 ≤ p.pc) := by by_cases h : p.pc < 0 <;> simp [h] <;> omega
      have h7 : decide (jl < p.pc) = !decide (p.pc ≤ jl) := by by_cases h : jl < p.pc <;> simp [h] <;> omega
      rw [h6, h7]
      simp only [h1, h2, decide_true, decide_false]
      generalize decide (0 ≤ p.pc) = a7
      generalize decide (p.pc ≤ jl) = a8
      cases a1 <;> cases a2 <;> cases a3 <;> cases a4 <;> cases a5 <;> cases a6 <;> cases a7 <;> cases a8 <;> rfl
  rw [right_g, key]
  generalize p.rA i y = a1
  generalize p.rC = a2
  generalize p.rD y = a3
  generalize p.g3 = a4
  cases a1 <;> cases a2 <;> cases a3 <;> cases a4 <;> rfl
end
section
variable {S : Res}
set_option maxRecDepth 100000 in
theorem rkeyed_ct (k : Key) (n : Int) (hn : 0 ≤ n ∧ n ≤ 1000000) : Reads Tryz.prog 145 #[.agg (kC k).toArray, .int .i64 n] [] (.bool (keyed k n)) := by
  refine ct_of (n := 15) Tryz.func145 rfl rfl (len rfl) fun hr w0 => ?_
  refine cS (cR (st_bx rfl rfl fun b2 => ?_))
  refine sV (vA rfl) (sN (nK [1, 2, 4] rfl (nT (cS (cR (sV (vF rfl fa79_0 rfl) (sV (v_ldy rfl ld3) ?_)))))))
  refine sV (vM rfl) (sV (v_sub rfl rfl (by unfold I64 at *; omega)) (st_clr rfl rfl en89 rfl (in_ct k.1 0 (n - 1)) ?_))
  refine sV (vM rfl) (st_cut (k := 10) (d := 14) (v := .bool (within k.1 0 (n - 1) && decide (0 ≤ k.2))) (fun hcut => bool_want (b := within k.1 0 (n - 1)) true (fun hg => ?_) (fun hg => ?_)) ?_)
  · refine st_sk rfl rfl hg ?_
    refine st_sk rfl rfl hg ?_
    refine st_sk rfl rfl hg ?_
    refine sV (vP (bool_ev rfl hg) rfl) ?_
    exact hcut _ (ssub_head (by first | rfl | (rw [hg]; rfl) | simp_all) (uS rfl (uS rfl (uS rfl (ssub_refl)))))
  · skip
    refine st_vg rfl (bG rfl hg) (vF rfl fa79_1 rfl) (st_vg rfl (bG rfl hg) (v_ldy rfl ld3) ?_)
    refine st_vg rfl (bG rfl hg) (v_geq rfl rfl) (sV (v_pick_true (bool_ev rfl hg) rfl) ?_)
    exact hcut _ (ssub_head (by first | rfl | (rw [hg]; rfl) | simp_all) (uS rfl (uS rfl (uS rfl (ssub_refl)))))
  refine sV (vA rfl) (sN (nK [4] rfl (nT (cT ?_))))
  exact xt_rt rfl ⟨rfl, rfl⟩ (by (repeat (refine Sub.sel (by repeat (first | exact Sel.here | apply Sel.there)) ?_)); (repeat apply Sub.cons); first | exact Sub.refl _ | exact Sub.nil _)
set_option maxHeartbeats 2000000 in
set_option maxRecDepth 100000 in
theorem rright_ct {us ys : List Value} {p : Proc} {i : Int} {y : Yard} (hpp : procR S us p) (hy : yardR S ys y) (hf : FitP p) (hnj : y.jobs.length ≤ 1000000) (hnp : y.procs.length ≤ 1000000) :
    Reads Tryz.prog 113 #[.agg us.toArray, .int .i64 i, .agg ys.toArray] [S] (.bool (p.right i y)) := by
  obtain ⟨jv, pv, rfl, hj, hp⟩ := hy
  obtain ⟨lv, pv', hv, dv, rfl, hL, hP, hH, hD⟩ := hpp
  obtain ⟨fl, fp, fh, fd, fa⟩ := hf
  obtain ⟨aj, cj, rfl, _⟩ := id hj
  obtain ⟨ap, cp, rfl, _⟩ := id hp
  obtain ⟨al, cl', rfl, _⟩ := id hL
  obtain ⟨ap', cp', rfl, _⟩ := id hP
  obtain ⟨ah, ch', rfl, _⟩ := id hH
  obtain ⟨ad, cd', rfl, _⟩ := id hD
  generalize hr0 : p.right i y = r0
  rw [right_r] at hr0
  refine ct_of (n := 239) Tryz.func113 rfl rfl (len rfl) fun hr w0 => ?_
  refine cS (cR (st_bx rfl rfl fun b3 => ?_))
  refine st_bx rfl rfl fun b5 => ?_
  refine sV (vA rfl) (sN (nK [1, 3, 5, 6] rfl (nT (cS (cR (sV (vF rfl fa27_1 rfl) (sV (v_ldy rfl ld25) ?_)))))))
  refine sV (v_len rfl Tryz.underlying25) (sV (vA rfl) (sN (nK [1, 3, 5, 6, 7] rfl (nT (cS (cS (cR (sV (vF rfl fa77_2 rfl) (sV (v_ldy rfl ld3) ?_)))))))))
  refine sV (vF rfl fa27_0 rfl) (sV (v_ldy rfl ld22) ?_)
  refine sV (v_len rfl Tryz.underlying22) (sV (v_sub rfl rfl (by unfold I64 at *; omega)) (st_clr rfl rfl en89 rfl (in_ct p.job (-1) ((y.jobs.length : Int) - 1)) ?_))
  refine sV (v_not rfl) (sV (vM rfl) (st_cut (k := 16) (d := 35) (v := .bool (!within p.job (-1) ((y.jobs.length : Int) - 1) || !within p.waits (-1) ((y.procs.length : Int) - 1))) (fun hcut => bool_want (b := !within p.job (-1) ((y.jobs.length : Int) - 1)) false (fun hg => ?_) (fun hg => ?_)) ?_))
  · refine st_sk rfl rfl hg ?_
    refine st_sk rfl rfl hg ?_
    refine st_sk rfl rfl hg ?_
    refine st_sk rfl rfl hg ?_
    refine st_sk rfl rfl hg ?_
    refine st_sk rfl rfl hg ?_
    refine sV (v_pick_true (bool_ev rfl hg) rfl) ?_
    exact hcut _ (ssub_head (by first | rfl | (rw [hg]; rfl) | simp_all) (uS rfl (uS rfl (uS rfl (uS rfl (uS rfl (uS rfl (ssub_refl))))))))
  · skip
    refine st_vg rfl (bG rfl hg) (vF rfl fa77_6 rfl) (st_vg rfl (bG rfl hg) (v_ldy rfl ld3) ?_)
    refine st_vg rfl (bG rfl hg) (vM rfl) (st_vg rfl (bG rfl hg) (v_sub rfl rfl (by unfold I64 at *; omega)) (st_clrg rfl (bG rfl hg) rfl rfl en89 rfl (in_ct p.waits (-1) ((y.procs.length : Int) - 1)) ?_))
    refine st_vg rfl (bG rfl hg) (v_not rfl) (sV (vP (bool_ev rfl hg) rfl) ?_)
    exact hcut _ (ssub_head (by first | rfl | (rw [hg]; rfl) | simp_all) (uS rfl (uS rfl (uS rfl (uS rfl (uS rfl (uS rfl (ssub_refl))))))))
  refine sV (vM rfl) (st_cut (k := 22) (d := 41) (v := .bool (!within p.job (-1) ((y.jobs.length : Int) - 1) || !within p.waits (-1) ((y.procs.length : Int) - 1) || (p.waits == i))) (fun hcut => bool_want (b := !within p.job (-1) ((y.jobs.length : Int) - 1) || !within p.waits (-1) ((y.procs.length : Int) - 1)) false (fun hg => ?_) (fun hg => ?_)) ?_)
  · refine st_sk rfl rfl hg ?_
    refine st_sk rfl rfl hg ?_
    refine st_sk rfl rfl hg ?_
    refine st_sk rfl rfl hg ?_
    refine sV (v_pick_true (bool_ev rfl hg) rfl) ?_
    exact hcut _ (ssub_head (by first | rfl | (rw [hg]; rfl) | simp_all) (uS rfl (uS rfl (uS rfl (uS rfl (ssub_refl))))))
  · skip
    refine st_vg rfl (bG rfl hg) (vF rfl fa77_6 rfl) (st_vg rfl (bG rfl hg) (v_ldy rfl ld3) ?_)
    refine st_vg rfl (bG rfl hg) (vM rfl) (st_vg rfl (bG rfl hg) (v_eql rfl rfl) (sV (vP (bool_ev rfl hg) rfl) ?_))
    exact hcut _ (ssub_head (by first | rfl | (rw [hg]; rfl) | simp_all) (uS rfl (uS rfl (uS rfl (uS rfl (ssub_refl))))))
  refine sV (vM rfl) (st_cut (k := 27) (d := 46) (v := .bool (!within p.job (-1) ((y.jobs.length : Int) - 1) || !within p.waits (-1) ((y.procs.length : Int) - 1) || (p.waits == i) || decide (p.made < 0))) (fun hcut => bool_want (b := !within p.job (-1) ((y.jobs.length : Int) - 1) || !within p.waits (-1) ((y.procs.length : Int) - 1) || (p.waits == i)) false (fun hg => ?_) (fun hg => ?_)) ?_)
  · refine st_sk rfl rfl hg ?_
    refine st_sk rfl rfl hg ?_
    refine st_sk rfl rfl hg ?_
    refine sV (v_pick_true (bool_ev rfl hg) rfl) ?_
    exact hcut _ (ssub_head (by first | rfl | (rw [hg]; rfl) | simp_all) (uS rfl (uS rfl (uS rfl (ssub_refl)))))
  · skip
    refine st_vg rfl (bG rfl hg) (vF rfl fa77_7 rfl) (st_vg rfl (bG rfl hg) (v_ldy rfl ld3) ?_)
    refine st_vg rfl (bG rfl hg) (v_lss rfl rfl) (sV (vP (bool_ev rfl hg) rfl) ?_)
    exact hcut _ (ssub_head (by first | rfl | (rw [hg]; rfl) | simp_all) (uS rfl (uS rfl (uS rfl (ssub_refl)))))
  refine sV (vM rfl) (st_cut (k := 32) (d := 51) (v := .bool (!within p.job (-1) ((y.jobs.length : Int) - 1) || !within p.waits (-1) ((y.procs.length : Int) - 1) || (p.waits == i) || decide (p.made < 0) || decide (p.pc < 0))) (fun hcut => bool_want (b := !within p.job (-1) ((y.jobs.length : Int) - 1) || !within p.waits (-1) ((y.procs.length : Int) - 1) || (p.waits == i) || decide (p.made < 0)) false (fun hg => ?_) (fun hg => ?_)) ?_)
  · refine st_sk rfl rfl hg ?_
    refine st_sk rfl rfl hg ?_
    refine st_sk rfl rfl hg ?_
    refine sV (v_pick_true (bool_ev rfl hg) rfl) ?_
    exact hcut _ (ssub_head (by first | rfl | (rw [hg]; rfl) | simp_all) (uS rfl (uS rfl (uS rfl (ssub_refl)))))
  · skip
    refine st_vg rfl (bG rfl hg) (vF rfl fa77_3 rfl) (st_vg rfl (bG rfl hg) (v_ldy rfl ld3) ?_)
    refine st_vg rfl (bG rfl hg) (v_lss rfl rfl) (sV (vP (bool_ev rfl hg) rfl) ?_)
    exact hcut _ (ssub_head (by first | rfl | (rw [hg]; rfl) | simp_all) (uS rfl (uS rfl (uS rfl (ssub_refl)))))
  refine sN (nK [3, 5, 6, 7, 51] rfl (nT (cC rfl (fun hA => ?_) (fun hA => ?_))))
  · skip
    rw [show p.rA i y = true from hA] at hr0
    simp at hr0
    subst hr0
    refine cS (cR (sV (vA rfl) (sN (nK [6] rfl (nT (cT (xR ?_)))))))
    exact xt_rt rfl ⟨rfl, rfl⟩ (by (repeat (refine Sub.sel (by repeat (first | exact Sel.here | apply Sel.there)) ?_)); (repeat apply Sub.cons); first | exact Sub.refl _ | exact Sub.nil _)
  · skip
    rw [show p.rA i y = false from hA] at hr0
    have hA1 : within p.job (-1) ((y.jobs.length : Int) - 1) = true := by
      simp only [Bool.or_eq_false_iff, Bool.not_eq_false'] at hA
      exact hA.1.1.1.1
    refine cK (xT (cS (cS (cR (sV (vF rfl fa77_8 rfl) (sV (v_ldy rfl ld62) ?_))))))
    refine sV (v_len rfl Tryz.underlying62) (sV (v_gtr rfl rfl) (sV (vM rfl) (st_cut (k := 10) (d := 61) (v := .bool (decide (400 < (p.did.length : Int)) || decide (400 < (p.puts.length : Int)))) (fun hcut => bool_want (b := decide (400 < (p.did.length : Int))) false (fun hg => ?_) (fun hg => ?_)) ?_)))
    · refine st_sk rfl rfl hg ?_
      refine st_sk rfl rfl hg ?_
      refine st_sk rfl rfl hg ?_
      refine st_sk rfl rfl hg ?_
      refine sV (v_pick_true (bool_ev rfl hg) rfl) ?_
      exact hcut _ (ssub_head (by first | rfl | (rw [hg]; rfl) | simp_all) (uS rfl (uS rfl (uS rfl (uS rfl (ssub_refl))))))
    · skip
      refine st_vg rfl (bG rfl hg) (vF rfl fa77_1 rfl) (st_vg rfl (bG rfl hg) (v_ldy rfl ld74) ?_)
      refine st_vg rfl (bG rfl hg) (v_len rfl Tryz.underlying74) (st_vg rfl (bG rfl hg) (v_gtr rfl rfl) (sV (vP (bool_ev rfl hg) rfl) ?_))
      exact hcut _ (ssub_head (by first | rfl | (rw [hg]; rfl) | simp_all) (uS rfl (uS rfl (uS rfl (uS rfl (ssub_refl))))))
    refine sV (vM rfl) (st_cut (k := 16) (d := 67) (v := .bool (decide (400 < (p.did.length : Int)) || decide (400 < (p.puts.length : Int)) || decide (400 < (p.lines.length : Int)))) (fun hcut => bool_want (b := decide (400 < (p.did.length : Int)) || decide (400 < (p.puts.length : Int))) false (fun hg => ?_) (fun hg => ?_)) ?_)
    · refine st_sk rfl rfl hg ?_
      refine st_sk rfl rfl hg ?_
      refine st_sk rfl rfl hg ?_
      refine st_sk rfl rfl hg ?_
      refine sV (v_pick_true (bool_ev rfl hg) rfl) ?_
      exact hcut _ (ssub_head (by first | rfl | (rw [hg]; rfl) | simp_all) (uS rfl (uS rfl (uS rfl (uS rfl (ssub_refl))))))
    · skip
      refine st_vg rfl (bG rfl hg) (vF rfl fa77_0 rfl) (st_vg rfl (bG rfl hg) (v_ldy rfl ld73) ?_)
      refine st_vg rfl (bG rfl hg) (v_len rfl Tryz.underlying73) (st_vg rfl (bG rfl hg) (v_gtr rfl rfl) (sV (vP (bool_ev rfl hg) rfl) ?_))
      exact hcut _ (ssub_head (by first | rfl | (rw [hg]; rfl) | simp_all) (uS rfl (uS rfl (uS rfl (uS rfl (ssub_refl))))))
    refine sV (vM rfl) (st_cut (k := 22) (d := 73) (v := .bool (decide (400 < (p.did.length : Int)) || decide (400 < (p.puts.length : Int)) || decide (400 < (p.lines.length : Int)) || decide (20 < (p.holds.length : Int)))) (fun hcut => bool_want (b := decide (400 < (p.did.length : Int)) || decide (400 < (p.puts.length : Int)) || decide (400 < (p.lines.length : Int))) false (fun hg => ?_) (fun hg => ?_)) ?_)
    · refine st_sk rfl rfl hg ?_
      refine st_sk rfl rfl hg ?_
      refine st_sk rfl rfl hg ?_
      refine st_sk rfl rfl hg ?_
      refine sV (v_pick_true (bool_ev rfl hg) rfl) ?_
      exact hcut _ (ssub_head (by first | rfl | (rw [hg]; rfl) | simp_all) (uS rfl (uS rfl (uS rfl (uS rfl (ssub_refl))))))
    · skip
      refine st_vg rfl (bG rfl hg) (vF rfl fa77_5 rfl) (st_vg rfl (bG rfl hg) (v_ldy rfl ld75) ?_)
      refine st_vg rfl (bG rfl hg) (v_len rfl Tryz.underlying75) (st_vg rfl (bG rfl hg) (v_gtr rfl rfl) (sV (vP (bool_ev rfl hg) rfl) ?_))
      exact hcut _ (ssub_head (by first | rfl | (rw [hg]; rfl) | simp_all) (uS rfl (uS rfl (uS rfl (uS rfl (ssub_refl))))))
    refine sN (nK [3, 5, 6, 7, 73] rfl (nT (cC rfl (fun hB => ?_) (fun hB => ?_))))
    · skip
      rw [show p.g3 = true from hB] at hr0
      simp at hr0
      subst hr0
      refine cS (cR (sV (vA rfl) (sN (nK [6] rfl (nT (cT (xR ?_)))))))
      exact xt_rt rfl ⟨rfl, rfl⟩ (by (repeat (refine Sub.sel (by repeat (first | exact Sel.here | apply Sel.there)) ?_)); (repeat apply Sub.cons); first | exact Sub.refl _ | exact Sub.nil _)
    · skip
      rw [show p.g3 = false from hB] at hr0
      refine cK (xT (cS (cS (cR (sV (vF rfl fa77_2 rfl) (sV (v_ldy rfl ld3) ?_))))))
      refine sV (v_lss rfl rfl) (sV (vM rfl) (st_cut (k := 19) (d := 92) (v := .bool (decide (p.job < 0) && (p.pc != 0 || decide (0 ≤ p.waits) || decide (0 < (p.holds.length : Int))))) (fun hcut => bool_want (b := decide (p.job < 0)) true (fun hg => ?_) (fun hg => ?_)) ?_))
      · refine st_sk rfl rfl hg ?_
        refine st_sk rfl rfl hg ?_
        refine st_sk rfl rfl hg ?_
        refine st_sk rfl rfl hg ?_
        refine st_sku rfl rfl ?_
        refine st_sku rfl rfl ?_
        refine st_sku rfl rfl ?_
        refine st_sk rfl rfl hg ?_
        refine st_sk rfl rfl hg ?_
        refine st_sku rfl rfl ?_
        refine st_sku rfl rfl ?_
        refine st_sku rfl rfl ?_
        refine st_sku rfl rfl ?_
        refine st_sk rfl rfl hg ?_
        refine sV (vP (bool_ev rfl hg) rfl) ?_
        exact hcut _ (ssub_head (by first | rfl | (rw [hg]; rfl) | simp_all) (uS rfl (uS rfl (uS rfl (uS rfl (uS rfl (uS rfl (uS rfl (uS rfl (uS rfl (uS rfl (uS rfl (uS rfl (uS rfl (uS rfl (ssub_refl))))))))))))))))
      · skip
        refine st_vg rfl (bG rfl hg) (vF rfl fa77_3 rfl) (st_vg rfl (bG rfl hg) (v_ldy rfl ld3) ?_)
        refine st_vg rfl (bG rfl hg) (v_neq rfl rfl) (st_vg rfl (bG rfl hg) (vM rfl) (st_cut (k := 12) (d := 85) (v := .bool (p.pc != 0 || decide (0 ≤ p.waits))) (fun hcut => bool_want (b := p.pc != 0) false (fun hg1 => ?_) (fun hg1 => ?_)) ?_))
        · refine st_sk rfl rfl hg1 ?_
          refine st_sk rfl rfl hg1 ?_
          refine st_sk rfl rfl hg1 ?_
          refine st_vg rfl (bG rfl hg) (v_pick_true (bool_ev rfl hg1) rfl) ?_
          exact hcut _ (ssub_head (by first | rfl | (rw [hg1]; rfl) | simp_all) (uS rfl (uS rfl (uS rfl (ssub_refl)))))
        · skip
          refine st_vg rfl (bG rfl hg1) (vF rfl fa77_6 rfl) (st_vg rfl (bG rfl hg1) (v_ldy rfl ld3) ?_)
          refine st_vg rfl (bG rfl hg1) (v_geq rfl rfl) (st_vg rfl (bG rfl hg) (vP (bool_ev rfl hg1) rfl) ?_)
          exact hcut _ (ssub_head (by first | rfl | (rw [hg1]; rfl) | simp_all) (uS rfl (uS rfl (uS rfl (ssub_refl)))))
        refine st_vg rfl (bG rfl hg) (vM rfl) (st_cut (k := 18) (d := 91) (v := .bool (p.pc != 0 || decide (0 ≤ p.waits) || decide (0 < (p.holds.length : Int)))) (fun hcut => bool_want (b := p.pc != 0 || decide (0 ≤ p.waits)) false (fun hg1 => ?_) (fun hg1 => ?_)) ?_)
        · refine st_sk rfl rfl hg1 ?_
          refine st_sk rfl rfl hg1 ?_
          refine st_sk rfl rfl hg1 ?_
          refine st_sk rfl rfl hg1 ?_
          refine st_vg rfl (bG rfl hg) (v_pick_true (bool_ev rfl hg1) rfl) ?_
          exact hcut _ (ssub_head (by first | rfl | (rw [hg1]; rfl) | simp_all) (uS rfl (uS rfl (uS rfl (uS rfl (ssub_refl))))))
        · skip
          refine st_vg rfl (bG rfl hg1) (vF rfl fa77_5 rfl) (st_vg rfl (bG rfl hg1) (v_ldy rfl ld75) ?_)
          refine st_vg rfl (bG rfl hg1) (v_len rfl Tryz.underlying75) (st_vg rfl (bG rfl hg1) (v_gtr rfl rfl) (st_vg rfl (bG rfl hg) (vP (bool_ev rfl hg1) rfl) ?_))
          exact hcut _ (ssub_head (by first | rfl | (rw [hg1]; rfl) | simp_all) (by repeat (first | exact ssub_refl | refine uS rfl ?_)))
        refine sV (v_pick_true (bool_ev rfl hg) rfl) ?_
        exact hcut _ (ssub_head (by first | rfl | (rw [hg]; rfl) | simp_all) (by repeat (first | exact ssub_refl | refine uS rfl ?_)))
      refine sN (nK [3, 5, 6, 7, 92] rfl (nT (cC rfl (fun hC => ?_) (fun hC => ?_))))
      · skip
        rw [show p.rC = true from hC] at hr0
        simp at hr0
        subst hr0
        refine cS (cR (sV (vA rfl) (sN (nK [6] rfl (nT (cT (xR ?_)))))))
        exact xt_rt rfl ⟨rfl, rfl⟩ (by (repeat (refine Sub.sel (by repeat (first | exact Sel.here | apply Sel.there)) ?_)); (repeat apply Sub.cons); first | exact Sub.refl _ | exact Sub.nil _)
      · skip
        rw [show p.rC = false from hC] at hr0
        refine cK (xT (cS (cS (cd_drawh (ork [(0, 2), (1, 1), (2, 2), (3, 2), (4, 2), (5, 1), (6, 2), (7, 1), (8, 2), (9, 1), (10, 2), (11, 2), (12, 1), (13, 2), (14, 2), (15, 2)] .nil) (fun _ => true) mixed (by kernel_rfl) ?_))))
        refine dV rfl (vF rfl fa77_2 rfl) (dr_v rfl (v_ldy rfl ld3) ?_)
        refine dV rfl (v_geq rfl rfl) (dV rfl (vM rfl) (dr_cut (k := 12) (d := 108) (v := .bool (decide (0 ≤ p.job) && decide ((y.jlen p.job : Int) < p.pc))) (fun hcut => bool_want (b := decide (0 ≤ p.job)) true (fun hg => ?_) (fun hg => ?_)) ?_))
        · refine dp_sk rfl rfl rfl hg ?_
          refine dr_sk rfl rfl rfl hg ?_
          refine dp_sk rfl rfl rfl hg ?_
          refine dr_sk rfl rfl rfl hg ?_
          refine dp_sk rfl rfl rfl hg ?_
          refine dr_sk rfl rfl rfl hg ?_
          refine dp_sk rfl rfl rfl hg ?_
          refine dp_sk rfl rfl rfl hg ?_
          refine dr_sk rfl rfl rfl hg ?_
          refine dp_sk rfl rfl rfl hg ?_
          refine dp_sk rfl rfl rfl hg ?_
          refine dV rfl (vP (bool_ev rfl hg) rfl) ?_
          exact hcut _ (ssub_head (by first | rfl | (rw [hg]; rfl) | simp_all) (uS rfl (uS rfl (uS rfl (uS rfl (uS rfl (uS rfl (uS rfl (uS rfl (uS rfl (uS rfl (uS rfl (ssub_refl)))))))))))))
        · skip
          have hjob : 0 ≤ p.job := by simpa using hg
          have hjob2 : p.job ≤ (y.jobs.length : Int) - 1 := by have := hA1; unfold within at this; simp at this; omega
          have hjlt : p.job.toNat < y.jobs.length := by omega
          obtain ⟨bj, oj, cj2, uj, uja, ujc, hvj, hrdj, huj, hXj⟩ := jobs_at hj hjlt
          subst huj
          have hjl : (y.jobs[p.job.toNat]).length = y.jlen p.job := by unfold Yard.jlen; rw [List.getD_eq_getElem?_getD, List.getElem?_eq_getElem hjlt]; rfl
          rw [hjl] at hrdj
          refine dp_vg rfl rfl (bG rfl hg) (vF rfl fa77_3 rfl) (dr_vg rfl rfl (bG rfl hg) (v_ldy rfl ld3) ?_)
          refine dp_vg rfl rfl (bG rfl hg) (vF rfl fa27_0 rfl) (dr_vg rfl rfl (bG rfl hg) (v_ldy rfl ld22) ?_)
          refine dp_vg rfl rfl (bG rfl hg) (vF rfl fa77_2 rfl) (dr_vg rfl rfl (bG rfl hg) (v_ldy rfl ld3) ?_)
          refine dp_vg rfl rfl (bG rfl hg) (v_max rfl rfl hjob) (dp_vg rfl rfl (bG rfl hg) (v_indexAddr (k := p.job.toNat) (congrArg some hvj) rfl sl22 (by omega) hjlt rfl) (dr_vg rfl rfl (bG rfl hg) (v_ldy rfl ld108) ?_))
          refine dp_vg rfl rfl (bG rfl hg) (v_len rfl Tryz.underlying108) (dp_vg rfl rfl (bG rfl hg) (v_gtr rfl rfl) (dV rfl (v_pick_true (bool_ev rfl hg) rfl) ?_))
          exact hcut _ (ssub_head (by first | rfl | (rw [hg]; rfl) | simp_all) (uS rfl (uS rfl (uS rfl (uS rfl (uS rfl (uS rfl (uS rfl (uS rfl (uS rfl (uS rfl (uS rfl (ssub_refl)))))))))))))
        refine dr_nil (nK [3, 5, 6, 7, 108] rfl (nT (cC rfl (fun hD0 => ?_) (fun hD0 => ?_))))
        · skip
          rw [show p.rD y = true from hD0] at hr0
          simp at hr0
          subst hr0
          refine cS (cR (sV (vA rfl) (sN (nK [6] rfl (nT (cT (xR ?_)))))))
          exact xt_rt rfl ⟨rfl, rfl⟩ (by (repeat (refine Sub.sel (by repeat (first | exact Sel.here | apply Sel.there)) ?_)); (repeat apply Sub.cons); first | exact Sub.refl _ | exact Sub.nil _)
        · skip
          rw [show p.rD y = false from hD0] at hr0
          simp only [Bool.not_false, Bool.true_and] at hr0
          unfold Proc.g4 at hr0
          refine cK (xT (cS (cS (cR (sV (vA rfl) (sN (nK [3, 5, 6, 7, 8] rfl (nT (cd_block (cd_lq (σ := Nat) (fun k => [(3, .pointer (some ⟨b3, 0, none⟩)), (5, .pointer (some ⟨b5, 0, none⟩)), (7, .int .i64 y.procs.length), (8, .int .i64 (k : Nat))]) (fun _ => pt b5 (cl [.slice aj y.jobs.length cj, .slice ap y.procs.length cp] 27) :: pt b3 (cl (pC (.slice al p.lines.length cl') (.slice ap' p.puts.length cp') (.slice ah p.holds.length ch') (.slice ad p.did.length cd') p) 77) :: S :: hr) (fun k => k ≤ p.lines.length ∧ ∀ (j : Nat) (hj : j < p.lines.length), j < k → lineOk y.procs.length y.jobs.length p.lines[j] = true) (fun k => p.lines.length - k) 0 ⟨Nat.zero_le _, fun j _ hj => by omega⟩ ?_))))))))))
          rintro k ⟨hk, hall⟩
          refine cS (cS (cR (sV (vM rfl) (sV (vF rfl fa77_0 rfl) (sV (v_ldy rfl ld73) ?_)))))
          refine sV (v_len rfl Tryz.underlying73) (sV (v_lss rfl rfl) (sN (nK [3, 5, 7, 8, 113] rfl (nT (cC rfl (fun hd => ?_) (fun hd => ?_))))))
          · skip
            have hkt : k < p.lines.length := by simpa using hd
            obtain ⟨b, o, cp2, us, hv2, hus, hrd, av, rfl, hAs⟩ := hL.at (List.getElem?_eq_getElem hkt)
            obtain ⟨aa, ac, rfl, _⟩ := id hAs
            have hbad : lineOk y.procs.length y.jobs.length p.lines[k] = false → r0 = false := fun h => by
              rw [← hr0, all_bad (g := fun l => lineOk y.procs.length y.jobs.length l) hkt h]; simp
            have hgood : lineOk y.procs.length y.jobs.length p.lines[k] = true → ∀ (j : Nat) (hj : j < p.lines.length), j < k + 1 → lineOk y.procs.length y.jobs.length p.lines[j] = true := fun h j hj' hji => by
              by_cases hjk : j = k
              · subst hjk; exact h
              · exact hall j hj' (by omega)
            have hal := fa _ (List.getElem_mem hkt)
            generalize p.lines[k] = l at *
            refine cK (xT (cS (cd_block (cS (cR (sV (vF rfl fa77_0 rfl) (sV (v_ldy rfl ld73) ?_)))))))
            refine sV (vM rfl) (sV (v_indexAddr (k := k) (congrArg some hv2) rfl sl73 rfl hkt rfl) (sV (vF rfl fa120_0 rfl) (sV (v_ldn (vs := kC l.key) rfl ld79 rfl (rds_sub hrd rfl)) ?_)))
            refine sV (vM rfl) (st_clr rfl rfl en145 rfl (rkeyed_ct l.key y.procs.length ⟨by omega, by omega⟩) ?_)
            refine sV (vA rfl) (sN (nK [3, 5, 7, 8, 9] rfl (nT (cS (cS (cR (sV (vM rfl) (sV (v_not rfl) (sV (vM rfl) (st_cut (k := 12) (d := 135) (v := .bool (!keyed l.key y.procs.length || decide (400 < (l.asks.length : Int)))) (fun hcut => bool_want (b := !keyed l.key y.procs.length) false (fun hg => ?_) (fun hg => ?_)) ?_))))))))))
            · refine st_sk rfl rfl hg ?_
              refine st_sk rfl rfl hg ?_
              refine st_sk rfl rfl hg ?_
              refine st_sk rfl rfl hg ?_
              refine st_sk rfl rfl hg ?_
              refine st_sk rfl rfl hg ?_
              refine st_sk rfl rfl hg ?_
              refine st_sk rfl rfl hg ?_
              refine sV (v_pick_true (bool_ev rfl hg) rfl) ?_
              exact hcut _ (ssub_head (by first | rfl | (rw [hg]; rfl) | simp_all) (uS rfl (uS rfl (uS rfl (uS rfl (uS rfl (uS rfl (uS rfl (uS rfl (ssub_refl))))))))))
            · skip
              refine st_vg rfl (bG rfl hg) (vF rfl fa77_0 rfl) (st_vg rfl (bG rfl hg) (v_ldy rfl ld73) ?_)
              refine st_vg rfl (bG rfl hg) (vM rfl) (st_vg rfl (bG rfl hg) (v_indexAddr (k := k) (congrArg some hv2) rfl sl73 rfl hkt rfl) (st_vg rfl (bG rfl hg) (vF rfl fa120_1 rfl) (st_vg rfl (bG rfl hg) (v_ldy rfl ld118) ?_)))
              refine st_vg rfl (bG rfl hg) (v_len rfl Tryz.underlying118) (st_vg rfl (bG rfl hg) (v_gtr rfl rfl) (sV (vP (bool_ev rfl hg) rfl) ?_))
              exact hcut _ (ssub_head (by first | rfl | (rw [hg]; rfl) | simp_all) (uS rfl (uS rfl (uS rfl (uS rfl (uS rfl (uS rfl (uS rfl (uS rfl (ssub_refl))))))))))
            refine sN (nK [3, 5, 7, 8, 135] rfl (nT (cC rfl (fun hk1 => ?_) (fun hk1 => ?_))))
            · skip
              obtain rfl := hbad (by
                unfold lineOk
                rw [Bool.or_eq_true, Bool.not_eq_true', decide_eq_true_eq] at hk1
                rw [Bool.and_eq_false_iff, Bool.and_eq_false_iff, decide_eq_false_iff_not]
                left
                rcases hk1 with h | h
                · exact .inl h
                · exact .inr (by omega))
              refine cS (cR (sV (vA rfl) (sN (nK [6] rfl (nT (cT (xR (xt_ret_block (xR (xR (xt_ret_block (xR ?_))))))))))))
              exact xt_rt rfl ⟨rfl, rfl⟩ (by (repeat (refine Sub.sel (by repeat (first | exact Sel.here | apply Sel.there)) ?_)); (repeat apply Sub.cons); first | exact Sub.refl _ | exact Sub.nil _)
            · skip
              rw [Bool.or_eq_false_iff, Bool.not_eq_false', decide_eq_false_iff_not] at hk1
              refine cK (xT (cS (cR (sV (vA rfl) (sN (nK [3, 5, 7, 8, 10] rfl (nT (cd_block (cd_lq (σ := Nat) (fun q => [(3, .pointer (some ⟨b3, 0, none⟩)), (5, .pointer (some ⟨b5, 0, none⟩)), (7, .int .i64 y.procs.length), (8, .int .i64 (k : Nat)), (10, .int .i64 (q : Nat))]) (fun _ => pt b5 (cl [.slice aj y.jobs.length cj, .slice ap y.procs.length cp] 27) :: pt b3 (cl (pC (.slice al p.lines.length cl') (.slice ap' p.puts.length cp') (.slice ah p.holds.length ch') (.slice ad p.did.length cd') p) 77) :: S :: hr) (fun q => q ≤ l.asks.length ∧ ∀ (j : Nat) (hj : j < l.asks.length), j < q → within (l.asks[j]).1 0 ((y.jobs.length : Int) - 1) = true) (fun q => l.asks.length - q) 0 ⟨Nat.zero_le _, fun j _ hj => by omega⟩ ?_)))))))))
              rintro q ⟨hq, hallq⟩
              refine cS (cS (cR (sV (vM rfl) (sV (vF rfl fa77_0 rfl) (sV (v_ldy rfl ld73) ?_)))))
              refine sV (vM rfl) (sV (v_indexAddr (k := k) (congrArg some hv2) rfl sl73 rfl hkt rfl) (sV (vF rfl fa120_1 rfl) (sV (v_ldy rfl ld118) ?_)))
              refine sV (v_len rfl Tryz.underlying118) (sV (v_lss rfl rfl) (sN (nK [3, 5, 7, 8, 10, 144] rfl (nT (cC rfl (fun hd2 => ?_) (fun hd2 => ?_))))))
              · skip
                have hqt : q < l.asks.length := by simpa using hd2
                obtain ⟨c1, c2, c3, cus, hcv, hcus, hcrd, rfl⟩ := hAs.at (List.getElem?_eq_getElem hqt)
                have hw : within (l.asks[q]).1 0 ((y.jobs.length : Int) - 1) = false → lineOk y.procs.length y.jobs.length l = false := fun h => by
                  unfold lineOk
                  rw [all_bad (g := fun a : Ask => within a.1 0 ((y.jobs.length : Int) - 1)) hqt h, Bool.and_false]
                have hwg : within (l.asks[q]).1 0 ((y.jobs.length : Int) - 1) = true → ∀ (j : Nat) (hj : j < l.asks.length), j < q + 1 → within (l.asks[j]).1 0 ((y.jobs.length : Int) - 1) = true := fun h j hj' hji => by
                  by_cases hjk : j = q
                  · subst hjk; exact h
                  · exact hallq j hj' (by omega)
                generalize l.asks[q] = x at *
                refine cK (xT (cS (cd_block (cS (cd_drawh (ork [(0, 2), (1, 1), (2, 2), (3, 2), (4, 2), (5, 1), (6, 2), (7, 2), (8, 2), (9, 1), (10, 2), (11, 1), (12, 2), (13, 2), (14, 1), (15, 2)] .nil) (fun _ => true) mixed (by kernel_rfl) ?_)))))
                refine dV rfl (vF rfl fa77_0 rfl) (dr_v rfl (v_ldy rfl ld73) ?_)
                refine dV rfl (vM rfl) (dV rfl (v_indexAddr (k := k) (congrArg some hv2) rfl sl73 rfl hkt rfl) (dV rfl (vF rfl fa120_1 rfl) (dr_v rfl (v_ldy rfl ld118) ?_)))
                refine dV rfl (vM rfl) (dV rfl (v_indexAddr (k := q) (congrArg some hcv) rfl sl118 rfl hqt rfl) (dV rfl (vF rfl fa117_0 rfl) (dr_v rfl (v_ldy rfl ld3) ?_)))
                refine dV rfl (vF rfl fa27_0 rfl) (dr_v rfl (v_ldy rfl ld22) ?_)
                refine dV rfl (v_len rfl Tryz.underlying22) (dV rfl (v_sub rfl rfl (by unfold I64 at *; omega)) (dr_clr rfl rfl rfl en89 rfl (in_ct x.1 0 ((y.jobs.length : Int) - 1)) ?_))
                refine dV rfl (v_not rfl) (dr_nil (nK [3, 5, 7, 8, 10, 162] rfl (nT (cC rfl (fun hx => ?_) (fun hx => ?_)))))
                · skip
                  obtain rfl := hbad (hw (by simpa using hx))
                  refine cS (cR (sV (vA rfl) (sN (nK [6] rfl (nT (cT (xt_ret_block (xR (xR (xt_ret_block (xt_ret_block (xR (xR (xt_ret_block (xR ?_)))))))))))))))
                  exact xt_rt rfl ⟨rfl, rfl⟩ (by (repeat (refine Sub.sel (by repeat (first | exact Sel.here | apply Sel.there)) ?_)); (repeat apply Sub.cons); first | exact Sub.refl _ | exact Sub.nil _)
                · skip
                  refine cK (xB (xT (cR (sV (vM rfl) (sV (v_add rfl rfl (by unfold I64 at *; omega)) (sV (vA rfl) (sN (nK [3, 5, 7, 8, 10] rfl (nx_xt ?_)))))))))
                  refine xt_aq (q + 1) ⟨hqt, hwg (by simpa using hx)⟩ (by show _ - _ < _ - _; omega)
              · skip
                have hql : q = l.asks.length := by have : ¬ q < l.asks.length := by simpa using hd2
                                                   omega
                refine cd_exit (xE (xE (xt_exit_block (xB (xT (cR (sV (vM rfl) (sV (v_add rfl rfl (by unfold I64 at *; omega)) (sV (vA rfl) (sN (nK [3, 5, 7, 8] rfl (nx_xt ?_))))))))))))
                refine xt_aq (k + 1) ⟨hkt, hgood (by
                  unfold lineOk
                  rw [hk1.1, decide_eq_true (by omega), all_good (g := fun a : Ask => within a.1 0 ((y.jobs.length : Int) - 1)) (fun j hj' => hallq j hj' (by omega))]
                  rfl)⟩ (by show _ - _ < _ - _; omega)
          · skip
            have hkl : k = p.lines.length := by have : ¬ k < p.lines.length := by simpa using hd
                                                omega
            rw [all_good (g := fun l => lineOk y.procs.length y.jobs.length l) (fun j hj' => hall j hj' (by omega))] at hr0
            refine cd_exit (xE (xE (xt_exit_block (xT (cS (cS (cR (sV (vA rfl) (sN (nK [3, 5, 7, 11] rfl (nT (cd_block (cd_lq (σ := Nat) (fun k => [(3, .pointer (some ⟨b3, 0, none⟩)), (5, .pointer (some ⟨b5, 0, none⟩)), (7, .int .i64 y.procs.length), (11, .int .i64 (k : Nat))]) (fun _ => pt b5 (cl [.slice aj y.jobs.length cj, .slice ap y.procs.length cp] 27) :: pt b3 (cl (pC (.slice al p.lines.length cl') (.slice ap' p.puts.length cp') (.slice ah p.holds.length ch') (.slice ad p.did.length cd') p) 77) :: S :: hr) (fun k => k ≤ p.puts.length ∧ ∀ (j : Nat) (hj : j < p.puts.length), j < k → keyed p.puts[j] y.procs.length = true) (fun k => p.puts.length - k) 0 ⟨Nat.zero_le _, fun j _ hj => by omega⟩ ?_)))))))))))))
            rintro k2 ⟨hk2, hall2⟩
            refine cS (cS (cR (sV (vM rfl) (sV (vF rfl fa77_1 rfl) (sV (v_ldy rfl ld74) ?_)))))
            refine sV (v_len rfl Tryz.underlying74) (sV (v_lss rfl rfl) (sN (nK [3, 5, 7, 11, 167] rfl (nT (cC rfl (fun hd3 => ?_) (fun hd3 => ?_))))))
            · skip
              have hkt2 : k2 < p.puts.length := by simpa using hd3
              obtain ⟨c1, c2, c3, cus, hcv, hcus, hcrd, rfl⟩ := hP.at (List.getElem?_eq_getElem hkt2)
              refine cK (xT (cS (cd_block (cS (cR (sV (vF rfl fa77_1 rfl) (sV (v_ldy rfl ld74) ?_)))))))
              refine sV (vM rfl) (sV (v_indexAddr (k := k2) (congrArg some hcv) rfl sl74 rfl hkt2 rfl) (sV (v_ldn rfl ld79 hcus hcrd) ?_))
              refine sV (vM rfl) (st_clr rfl rfl en145 rfl (rkeyed_ct p.puts[k2] y.procs.length ⟨by omega, by omega⟩) ?_)
              refine sV (vA rfl) (sN (nK [3, 5, 7, 11, 12] rfl (nT (cS (cR (sV (vM rfl) (sV (v_not rfl) (sN (nK [3, 5, 7, 11, 178] rfl (nT (cC rfl (fun hx => ?_) (fun hx => ?_))))))))))))
              · skip
                rw [all_bad (g := fun k => keyed k y.procs.length) hkt2 (by simpa using hx)] at hr0
                simp at hr0
                subst hr0
                refine cS (cR (sV (vA rfl) (sN (nK [6] rfl (nT (cT (xt_ret_block (xR (xR (xt_ret_block (xR ?_)))))))))))
                exact xt_rt rfl ⟨rfl, rfl⟩ (by (repeat (refine Sub.sel (by repeat (first | exact Sel.here | apply Sel.there)) ?_)); (repeat apply Sub.cons); first | exact Sub.refl _ | exact Sub.nil _)
              · skip
                refine cK (xB (xT (cR (sV (vM rfl) (sV (v_add rfl rfl (by unfold I64 at *; omega)) (sV (vA rfl) (sN (nK [3, 5, 7, 11] rfl (nx_xt (xt_aq (k2 + 1) ⟨hkt2, fun j hj' hji => ?_⟩ (by show _ - _ < _ - _; omega)))))))))))
                by_cases hjk : j = k2
                · subst hjk; simpa using hx
                · exact hall2 j hj' (by omega)
            · skip
              have hkl2 : k2 = p.puts.length := by have : ¬ k2 < p.puts.length := by simpa using hd3
                                                   omega
              rw [all_good (g := fun k => keyed k y.procs.length) (fun j hj' => hall2 j hj' (by omega))] at hr0
              refine cd_exit (xE (xE (xt_exit_block (xT (cS (cS (cR (sV (vA rfl) (sN (nK [3, 5, 7, 13] rfl (nT (cd_block (cd_lq (σ := Nat) (fun k => [(3, .pointer (some ⟨b3, 0, none⟩)), (5, .pointer (some ⟨b5, 0, none⟩)), (7, .int .i64 y.procs.length), (13, .int .i64 (k : Nat))]) (fun _ => pt b5 (cl [.slice aj y.jobs.length cj, .slice ap y.procs.length cp] 27) :: pt b3 (cl (pC (.slice al p.lines.length cl') (.slice ap' p.puts.length cp') (.slice ah p.holds.length ch') (.slice ad p.did.length cd') p) 77) :: S :: hr) (fun k => k ≤ p.holds.length ∧ ∀ (j : Nat) (hj : j < p.holds.length), j < k → holdOk y.procs.length p.holds[j] = true) (fun k => p.holds.length - k) 0 ⟨Nat.zero_le _, fun j _ hj => by omega⟩ ?_)))))))))))))
              rintro k3 ⟨hk3, hall3⟩
              refine cS (cS (cR (sV (vM rfl) (sV (vF rfl fa77_5 rfl) (sV (v_ldy rfl ld75) ?_)))))
              refine sV (v_len rfl Tryz.underlying75) (sV (v_lss rfl rfl) (sN (nK [3, 5, 7, 13, 183] rfl (nT (cC rfl (fun hd4 => ?_) (fun hd4 => ?_))))))
              · skip
                have hkt3 : k3 < p.holds.length := by simpa using hd4
                obtain ⟨c1, c2, c3, cus, hcv, hcus, hcrd, rfl⟩ := hH.at (List.getElem?_eq_getElem hkt3)
                have hbad3 : holdOk y.procs.length p.holds[k3] = false → r0 = false := fun h => by
                  rw [← hr0, all_bad (g := fun h => holdOk y.procs.length h) hkt3 h]; simp
                have hgood3 : holdOk y.procs.length p.holds[k3] = true → ∀ (j : Nat) (hj : j < p.holds.length), j < k3 + 1 → holdOk y.procs.length p.holds[j] = true := fun h j hj' hji => by
                  by_cases hjk : j = k3
                  · subst hjk; exact h
                  · exact hall3 j hj' (by omega)
                generalize p.holds[k3] = x at *
                have hok3 : holdOk y.procs.length x = !(!keyed x.2.1 y.procs.length || !within x.1 0 ((y.procs.length : Int) - 1)) := by
                  unfold holdOk
                  rw [Bool.not_or, Bool.not_not, Bool.not_not, Bool.and_comm]
                refine cK (xT (cS (cd_block (cS (cR (sV (vF rfl fa77_5 rfl) (sV (v_ldy rfl ld75) ?_)))))))
                refine sV (vM rfl) (sV (v_indexAddr (k := k3) (congrArg some hcv) rfl sl75 rfl hkt3 rfl) (sV (vF rfl fa161_1 rfl) (sV (v_ldn (vs := kC x.2.1) rfl ld79 rfl (rds_sub hcrd rfl)) ?_)))
                refine sV (vM rfl) (st_clr rfl rfl en145 rfl (rkeyed_ct x.2.1 y.procs.length ⟨by omega, by omega⟩) ?_)
                refine sV (vA rfl) (sN (nK [3, 5, 7, 13, 14] rfl (nT (cS (cR (sV (vM rfl) (sV (v_not rfl) (sV (vM rfl) (st_cut (k := 14) (d := 207) (v := .bool (!keyed x.2.1 y.procs.length || !within x.1 0 ((y.procs.length : Int) - 1))) (fun hcut => bool_want (b := !keyed x.2.1 y.procs.length) false (fun hg => ?_) (fun hg => ?_)) ?_)))))))))
                · refine st_sk rfl rfl hg ?_
                  refine st_sk rfl rfl hg ?_
                  refine st_sk rfl rfl hg ?_
                  refine st_sk rfl rfl hg ?_
                  refine st_sk rfl rfl hg ?_
                  refine st_sk rfl rfl hg ?_
                  refine st_sk rfl rfl hg ?_
                  refine st_sk rfl rfl hg ?_
                  refine st_sk rfl rfl hg ?_
                  refine st_sk rfl rfl hg ?_
                  refine sV (v_pick_true (bool_ev rfl hg) rfl) ?_
                  exact hcut _ (ssub_head (by first | rfl | (rw [hg]; rfl) | simp_all) (uS rfl (uS rfl (uS rfl (uS rfl (uS rfl (uS rfl (uS rfl (uS rfl (uS rfl (uS rfl (ssub_refl))))))))))))
                · skip
                  refine st_vg rfl (bG rfl hg) (vF rfl fa77_5 rfl) (st_vg rfl (bG rfl hg) (v_ldy rfl ld75) ?_)
                  refine st_vg rfl (bG rfl hg) (vM rfl) (st_vg rfl (bG rfl hg) (v_indexAddr (k := k3) (congrArg some hcv) rfl sl75 rfl hkt3 rfl) (st_vg rfl (bG rfl hg) (vF rfl fa161_0 rfl) (st_vg rfl (bG rfl hg) (v_ldy rfl ld3) ?_)))
                  refine st_vg rfl (bG rfl hg) (vM rfl) (st_vg rfl (bG rfl hg) (v_sub rfl rfl (by unfold I64 at *; omega)) (st_clrg rfl (bG rfl hg) rfl rfl en89 rfl (in_ct x.1 0 ((y.procs.length : Int) - 1)) ?_))
                  refine st_vg rfl (bG rfl hg) (v_not rfl) (sV (vP (bool_ev rfl hg) rfl) ?_)
                  exact hcut _ (ssub_head (by first | rfl | (rw [hg]; rfl) | simp_all) (uS rfl (uS rfl (uS rfl (uS rfl (uS rfl (uS rfl (uS rfl (uS rfl (uS rfl (uS rfl (ssub_refl))))))))))))
                refine sN (nK [3, 5, 7, 13, 207] rfl (nT (cC rfl (fun hx => ?_) (fun hx => ?_))))
                · skip
                  obtain rfl := hbad3 (by rw [hok3, hx]; rfl)
                  refine cS (cR (sV (vA rfl) (sN (nK [6] rfl (nT (cT (xt_ret_block (xR (xR (xt_ret_block (xR ?_)))))))))))
                  exact xt_rt rfl ⟨rfl, rfl⟩ (by (repeat (refine Sub.sel (by repeat (first | exact Sel.here | apply Sel.there)) ?_)); (repeat apply Sub.cons); first | exact Sub.refl _ | exact Sub.nil _)
                · skip
                  refine cK (xB (xT (cR (sV (vM rfl) (sV (v_add rfl rfl (by unfold I64 at *; omega)) (sV (vA rfl) (sN (nK [3, 5, 7, 13] rfl (nx_xt ?_)))))))))
                  refine xt_aq (k3 + 1) ⟨hkt3, hgood3 (by rw [hok3, hx]; rfl)⟩ (by show _ - _ < _ - _; omega)
              · skip
                have hkl3 : k3 = p.holds.length := by have : ¬ k3 < p.holds.length := by simpa using hd4
                                                      omega
                rw [all_good (g := fun h => holdOk y.procs.length h) (fun j hj' => hall3 j hj' (by omega))] at hr0
                refine cd_exit (xE (xE (xt_exit_block (xT (cS (cS (cR (sV (vA rfl) (sN (nK [3, 5, 7, 15] rfl (nT (cd_block (cd_lq (σ := Nat) (fun k => [(3, .pointer (some ⟨b3, 0, none⟩)), (5, .pointer (some ⟨b5, 0, none⟩)), (7, .int .i64 y.procs.length), (15, .int .i64 (k : Nat))]) (fun _ => pt b5 (cl [.slice aj y.jobs.length cj, .slice ap y.procs.length cp] 27) :: pt b3 (cl (pC (.slice al p.lines.length cl') (.slice ap' p.puts.length cp') (.slice ah p.holds.length ch') (.slice ad p.did.length cd') p) 77) :: S :: hr) (fun k => k ≤ p.did.length ∧ ∀ (j : Nat) (hj : j < p.did.length), j < k → didOk y.procs.length y.jobs.length p.did[j] = true) (fun k => p.did.length - k) 0 ⟨Nat.zero_le _, fun j _ hj => by omega⟩ ?_)))))))))))))
                rintro k4 ⟨hk4, hall4⟩
                refine cS (cS (cR (sV (vM rfl) (sV (vF rfl fa77_8 rfl) (sV (v_ldy rfl ld62) ?_)))))
                refine sV (v_len rfl Tryz.underlying62) (sV (v_lss rfl rfl) (sN (nK [3, 5, 7, 15, 212] rfl (nT (cC rfl (fun hd5 => ?_) (fun hd5 => ?_))))))
                · skip
                  have hkt4 : k4 < p.did.length := by simpa using hd5
                  obtain ⟨c1, c2, c3, cus, hcv, hcus, hcrd, rfl⟩ := hD.at (List.getElem?_eq_getElem hkt4)
                  have hbad4 : didOk y.procs.length y.jobs.length p.did[k4] = false → r0 = false := fun h => by
                    rw [← hr0, all_bad (g := fun d => didOk y.procs.length y.jobs.length d) hkt4 h]; simp
                  have hgood4 : didOk y.procs.length y.jobs.length p.did[k4] = true → ∀ (j : Nat) (hj : j < p.did.length), j < k4 + 1 → didOk y.procs.length y.jobs.length p.did[j] = true := fun h j hj' hji => by
                    by_cases hjk : j = k4
                    · subst hjk; exact h
                    · exact hall4 j hj' (by omega)
                  generalize p.did[k4] = x at *
                  have hok4 : didOk y.procs.length y.jobs.length x = !(!keyed x.1 y.procs.length || !within x.2.1 0 ((y.jobs.length : Int) - 1)) := by
                    unfold didOk
                    rw [Bool.not_or, Bool.not_not, Bool.not_not]
                  refine cK (xT (cS (cd_block (cS (cR (sV (vF rfl fa77_8 rfl) (sV (v_ldy rfl ld62) ?_)))))))
                  refine sV (vM rfl) (sV (v_indexAddr (k := k4) (congrArg some hcv) rfl sl62 rfl hkt4 rfl) (sV (vF rfl fa81_0 rfl) (sV (v_ldn (vs := kC x.1) rfl ld79 rfl (rds_sub hcrd rfl)) ?_)))
                  refine sV (vM rfl) (st_clr rfl rfl en145 rfl (rkeyed_ct x.1 y.procs.length ⟨by omega, by omega⟩) ?_)
                  refine sV (vA rfl) (sN (nK [3, 5, 7, 15, 16] rfl (nT (cS (cd_drawh (ork [(0, 2), (1, 2), (2, 2), (3, 2), (4, 1), (5, 2), (6, 2), (7, 2), (8, 1), (9, 2), (10, 1), (11, 2), (12, 2), (13, 1), (14, 2), (15, 2)] .nil) (fun _ => true) mixed (by kernel_rfl) ?_)))))
                  refine dV rfl (vM rfl) (dV rfl (v_not rfl) (dV rfl (vM rfl) (dr_cut (k := 13) (d := 238) (v := .bool (!keyed x.1 y.procs.length || !within x.2.1 0 ((y.jobs.length : Int) - 1))) (fun hcut => bool_want (b := !keyed x.1 y.procs.length) false (fun hg => ?_) (fun hg => ?_)) ?_)))
                  · refine dp_sk rfl rfl rfl hg ?_
                    refine dr_sk rfl rfl rfl hg ?_
                    refine dp_sk rfl rfl rfl hg ?_
                    refine dp_sk rfl rfl rfl hg ?_
                    refine dp_sk rfl rfl rfl hg ?_
                    refine dr_sk rfl rfl rfl hg ?_
                    refine dp_sk rfl rfl rfl hg ?_
                    refine dr_sk rfl rfl rfl hg ?_
                    refine dp_sk rfl rfl rfl hg ?_
                    refine dp_sk rfl rfl rfl hg ?_
                    refine dr_sk rfl rfl rfl hg ?_
                    refine dp_sk rfl rfl rfl hg ?_
                    refine dV rfl (v_pick_true (bool_ev rfl hg) rfl) ?_
                    exact hcut _ (ssub_head (by first | rfl | (rw [hg]; rfl) | simp_all) (uS rfl (uS rfl (uS rfl (uS rfl (uS rfl (uS rfl (uS rfl (uS rfl (uS rfl (uS rfl (uS rfl (uS rfl (ssub_refl))))))))))))))
                  · skip
                    refine dp_vg rfl rfl (bG rfl hg) (vF rfl fa77_8 rfl) (dr_vg rfl rfl (bG rfl hg) (v_ldy rfl ld62) ?_)
                    refine dp_vg rfl rfl (bG rfl hg) (vM rfl) (dp_vg rfl rfl (bG rfl hg) (v_indexAddr (k := k4) (congrArg some hcv) rfl sl62 rfl hkt4 rfl) (dp_vg rfl rfl (bG rfl hg) (vF rfl fa81_1 rfl) (dr_vg rfl rfl (bG rfl hg) (v_ldy rfl ld3) ?_)))
                    refine dp_vg rfl rfl (bG rfl hg) (vF rfl fa27_0 rfl) (dr_vg rfl rfl (bG rfl hg) (v_ldy rfl ld22) ?_)
                    refine dp_vg rfl rfl (bG rfl hg) (v_len rfl Tryz.underlying22) (dp_vg rfl rfl (bG rfl hg) (v_sub rfl rfl (by unfold I64 at *; omega)) (dr_clrg rfl rfl (bG rfl hg) rfl rfl en89 rfl (in_ct x.2.1 0 ((y.jobs.length : Int) - 1)) ?_))
                    refine dp_vg rfl rfl (bG rfl hg) (v_not rfl) (dV rfl (vP (bool_ev rfl hg) rfl) ?_)
                    exact hcut _ (ssub_head (by first | rfl | (rw [hg]; rfl) | simp_all) (uS rfl (uS rfl (uS rfl (uS rfl (uS rfl (uS rfl (uS rfl (uS rfl (uS rfl (uS rfl (uS rfl (uS rfl (ssub_refl))))))))))))))
                  refine dr_nil (nK [3, 5, 7, 15, 238] rfl (nT (cC rfl (fun hx => ?_) (fun hx => ?_))))
                  · skip
                    obtain rfl := hbad4 (by rw [hok4, hx]; rfl)
                    refine cS (cR (sV (vA rfl) (sN (nK [6] rfl (nT (cT (xt_ret_block (xR (xR (xt_ret_block (xR ?_)))))))))))
                    exact xt_rt rfl ⟨rfl, rfl⟩ (by (repeat (refine Sub.sel (by repeat (first | exact Sel.here | apply Sel.there)) ?_)); (repeat apply Sub.cons); first | exact Sub.refl _ | exact Sub.nil _)
                  · skip
                    refine cK (xB (xT (cR (sV (vM rfl) (sV (v_add rfl rfl (by unfold I64 at *; omega)) (sV (vA rfl) (sN (nK [3, 5, 7, 15] rfl (nx_xt ?_)))))))))
                    refine xt_aq (k4 + 1) ⟨hkt4, hgood4 (by rw [hok4, hx]; rfl)⟩ (by show _ - _ < _ - _; omega)
                · skip
                  have hkl4 : k4 = p.did.length := by have : ¬ k4 < p.did.length := by simpa using hd5
                                                      omega
                  rw [all_good (g := fun d => didOk y.procs.length y.jobs.length d) (fun j hj' => hall4 j hj' (by omega))] at hr0
                  have hr1 : r0 = true := by rw [← hr0]; rfl
                  subst hr1
                  refine cd_exit (xE (xE (xt_exit_block (xT (cS (cR (sV (vA rfl) (sN (nK [6] rfl (nT (cT ?_)))))))))))
                  exact xt_rt rfl ⟨rfl, rfl⟩ (by (repeat (refine Sub.sel (by repeat (first | exact Sel.here | apply Sel.there)) ?_)); (repeat apply Sub.cons); first | exact Sub.refl _ | exact Sub.nil _)
end
end Go.Wt
namespace Go.Wt
open Go Go.Ck Go.Proofs Go.Proofs.YtboepbencndobaaGreat Fx
attribute [local irreducible] Go.Ck.Sub St Cd Xt Nx DrL LsW
theorem ld41 : LdN Tryz.prog 41 2 := LdN.of Tryz.underlying41 sz41
theorem ld47 : LdN Tryz.prog 47 2 := LdN.of Tryz.underlying47 sz47
theorem ld52 : LdN Tryz.prog 52 2 := LdN.of Tryz.underlying52 sz52
section
variable {S : Res}
set_option maxRecDepth 100000 in
theorem rRight_ct {ys : List Value} {y : Yard} (hy : yardR S ys y) (hf : Fit y) : Reads Tryz.prog 73 #[.agg ys.toArray] [S] (.int .i64 (if y.right = true then 0 else 2)) := by
  obtain ⟨jv, pv, rfl, hj, hp⟩ := id hy
  obtain ⟨hfj, hfp, hfpp⟩ := hf
  have hnj := hfj.1
  obtain ⟨aj, cj, rfl, _⟩ := id hj
  obtain ⟨ap, cp, rfl, _⟩ := id hp
  generalize hr0 : (if y.right = true then (0 : Int) else 2) = r0
  have hb0 : y.right = false → r0 = 2 := fun h => by rw [← hr0, if_neg (by rw [h]; decide)]
  unfold Yard.right at hb0 hr0
  refine ct_of (n := 29) Tryz.func73 rfl rfl (len rfl) fun hr w0 => ?_
  refine cS (cR (st_bx rfl rfl fun b1 => ?_))
  refine sV (vA rfl) (sN (nK [1, 2] rfl (nT (cS (cS (cR (sV (vF rfl fa27_0 rfl) (sV (v_ldy rfl ld22) ?_))))))))
  refine sV (vF rfl fa27_1 rfl) (sV (v_ldy rfl ld25) ?_)
  refine sV (v_len rfl Tryz.underlying25) (st_clr rfl rfl en18 rfl (rcheck_ct hj hfj (by unfold I64; omega)) ?_)
  refine sV (v_neq rfl rfl) (sN (nK [1, 2, 11] rfl (nT (cC rfl (fun hc => ?_) (fun hc => ?_)))))
  · skip
    have hc' : decide (check y.jobs y.procs.length = 0) = false := by simpa using hc
    obtain rfl := hb0 (by rw [hc']; rfl)
    refine cS (cR (sV (vA rfl) (sN (nK [2] rfl (nT (cT (xR ?_)))))))
    exact xt_rt rfl ⟨rfl, rfl⟩ (by (repeat (refine Sub.sel (by repeat (first | exact Sel.here | apply Sel.there)) ?_)); (repeat apply Sub.cons); first | exact Sub.refl _ | exact Sub.nil _)
  · skip
    have hc' : check y.jobs y.procs.length = 0 := by simpa using hc
    rw [show decide (check y.jobs y.procs.length = 0) = true by simp [hc'], Bool.true_and] at hb0 hr0
    refine cK (xT (cS (cS (cR (sV (vA rfl) (sN (nK [1, 2, 3] rfl (nT (cd_block (cd_lq (σ := Nat) (fun i => [(1, .pointer (some ⟨b1, 0, none⟩)), (3, .int .i64 (i : Nat))]) (fun _ => pt b1 (cl [.slice aj y.jobs.length cj, .slice ap y.procs.length cp] 27) :: S :: hr) (fun i => i ≤ y.procs.length ∧ ∀ k, k < i → (y.pr k).right k y = true) (fun i => y.procs.length - i) 0 ⟨Nat.zero_le _, fun j hj => by omega⟩ ?_))))))))))
    rintro i ⟨hi, hall⟩
    refine cS (cS (cR (sV (vM rfl) (sV (vF rfl fa27_1 rfl) (sV (v_ldy rfl ld25) ?_)))))
    refine sV (v_len rfl Tryz.underlying25) (sV (v_lss rfl rfl) (sN (nK [1, 3, 16] rfl (nT (cC rfl (fun hd => ?_) (fun hd => ?_))))))
    · skip
      have hlt : i < y.procs.length := by simpa using hd
      obtain ⟨b, off, cp2, us, hv2, hus, hrd, hX⟩ := hp.at (List.getElem?_eq_getElem hlt)
      refine cK (xT (cS (cd_block (cS (cd_drawh (ork [(0, 2), (1, 1), (2, 2), (3, 2), (4, 1), (5, 2), (6, 1), (7, 1), (8, 2)] .nil) (fun _ => true) mixed (by kernel_rfl) ?_)))))
      refine dV rfl (vF rfl fa27_1 rfl) (dr_v rfl (v_ldy rfl ld25) ?_)
      refine dV rfl (vM rfl) (dV rfl (v_indexAddr (k := i) (congrArg some hv2) rfl sl25 rfl hlt rfl) (dr_v rfl (v_ldn rfl ld77 hus hrd) ?_))
      refine dV rfl (vM rfl) (dr_v rfl (v_ldn rfl ld27 rfl rds_pt) ?_)
      refine dr_clr rfl rfl rfl en113 rfl (rright_ct hX hy (hfpp _ (List.getElem_mem hlt)) hnj hfp) ?_
      refine dV rfl (vA rfl) (dr_nil (nK [1, 3, 4] rfl (nT (cS (cR (sV (vM rfl) (sV (v_not rfl) (sN (nK [1, 3, 28] rfl (nT (cC rfl (fun hq => ?_) (fun hq => ?_))))))))))))
      · skip
        obtain rfl := hb0 (right_bad hlt (by simpa using hq))
        refine cS (cR (sV (vA rfl) (sN (nK [2] rfl (nT (cT (xt_ret_block (xR (xR (xt_ret_block (xR ?_)))))))))))
        exact xt_rt rfl ⟨rfl, rfl⟩ (by (repeat (refine Sub.sel (by repeat (first | exact Sel.here | apply Sel.there)) ?_)); (repeat apply Sub.cons); first | exact Sub.refl _ | exact Sub.nil _)
      · skip
        refine cK (xB (xT (cR (sV (vM rfl) (sV (v_add rfl rfl (by unfold I64 at *; omega)) (sV (vA rfl) (sN (nK [1, 3] rfl (nx_xt (xt_aq (i + 1) ⟨hlt, fun k hk => ?_⟩ (by show _ - _ < _ - _; omega)))))))))))
        by_cases hki : k = i
        · subst hki; rw [pr_get hlt]; simpa using hq
        · exact hall k (by omega)
    · skip
      have hin : i = y.procs.length := by have : ¬ i < y.procs.length := by simpa using hd
                                          omega
      rw [if_pos (List.all_eq_true.2 fun k hk => hall k (by rw [hin]; simpa using hk))] at hr0
      subst hr0
      refine cd_exit (xE (xE (xt_exit_block (xT (cS (cR (sV (vA rfl) (sN (nK [2] rfl (nT (cT ?_)))))))))))
      exact xt_rt rfl ⟨rfl, rfl⟩ (by (repeat (refine Sub.sel (by repeat (first | exact Sel.here | apply Sel.there)) ?_)); (repeat apply Sub.cons); first | exact Sub.refl _ | exact Sub.nil _)
theorem openedE_one (y : Yard) (spot : Int) : openedE y [spot] = if y.right = true then (if within spot 0 ((y.procs.length : Int) - 1) = true then 0 else 1) else 2 := by
  unfold openedE firstE
  cases y.right <;> cases hw : within spot 0 ((y.procs.length : Int) - 1) <;> simp [hw]
set_option maxRecDepth 100000 in
theorem rspotted_ct {ys : List Value} {y : Yard} (hy : yardR S ys y) (hf : Fit y) (spot : Int) : Reads Tryz.prog 69 #[.agg ys.toArray, .int .i64 spot] [S] (.int .i64 (openedE y [spot])) := by
  obtain ⟨jv, pv, rfl, hj, hp⟩ := id hy
  obtain ⟨ap, cp, rfl, _⟩ := id hp
  have hnp := hf.2.1
  generalize hr0 : openedE y [spot] = r0
  rw [openedE_one] at hr0
  refine ct_of (n := 20) Tryz.func69 rfl rfl (len rfl) fun hr w0 => ?_
  refine cS (cR (st_bx rfl rfl fun b2 => ?_))
  refine sV (vA rfl) (sN (nK [1, 2, 4] rfl (nT (cS (cR (sV (v_ldn rfl ld27 rfl rds_pt) ?_))))))
  refine st_clr rfl rfl en73 rfl (rRight_ct hy hf) ?_
  generalize he : (if y.right = true then (0 : Int) else 2) = e
  refine sV (vA rfl) (sN (nK [1, 2, 4, 5] rfl (nT (cS (cS (cR (sV (vM rfl) (sV (v_eql rfl rfl) (sV (vM rfl) (st_cut (k := 11) (d := 18) (v := .bool ((e == 0) && !within spot 0 ((y.procs.length : Int) - 1))) (fun hcut => bool_want (b := (e == 0)) true (fun hg => ?_) (fun hg => ?_)) ?_))))))))))
  · refine st_sk rfl rfl hg ?_
    refine st_sk rfl rfl hg ?_
    refine st_sk rfl rfl hg ?_
    refine st_sk rfl rfl hg ?_
    refine st_sk rfl rfl hg ?_
    refine st_sk rfl rfl hg ?_
    refine st_sk rfl rfl hg ?_
    refine sV (vP (bool_ev rfl hg) rfl) ?_
    exact hcut _ (ssub_head (by first | rfl | (rw [hg]; rfl) | simp_all) (uS rfl (uS rfl (uS rfl (uS rfl (uS rfl (uS rfl (uS rfl (ssub_refl)))))))))
  · skip
    refine st_vg rfl (bG rfl hg) (vM rfl) (st_vg rfl (bG rfl hg) (vF rfl fa27_1 rfl) (st_vg rfl (bG rfl hg) (v_ldy rfl ld25) ?_))
    refine st_vg rfl (bG rfl hg) (v_len rfl Tryz.underlying25) (st_vg rfl (bG rfl hg) (v_sub rfl rfl (by unfold I64 at *; omega)) (st_clrg rfl (bG rfl hg) rfl rfl en89 rfl (in_ct spot 0 ((y.procs.length : Int) - 1)) ?_))
    refine st_vg rfl (bG rfl hg) (v_not rfl) (sV (v_pick_true (bool_ev rfl hg) rfl) ?_)
    exact hcut _ (ssub_head (by first | rfl | (rw [hg]; rfl) | simp_all) (uS rfl (uS rfl (uS rfl (uS rfl (uS rfl (uS rfl (uS rfl (ssub_refl)))))))))
  refine sN (nK [4, 5, 18] rfl (nT (cC rfl (fun hq => ?_) (fun hq => ?_))))
  · skip
    have h1 : r0 = 1 := by
      simp only [Bool.and_eq_true, beq_iff_eq, Bool.not_eq_true'] at hq
      have hyr : y.right = true := by
        cases hyr : y.right with
        | true => rfl
        | false => rw [hyr, if_neg (by decide)] at he; omega
      rw [← hr0, if_pos hyr, if_neg (by rw [hq.2]; decide)]
    subst h1
    refine cR (sV (vA rfl) (sN (nK [4, 5] rfl (nT (cS (cR (sV (vM rfl) (sV (vA rfl) (sN (nK [4] rfl (nT (cT ?_))))))))))))
    exact xt_rt rfl ⟨rfl, rfl⟩ (by (repeat (refine Sub.sel (by repeat (first | exact Sel.here | apply Sel.there)) ?_)); (repeat apply Sub.cons); first | exact Sub.refl _ | exact Sub.nil _)
  · skip
    have h1 : r0 = e := by
      rw [← hr0, ← he]
      cases hyr : y.right with
      | true =>
        rw [hyr, if_pos rfl] at he
        subst he
        have hw : within spot 0 ((y.procs.length : Int) - 1) = true := by simpa using hq
        rw [hw]; rfl
      | false => rfl
    subst h1
    refine cK (xT (cS (cR (sV (vM rfl) (sV (vA rfl) (sN (nK [4] rfl (nT (cT ?_)))))))))
    exact xt_rt rfl ⟨rfl, rfl⟩ (by (repeat (refine Sub.sel (by repeat (first | exact Sel.here | apply Sel.there)) ?_)); (repeat apply Sub.cons); first | exact Sub.refl _ | exact Sub.nil _)
set_option maxRecDepth 100000 in
theorem rstate_ct {jv pv : Value} {procs : List Proc} {i : Nat} (hp : Row S 9 (procR S) pv procs) (hi : i < procs.length) (hw : (procs[i]).job < 0 → (procs[i]).waits < 0) (hj1 : jv.oneCell' = true) : Reads Tryz.prog 70 #[.agg #[jv, pv], .int .i64 i] [S] (.int .i64 (procs[i]).state) := by
  obtain ⟨b, off, cp2, us, rfl, hus, hrd, lv, pv', hv, dv, rfl, hL, hP, hH, hD⟩ := hp.at (List.getElem?_eq_getElem hi)
  obtain ⟨al, cl', rfl, _⟩ := id hL
  obtain ⟨ap', cp', rfl, _⟩ := id hP
  obtain ⟨ah, ch', rfl, _⟩ := id hH
  obtain ⟨ad, cd', rfl, _⟩ := id hD
  generalize hpe : procs[i] = p at *
  generalize hst : p.state = st
  unfold Proc.state at hst
  refine ct_of (n := 35) Tryz.func70 rfl rfl (len rfl) fun hr w0 => ?_
  refine cS (cR (st_bx rfl rfl fun b2 => ?_))
  refine sV (vA rfl) (sN (nK [1, 2, 4] rfl (nT (cS (cR (sV (vF rfl fa27_1 rfl) (sV (v_ldy rfl ld25) ?_)))))))
  refine sV (vM rfl) (sV (v_indexAddr (k := i) rfl rfl sl25 rfl hi rfl) (sV (v_ldn rfl ld77 hus hrd) ?_))
  refine st_alc al77 fun b5 => ?_
  refine st_stoW rfl rfl sz77 rfl rfl ?_
  refine sN (nK [4, 5] rfl (nT (cS (cS (cR (sV (vF rfl fa77_6 rfl) (sV (v_ldy rfl ld3) ?_)))))))
  refine sV (v_geq rfl rfl) (sN (nK [4, 5, 13] rfl (nT (cC rfl (fun h1 => ?_) (fun h1 => ?_)))))
  · skip
    refine cS (cR (sV (vA rfl) (sN (nK [4] rfl (nT (cT (xR ?_)))))))
    have hj0 : 0 ≤ p.job := by
      have h1' := of_decide_eq_true h1
      rcases Int.lt_or_le p.job 0 with h | h
      · have := hw h; omega
      · exact h
    rw [if_pos ⟨hj0, of_decide_eq_true h1⟩] at hst
    subst hst
    exact xt_rt rfl ⟨rfl, rfl⟩ (by (repeat (refine Sub.sel (by repeat (first | exact Sel.here | apply Sel.there)) ?_)); (repeat apply Sub.cons); first | exact Sub.refl _ | exact Sub.nil _)
  · skip
    have h1' : ¬(0 ≤ p.job ∧ 0 ≤ p.waits) := fun h => by rw [decide_eq_true h.2] at h1; cases h1
    rw [if_neg h1'] at hst
    refine cK (xT (cS (cS (cR (sV (vF rfl fa77_2 rfl) (sV (v_ldy rfl ld3) ?_))))))
    refine sV (v_geq rfl rfl) (sN (nK [4, 5, 16] rfl (nT (cC rfl (fun h2 => ?_) (fun h2 => ?_)))))
    · skip
      refine cS (cR (sV (vA rfl) (sN (nK [4] rfl (nT (cT (xR ?_)))))))
      rw [if_pos (by simpa using h2)] at hst
      subst hst
      exact xt_rt rfl ⟨rfl, rfl⟩ (by (repeat (refine Sub.sel (by repeat (first | exact Sel.here | apply Sel.there)) ?_)); (repeat apply Sub.cons); first | exact Sub.refl _ | exact Sub.nil _)
    · skip
      rw [if_neg (by simpa using h2)] at hst
      refine cK (xT (cS (cS (cR (sV (vF rfl fa77_0 rfl) (sV (v_ldy rfl ld73) ?_))))))
      refine sV (v_len rfl Tryz.underlying73) (sV (v_eql rfl rfl) (sN (nK [4, 5, 20] rfl (nT ?_))))
      obtain ⟨lines, puts, job, pc, waited, holds, waits, made, did⟩ := p
      simp only at *
      cases lines with
      | nil =>
        refine cC rfl (fun h3 => ?_) (fun h3 => ?_)
        · skip
          refine cS (cR (sV (vA rfl) (sN (nK [4] rfl (nT (cT (xR ?_)))))))
          obtain rfl : 5 = st := hst
          exact xt_rt rfl ⟨rfl, rfl⟩ (by (repeat (refine Sub.sel (by repeat (first | exact Sel.here | apply Sel.there)) ?_)); (repeat apply Sub.cons); first | exact Sub.refl _ | exact Sub.nil _)
        · skip
          exact absurd h3 (by decide)
      | cons l ls =>
        obtain ⟨b2, o2, cp3, us2, hv2, hus2, hrd2, av, rfl, hA⟩ := hL.at (show (l :: ls)[0]? = some l from rfl)
        obtain ⟨aa, ca, rfl, _⟩ := id hA
        cases hv2
        refine cC rfl (fun h3 => ?_) (fun h3 => ?_)
        · skip
          exact absurd h3 (by simp; omega)
        · skip
          refine cK (xT (cS (cS (cR (sV (vF rfl fa77_0 rfl) (sV (v_ldy rfl ld73) ?_))))))
          refine sV (v_indexAddr (k := 0) rfl rfl sl73 rfl (by simp) rfl) ?_
          refine sV (vF rfl fa120_1 rfl) (sV (v_ldy rfl ld118) ?_)
          refine sV (v_len rfl Tryz.underlying118) (sV (v_gtr rfl rfl) (sV (vM rfl) (st_cut (k := 14) (d := 34) (v := .bool (decide (0 < (l.asks.length : Int)) || l.closed)) (fun hcut => bool_want (b := decide (0 < (l.asks.length : Int))) false (fun hg => ?_) (fun hg => ?_)) ?_)))
          · refine st_sk rfl rfl hg ?_
            refine st_sk rfl rfl hg ?_
            refine st_sk rfl rfl hg ?_
            refine st_sk rfl rfl hg ?_
            refine st_sk rfl rfl hg ?_
            refine sV (v_pick_true (bool_ev rfl hg) rfl) ?_
            exact hcut _ (ssub_head (by first | rfl | (rw [hg]; rfl) | simp_all) (uS rfl (uS rfl (uS rfl (uS rfl (uS rfl (ssub_refl)))))))
          · skip
            refine st_vg rfl (bG rfl hg) (vF rfl fa77_0 rfl) (st_vg rfl (bG rfl hg) (v_ldy rfl ld73) ?_)
            refine st_vg rfl (bG rfl hg) (v_indexAddr (k := 0) rfl rfl sl73 rfl (by simp) rfl) ?_
            refine st_vg rfl (bG rfl hg) (vF rfl fa120_2 rfl) (st_vg rfl (bG rfl hg) (v_ldy rfl ld4) ?_)
            refine sV (vP (bool_ev rfl hg) rfl) ?_
            exact hcut _ (ssub_head (by first | rfl | (rw [hg]; rfl) | simp_all) (uS rfl (uS rfl (uS rfl (uS rfl (uS rfl (ssub_refl)))))))
          refine sN (nK [4, 34] rfl (nT ?_))
          have hcl : (l.asks ≠ [] ∨ l.closed = true) ↔ (decide (0 < (l.asks.length : Int)) || l.closed) = true := by
            cases l.asks <;> simp
          refine cC rfl (fun h4 => ?_) (fun h4 => ?_)
          · skip
            refine cS (cR (sV (vA rfl) (sN (nK [4] rfl (nT (cT (xR ?_)))))))
            obtain rfl : 2 = st := by rw [← hst]; exact (if_pos (hcl.2 h4)).symm
            exact xt_rt rfl ⟨rfl, rfl⟩ (by (repeat (refine Sub.sel (by repeat (first | exact Sel.here | apply Sel.there)) ?_)); (repeat apply Sub.cons); first | exact Sub.refl _ | exact Sub.nil _)
          · skip
            obtain rfl : 4 = st := by rw [← hst]; exact (if_neg (fun h => by rw [hcl.1 h] at h4; cases h4)).symm
            refine cK (xT (cS (cR (sV (vA rfl) (sN (nK [4] rfl (nT (cT ?_))))))))
            exact xt_rt rfl ⟨rfl, rfl⟩ (by (repeat (refine Sub.sel (by repeat (first | exact Sel.here | apply Sel.there)) ?_)); (repeat apply Sub.cons); first | exact Sub.refl _ | exact Sub.nil _)
theorem right_waits {y : Yard} (h : y.right = true) {i : Nat} (hi : i < y.procs.length) : (y.procs[i]).job < 0 → (y.procs[i]).waits < 0 := fun hj => by
  have hr := right_pr h hi
  rw [right_g] at hr
  simp only [Bool.and_eq_true, Bool.not_eq_true'] at hr
  have h2 := hr.1.1.2
  unfold Proc.g2 at h2
  simp only [Bool.or_eq_false_iff, Bool.and_eq_false_iff, decide_eq_false_iff_not] at h2
  omega
set_option maxRecDepth 100000 in
theorem rState_ct {ys : List Value} {y : Yard} (hy : yardR S ys y) (hf : Fit y) (spot : Int) : Reads Tryz.prog 21 #[.agg ys.toArray, .int .i64 spot] [S] (.agg #[.int .i64 (stateE y spot).1, .int .i64 (stateE y spot).2]) := by
  obtain ⟨jv, pv, rfl, hj, hp⟩ := id hy
  obtain ⟨aj, cj, rfl, _⟩ := id hj
  unfold stateE
  refine ct_of (n := 17) Tryz.func21 rfl rfl (len rfl) fun hr w0 => ?_
  refine cS (cR (st_bx rfl rfl fun b2 => ?_))
  refine st_alc al41 fun b4 => ?_
  refine sN (nK [1, 2, 4] rfl (nT (cS (cR (sV (v_ldn rfl ld27 rfl rds_pt) ?_)))))
  refine sV (vM rfl) (st_clr rfl rfl en69 rfl (rspotted_ct hy hf spot) ?_)
  refine sV (vA rfl) (sN (nK [1, 2, 4, 5] rfl (nT (cS (cS (cR (sV (vM rfl) (sV (v_neq rfl rfl) (sN (nK [1, 2, 4, 5, 10] rfl (nT (cC rfl (fun h1 => ?_) (fun h1 => ?_)))))))))))))
  · skip
    rw [if_neg (by simpa using h1)]
    generalize openedE y [spot] = e at *
    refine cS (cR (sV (vM rfl) (sV (v_build (cells := [.int .i64 0, .int .i64 e]) rfl (fun _ => by kernel_rfl)) ?_)))
    refine st_stoW rfl rfl sz41 rfl rfl ?_
    refine sN (nK [4] rfl (nT (cT (xR ?_))))
    exact xt_retV (.cellN rfl ld41 rfl (by repeat (first | exact Sel.here | apply Sel.there)) .nil) ⟨rfl, rfl⟩ (by repeat (first | exact Sub.refl _ | exact Sub.nil _ | refine Sub.sel (by repeat (first | exact Sel.here | apply Sel.there)) ?_ | apply Sub.cons))
  · skip
    have h1' : openedE y [spot] = 0 := by simpa using h1
    rw [if_pos h1']
    obtain ⟨hyr, hsp⟩ := openedE_zero h1'
    obtain ⟨hs0, hs1⟩ := hsp spot (by simp)
    obtain ⟨i, rfl⟩ := Int.eq_ofNat_of_zero_le hs0
    rw [Int.toNat_natCast] at hs1 ⊢
    refine cK (xT (cS (cR (sV (v_ldn rfl ld27 rfl rds_pt) ?_))))
    refine sV (vM rfl) (st_clr rfl rfl en70 rfl (rstate_ct hp hs1 (right_waits hyr hs1) rfl) ?_)
    rw [pr_get hs1]
    generalize (y.procs[i]).state = st
    refine sV (v_build (cells := [.int .i64 st, .int .i64 0]) rfl (fun _ => by kernel_rfl)) ?_
    refine st_stoW rfl rfl sz41 rfl rfl ?_
    refine sN (nK [4] rfl (nT (cT ?_)))
    exact xt_retV (.cellN rfl ld41 rfl (by repeat (first | exact Sel.here | apply Sel.there)) .nil) ⟨rfl, rfl⟩ (by repeat (first | exact Sub.refl _ | exact Sub.nil _ | refine Sub.sel (by repeat (first | exact Sel.here | apply Sel.there)) ?_ | apply Sub.cons))
set_option maxRecDepth 100000 in
theorem rEnded_ct {ys : List Value} {y : Yard} (hy : yardR S ys y) (hf : Fit y) : Reads Tryz.prog 25 #[.agg ys.toArray] [S] (.agg #[.bool (endedE y).1, .int .i64 (endedE y).2]) := by
  obtain ⟨jv, pv, rfl, hj, hp⟩ := id hy
  obtain ⟨aj, cj, rfl, _⟩ := id hj
  obtain ⟨ap, cp, rfl, _⟩ := id hp
  have hnp := hf.2.1
  unfold endedE
  refine ct_of (n := 24) Tryz.func25 rfl rfl (len rfl) fun hr w0 => ?_
  refine cS (cR (st_bx rfl rfl fun b1 => ?_))
  refine st_alc al52 fun b2 => ?_
  refine sN (nK [1, 2] rfl (nT (cS (cR (sV (v_ldn rfl ld27 rfl rds_pt) ?_)))))
  refine st_clr rfl rfl en73 rfl (rRight_ct hy hf) ?_
  refine sV (vA rfl) (sN (nK [1, 2, 3] rfl (nT (cS (cS (cR (sV (vM rfl) (sV (v_neq rfl rfl) (sN (nK [1, 2, 3, 8] rfl (nT (cC rfl (fun h1 => ?_) (fun h1 => ?_)))))))))))))
  · skip
    have hyr : y.right = false := by
      cases hyr : y.right with
      | false => rfl
      | true => rw [hyr] at h1; cases h1
    rw [hyr]
    refine cS (cR (sV (vM rfl) (sV (v_build (cells := [.bool false, .int .i64 2]) rfl (fun _ => by kernel_rfl)) ?_)))
    refine st_stoW rfl rfl sz52 rfl rfl ?_
    refine sN (nK [2] rfl (nT (cT (xR ?_))))
    exact xt_retV (.cellN rfl ld52 rfl (by repeat (first | exact Sel.here | apply Sel.there)) .nil) ⟨rfl, rfl⟩ (by repeat (first | exact Sub.refl _ | exact Sub.nil _ | refine Sub.sel (by repeat (first | exact Sel.here | apply Sel.there)) ?_ | apply Sub.cons))
  · skip
    have hyr : y.right = true := by
      cases hyr : y.right with
      | true => rfl
      | false => rw [hyr] at h1; cases h1
    rw [if_pos hyr]
    refine cK (xT (cS (cS (cR (sV (vA rfl) (sN (nK [1, 2, 4] rfl (nT (cd_block ?_)))))))))
    generalize hr0 : ((List.range y.procs.length).all fun i => (y.pr i).state == 5) = r0
    refine cd_lq (σ := Nat) (fun i => [(1, .pointer (some ⟨b1, 0, none⟩)), (2, .pointer (some ⟨b2, 0, none⟩)), (4, .int .i64 (i : Nat))]) (fun _ => pt b2 (cl [.bool false, .int .i64 0] 52) :: pt b1 (cl [.slice aj y.jobs.length cj, .slice ap y.procs.length cp] 27) :: S :: hr) (fun i => i ≤ y.procs.length ∧ ∀ k, k < i → ((y.pr k).state == 5) = true) (fun i => y.procs.length - i) 0 ⟨Nat.zero_le _, fun j hj => by omega⟩ ?_
    rintro i ⟨hi, hall⟩
    refine cS (cS (cR (sV (vM rfl) (sV (vF rfl fa27_1 rfl) (sV (v_ldy rfl ld25) ?_)))))
    refine sV (v_len rfl Tryz.underlying25) (sV (v_lss rfl rfl) (sN (nK [1, 2, 4, 15] rfl (nT (cC rfl (fun hd => ?_) (fun hd => ?_))))))
    · skip
      have hlt : i < y.procs.length := by simpa using hd
      refine cK (xT (cS (cd_block (cS (cR (sV (v_ldn rfl ld27 rfl rds_pt) ?_))))))
      refine sV (vM rfl) (st_clr rfl rfl en70 rfl (rstate_ct hp hlt (right_waits hyr hlt) rfl) ?_)
      refine sV (v_neq rfl rfl) (sN (nK [1, 2, 4, 21] rfl (nT (cC rfl (fun hq => ?_) (fun hq => ?_)))))
      · skip
        have h0 : r0 = false := by
          rw [← hr0, List.all_eq_false]
          exact ⟨i, by simpa using hlt, by rw [pr_get hlt]; simpa using hq⟩
        subst h0
        refine cS (cR (sV (v_build (cells := [.bool false, .int .i64 0]) rfl (fun _ => by kernel_rfl)) ?_))
        refine st_stoW rfl rfl sz52 rfl rfl ?_
        refine sN (nK [2] rfl (nT (cT (xt_ret_block (xR (xR (xt_ret_block (xR ?_))))))))
        exact xt_retV (.cellN rfl ld52 rfl (by repeat (first | exact Sel.here | apply Sel.there)) .nil) ⟨rfl, rfl⟩ (by repeat (first | exact Sub.refl _ | exact Sub.nil _ | refine Sub.sel (by repeat (first | exact Sel.here | apply Sel.there)) ?_ | apply Sub.cons))
      · skip
        refine cK (xB (xT (cR (sV (vM rfl) (sV (v_add rfl rfl (by unfold I64 at *; omega)) (sV (vA rfl) (sN (nK [1, 2, 4] rfl (nx_xt (xt_aq (i + 1) ⟨hlt, fun k hk => ?_⟩ (by show _ - _ < _ - _; omega)))))))))))
        by_cases hki : k = i
        · subst hki; rw [pr_get hlt]; simpa using hq
        · exact hall k (by omega)
    · skip
      have hin : i = y.procs.length := by have : ¬ i < y.procs.length := by simpa using hd
                                          omega
      have h0 : r0 = true := by
        rw [← hr0]
        exact List.all_eq_true.2 fun k hk => hall k (by rw [hin]; simpa using hk)
      subst h0
      refine cd_exit (xE (xE (xt_exit_block (xT (cS (cR (sV (v_build (cells := [.bool true, .int .i64 0]) rfl (fun _ => by kernel_rfl)) ?_)))))))
      refine st_stoW rfl rfl sz52 rfl rfl ?_
      refine sN (nK [2] rfl (nT (cT ?_)))
      exact xt_retV (.cellN rfl ld52 rfl (by repeat (first | exact Sel.here | apply Sel.there)) .nil) ⟨rfl, rfl⟩ (by repeat (first | exact Sub.refl _ | exact Sub.nil _ | refine Sub.sel (by repeat (first | exact Sel.here | apply Sel.there)) ?_ | apply Sub.cons))
end
end Go.Wt
