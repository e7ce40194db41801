/-
  HeirProofs. Conditions: what is read, how many parents there are.
  What the arguments of the laws read as: systems of classes, names. No condition.
-/
import Derived.Test.YtjgiaohieadeiaaM11
import Derived.Test.YtjgiaohieadeiaaM9
import Derived.Test.YtjgiaohieadeiaaM5
import Derived.Test.YtjgiaohieadeiaaM4
import Derived.JoinedCond
set_option linter.unusedVariables false
set_option linter.unusedSimpArgs false
namespace Go.Hr
open Go Go.RowKit Go.Ck Go.Proofs Go.Proofs.Ytjgiaohieadeiaa Fx
attribute [local irreducible] Go.Ck.Sub St Cd Xt Nx DrL LsW
theorem alone_ne7 {l : Sys} {i : Nat} {x : Cls} : alone l i x ≠ 7 := by
  unfold alone
  split
  · decide
  · split
    · decide
    · split <;> decide
theorem check_seven {l : Sys} (h : (check l).1 = 7) : ∃ r, ring l = some r ∧ (check l).2 = r.headD [] := by
  unfold check at h ⊢
  split at h
  · cases h
  · rename_i h24
    rw [if_neg h24]
    split at h
    · rename_i e he
      have := List.mem_of_find?_eq_some he
      obtain ⟨q, _, rfl⟩ := List.mem_map.1 this
      exact absurd h alone_ne7
    · rename_i hn
      split at h
      · cases h
      · rename_i hn2
        split at h
        · rename_i r hr
          exact ⟨r, hr, rfl⟩
        · cases h
theorem check_ring0 {l : Sys} {r : List Nm} (h : ring l = some r) : (check l).1 ≠ 0 := fun e => by
  rw [ring_none.2 (check_zero.1 e).acyc] at h; cases h
theorem ringC_ring {l : Sys} {r : List Nm} (h24 : l.length ≤ 24) (h : ring l = some r) : ringC l r = 0 := by
  obtain ⟨h1, h2⟩ := ring_ok h
  unfold ringC
  rw [if_neg (by omega), if_pos h1]
theorem ringC_zero {l : Sys} {ns : List Nm} (h : ringC l ns = 0) : ∃ q, ring l = some q ∧ q.length ≤ ns.length := by
  unfold ringC at h
  split at h
  · cases h
  · split at h
    · rename_i h2; exact ringOk_ring h2
    · cases h
theorem wayC_short {l : Sys} (hR : Right l) {c d : Nm} (hc : isC l c = true) (hd : isC l d = true) (h : has l c d = true) : wayC l c d (shortR l d c) = 0 := by
  unfold wayC
  rw [if_pos (right2 hR hc hd)]
  unfold has at h
  unfold shortR
  cases hk : dist l d c with
  | none => rw [hk] at h; cases h
  | some k => rw [if_pos (wayOk_iff.2 (short_way l d k c hk))]
theorem wayC_zero {l : Sys} (hR : Right l) {c d : Nm} {ns : List Nm} (hc : isC l c = true) (hd : isC l d = true) (h : wayC l c d ns = 0) : has l c d = true ∧ (shortR l d c).length ≤ ns.length := by
  unfold wayC at h
  rw [if_pos (right2 hR hc hd)] at h
  split at h
  · rename_i h2
    obtain ⟨k, h3, h4⟩ := wayOk_len h2
    unfold has shortR
    rw [h3]
    exact ⟨rfl, by rw [short_len]; exact h4⟩
  · cases h
section
variable {S N : Res} {v nv : Value} {l : Sys} {ns : List Nm}
set_option maxHeartbeats 2000000 in
set_option maxRecDepth 100000 in
theorem heirProofs_ct (hv : sysR S v l) (hp : ∀ x ∈ l, x.parents.length ≤ 1099511627776) {i j : Nat} (hi : i ≤ 255) (hj : j ≤ 255) (hn : nmsR S nv ns) : Ct Try.prog 13 #[v, .int .u8 (i : Int), .int .u8 (j : Int), nv] [S] fun u h' => u = .bool true ∧ h' = [S] := by
  obtain ⟨la, cap, rfl, _⟩ := id hv
  obtain ⟨na, ncap, rfl, hncl, _⟩ := id hn
  refine ct_of (n := 145) Try.func13 rfl rfl (len rfl) fun hr w0 => ?_
  refine cd_seq (cd_region (st_v (v_assign rfl) (st_nil (nx_then (cd_seq (cd_seq (cd_region (st_v (v_move rfl) (st_v (v_len rfl Try.underlying22) (st_v (v_eql rfl rfl) (st_v (v_move rfl) (st_cut (k := 8) (d := 24) (v := .bool (((l.length : Int) == 0) || decide (24 < (l.length : Int)))) (fun hcut => bool_want (b := ((l.length : Int) == 0)) false (fun hg => ?_) (fun hg => ?_)) ?_))))))))))))
  · refine st_sk rfl rfl hg ?_
    refine st_sk rfl rfl hg ?_
    refine st_sk rfl rfl hg ?_
    refine st_v (v_pick_true (bool_ev rfl hg) rfl) ?_
    exact hcut _ (ssub_head (by first | rfl | (rw [hg]; rfl) | simp_all) (ssub_skip rfl (ssub_skip rfl (ssub_skip rfl (ssub_refl)))))
  · skip
    refine st_vg rfl (bool_get rfl hg) (v_move rfl) (st_vg rfl (bool_get rfl hg) (v_len rfl Try.underlying22) (st_vg rfl (bool_get rfl hg) (v_gtr rfl rfl) (st_v (v_pick_false (bool_ev rfl hg) rfl) ?_)))
    exact hcut _ (ssub_head (by first | rfl | (rw [hg]; rfl) | simp_all) (ssub_skip rfl (ssub_skip rfl (ssub_skip rfl (ssub_refl)))))
  refine st_v (v_move rfl) (st_cut (k := 13) (d := 29) (v := .bool ((((l.length : Int) == 0) || decide (24 < (l.length : Int))) || decide (40 < (ns.length : Int)))) (fun hcut => bool_want (b := (((l.length : Int) == 0) || decide (24 < (l.length : Int)))) false (fun hg => ?_) (fun hg => ?_)) ?_)
  · refine st_sk rfl rfl hg ?_
    refine st_sk rfl rfl hg ?_
    refine st_sk rfl rfl hg ?_
    refine st_v (v_pick_true (bool_ev rfl hg) rfl) ?_
    exact hcut _ (ssub_head (by first | rfl | (rw [hg]; rfl) | simp_all) (ssub_skip rfl (ssub_skip rfl (ssub_skip rfl (ssub_refl)))))
  · skip
    refine st_vg rfl (bool_get rfl hg) (v_move rfl) (st_vg rfl (bool_get rfl hg) (v_len rfl Try.underlying25) (st_vg rfl (bool_get rfl hg) (v_gtr rfl rfl) (st_v (v_pick_false (bool_ev rfl hg) rfl) ?_)))
    exact hcut _ (ssub_head (by first | rfl | (rw [hg]; rfl) | simp_all) (ssub_skip rfl (ssub_skip rfl (ssub_skip rfl (ssub_refl)))))
  refine st_nil (nx_kp [0, 1, 2, 3, 8, 29] rfl (nx_then (cd_cond rfl (fun hrg => ?_) (fun hrg => ?_))))
  · skip
    refine cd_seq (cd_region (st_clr rfl rfl en15 rfl (sanityR) ?_))
    refine st_v (v_assign rfl) (st_nil (nx_kp [8] rfl (nx_then (cd_ret (xt_ret_then (xt_law rfl ?_))))))
    refine Sub.sel (by repeat (first | exact Sel.here | apply Sel.there)) ?_
    repeat apply Sub.cons
    exact Sub.refl _
  · skip
    obtain ⟨hr1, hr2⟩ := Bool.or_eq_false_iff.1 hrg
    obtain ⟨hr3, hr4⟩ := Bool.or_eq_false_iff.1 hr1
    have hnl : ns.length ≤ 40 := by have := of_decide_eq_false hr2; omega
    have h24 : l.length ≤ 24 := by have := of_decide_eq_false hr4; omega
    have h0 : 0 < l.length := by
      have : ¬ (l.length : Int) = 0 := by simpa using hr3
      omega
    have hF : Fine l := ⟨by omega, hp⟩
    refine cd_skip (xt_then (cd_seq (cd_region (st_v (v_move rfl) (st_cl rfl rfl en46 rfl (Check_ct hv) ?_)))))
    rintro u h' ⟨rfl, rfl⟩
    simp only [List.cons_append, List.nil_append]
    refine st_v (v_move rfl) (st_v (v_extract rfl rfl) (st_v (v_extract rfl rfl) (st_v (v_assign rfl) (st_v (v_assign rfl) (st_nil (nx_kp [0, 1, 2, 3, 8, 9, 10] rfl (nx_then (cd_seq (cd_region (st_v (v_move rfl) (st_cl rfl rfl en47 rfl (Ring_ct hv hF) ?_)))))))))))
    rintro u h' ⟨T, rfl, w, rfl, hw, rfl⟩
    simp only [List.cons_append, List.nil_append]
    have hsev := @check_seven l
    have hrz := @ringC_zero l ns
    cases hring : ring l with
    | some r =>
      obtain ⟨hrok, hrl⟩ := ring_ok hring
      have hc0 := check_ring0 hring
      have hcr := ringC_ring h24 hring
      have hcz : ((check l).1 == 0) = false := by simpa using hc0
      rw [show (some r).isSome = true from rfl, show (some r).getD [] = r from rfl]
      refine st_ok (r := NR w r) (by repeat (first | exact Sel.here | apply Sel.there)) fun hok => ?_
      have hno := nms_own hok
      refine st_v (v_move rfl) (st_v (v_extract rfl rfl) (st_v (v_extract rfl rfl) (st_v (v_assign rfl) (st_v (v_assign rfl) (st_nil (nx_kp [0, 1, 2, 3, 8, 9, 10, 11, 12] rfl (nx_then (cd_seq (cd_seq (cd_region (st_v (v_move rfl) (st_v (v_move rfl) (st_vg rfl rfl (v_move rfl) (st_vg rfl rfl (v_move rfl) (st_grd rfl rfl (st_cl rfl rfl en48 rfl (CheckRing_ct hv hp hno (by omega)) ?_))))))))))))))))
      rintro u h' ⟨rfl, rfl⟩
      simp only [List.cons_append, List.nil_append]
      rw [hcr]
      refine st_vg rfl rfl (v_neq rfl rfl) (st_vg rfl rfl (v_move rfl) (st_vg rfl rfl (v_move rfl) (st_vg rfl rfl (v_eql rfl rfl) (st_vg rfl rfl (v_pick_false rfl rfl) (st_v (v_pick_true rfl rfl) (st_v (v_move rfl) ?_))))))
      rw [hcz]
      refine st_vg rfl rfl (v_move rfl) (st_vg rfl rfl (v_eql rfl rfl) (st_vg rfl rfl (v_move rfl) ?_))
      by_cases h7 : (check l).1 = 7
      · skip
        obtain ⟨r2, g1, g2⟩ := hsev h7
        rw [hring] at g1
        cases g1
        have hrne : r ≠ [] := fun e => by rw [e] at hrok; simp [ringOk] at hrok
        have hr0 : 0 < r.length := List.length_pos_iff.2 hrne
        obtain ⟨rb, ro, rcap, hrv, hrrd⟩ := nms_at hno (List.getElem?_eq_getElem hr0)
        have hrh : (check l).2 = r[0] := by rw [g2]; cases r with | nil => exact absurd rfl hrne | cons a t => rfl
        rw [show ((check l).1 == 7) = true by simpa using h7]
        refine st_vg rfl rfl (v_move rfl) (st_vg rfl rfl (v_not rfl) (st_vg rfl rfl (v_move rfl) (st_vg rfl rfl (v_move rfl) (st_vg rfl rfl (v_move rfl) (st_vg rfl rfl (v_indexAddr (k := 0) (congrArg some hrv) rfl sl25 rfl hr0 rfl) (st_vg rfl rfl (v_ldy rfl ld9) ?_))))))
        refine st_vg rfl rfl (v_sneq rfl rfl) (st_vg rfl rfl (v_pick_false rfl rfl) (st_vg rfl rfl (v_pick_true rfl rfl) (st_v (v_pick_false rfl rfl) (st_v (v_move rfl) ?_))))
        rw [show (!((check l).2 == r[0])) = false by rw [hrh]; simp]
        refine st_vg rfl rfl (v_move rfl) (st_vg rfl rfl (v_move rfl) (st_grd rfl rfl (st_cl rfl rfl en48 rfl (CheckRing1_ct hv hp hn (by omega)) ?_)))
        rintro u h' ⟨rfl, rfl⟩
        simp only [List.cons_append, List.nil_append]
        refine st_vg rfl rfl (v_eql rfl rfl) (st_vg rfl rfl (v_move rfl) ?_)
        by_cases hz : ringC l ns = 0
        · skip
          obtain ⟨q, g3, g4⟩ := hrz hz
          rw [hring] at g3
          cases g3
          obtain ⟨ra3, rcap3, rfl, _⟩ := id hno
          rw [show (ringC l ns == 0) = true by simpa using hz]
          refine st_vg rfl rfl (v_move rfl) (st_vg rfl rfl (v_eql rfl rfl) (st_vg rfl rfl (v_move rfl) ?_))
          rw [hcz]
          refine st_vg rfl rfl (v_move rfl) (st_vg rfl rfl (v_not rfl) (st_vg rfl rfl (v_pick_false rfl rfl) (st_vg rfl rfl (v_move rfl) (st_vg rfl rfl (v_move rfl) (st_vg rfl rfl (v_len rfl Try.underlying25) (st_vg rfl rfl (v_move rfl) (st_vg rfl rfl (v_len rfl Try.underlying25) (st_vg rfl rfl (v_lss rfl rfl) (st_vg rfl rfl (v_pick_false rfl rfl) (st_vg rfl rfl (v_pick_true rfl rfl) (st_v (v_pick_false rfl rfl) (st_nil (nx_kp [0, 1, 2, 3, 8, 9, 87] rfl (nx_then ?_))))))))))))))
          rw [show decide ((ns.length : Int) < r.length) = false from decide_eq_false (by omega)]
          refine cd_false rfl ?_
          refine cd_skip (xt_then (cd_seq (cd_seq (cd_region (st_v (v_move rfl) (st_v (v_neq rfl rfl) (st_nil (nx_kp [0, 1, 2, 3, 8, 89] rfl (nx_then ?_)))))))))
          rw [show ((check l).1 != 0) = true by simpa using hc0]
          refine cd_true rfl ?_
          refine cd_seq (cd_region (st_clr rfl rfl en15 rfl (sanityR) ?_))
          refine st_v (v_assign rfl) (st_nil (nx_kp [8] rfl (nx_then (cd_ret (xt_ret_then (xt_law rfl ?_))))))
          refine Sub.sel (by repeat (first | exact Sel.here | apply Sel.there)) ?_
          repeat apply Sub.cons
          exact Sub.refl _
        · skip
          rw [show (ringC l ns == 0) = false by simpa using hz]
          refine st_sk rfl rfl rfl ?_
          refine st_sk rfl rfl rfl ?_
          refine st_sk rfl rfl rfl ?_
          refine st_sku rfl rfl ?_
          refine st_sku rfl rfl ?_
          refine st_sk rfl rfl rfl ?_
          refine st_sk rfl rfl rfl ?_
          refine st_sku rfl rfl ?_
          refine st_sku rfl rfl ?_
          refine st_sku rfl rfl ?_
          refine st_sku rfl rfl ?_
          refine st_sku rfl rfl ?_
          refine st_sk rfl rfl rfl ?_
          refine st_vg rfl rfl (v_pick_false rfl rfl) (st_v (v_pick_false rfl rfl) (st_nil (nx_kp [0, 1, 2, 3, 8, 9, 87] rfl (nx_then (cd_false rfl ?_)))))
          refine cd_skip (xt_then (cd_seq (cd_seq (cd_region (st_v (v_move rfl) (st_v (v_neq rfl rfl) (st_nil (nx_kp [0, 1, 2, 3, 8, 89] rfl (nx_then ?_)))))))))
          rw [show ((check l).1 != 0) = true by simpa using hc0]
          refine cd_true rfl ?_
          refine cd_seq (cd_region (st_clr rfl rfl en15 rfl (sanityR) ?_))
          refine st_v (v_assign rfl) (st_nil (nx_kp [8] rfl (nx_then (cd_ret (xt_ret_then (xt_law rfl ?_))))))
          refine Sub.sel (by repeat (first | exact Sel.here | apply Sel.there)) ?_
          repeat apply Sub.cons
          exact Sub.refl _
      · skip
        rw [show ((check l).1 == 7) = false by simpa using h7]
        refine st_sk rfl rfl rfl ?_
        refine st_sk rfl rfl rfl ?_
        refine st_sk rfl rfl rfl ?_
        refine st_sku rfl rfl ?_
        refine st_sku rfl rfl ?_
        refine st_sku rfl rfl ?_
        refine st_sku rfl rfl ?_
        refine st_sku rfl rfl ?_
        refine st_sk rfl rfl rfl ?_
        refine st_vg rfl rfl (v_pick_false rfl rfl) (st_v (v_pick_false rfl rfl) (st_v (v_move rfl) (st_vg rfl rfl (v_move rfl) (st_vg rfl rfl (v_move rfl) (st_grd rfl rfl (st_cl rfl rfl en48 rfl (CheckRing1_ct hv hp hn (by omega)) ?_))))))
        rintro u h' ⟨rfl, rfl⟩
        simp only [List.cons_append, List.nil_append]
        refine st_vg rfl rfl (v_eql rfl rfl) (st_vg rfl rfl (v_move rfl) ?_)
        by_cases hz : ringC l ns = 0
        · skip
          obtain ⟨q, g3, g4⟩ := hrz hz
          rw [hring] at g3
          cases g3
          obtain ⟨ra3, rcap3, rfl, _⟩ := id hno
          rw [show (ringC l ns == 0) = true by simpa using hz]
          refine st_vg rfl rfl (v_move rfl) (st_vg rfl rfl (v_eql rfl rfl) (st_vg rfl rfl (v_move rfl) ?_))
          rw [hcz]
          refine st_vg rfl rfl (v_move rfl) (st_vg rfl rfl (v_not rfl) (st_vg rfl rfl (v_pick_false rfl rfl) (st_vg rfl rfl (v_move rfl) (st_vg rfl rfl (v_move rfl) (st_vg rfl rfl (v_len rfl Try.underlying25) (st_vg rfl rfl (v_move rfl) (st_vg rfl rfl (v_len rfl Try.underlying25) (st_vg rfl rfl (v_lss rfl rfl) (st_vg rfl rfl (v_pick_false rfl rfl) (st_vg rfl rfl (v_pick_true rfl rfl) (st_v (v_pick_false rfl rfl) (st_nil (nx_kp [0, 1, 2, 3, 8, 9, 87] rfl (nx_then ?_))))))))))))))
          rw [show decide ((ns.length : Int) < r.length) = false from decide_eq_false (by omega)]
          refine cd_false rfl ?_
          refine cd_skip (xt_then (cd_seq (cd_seq (cd_region (st_v (v_move rfl) (st_v (v_neq rfl rfl) (st_nil (nx_kp [0, 1, 2, 3, 8, 89] rfl (nx_then ?_)))))))))
          rw [show ((check l).1 != 0) = true by simpa using hc0]
          refine cd_true rfl ?_
          refine cd_seq (cd_region (st_clr rfl rfl en15 rfl (sanityR) ?_))
          refine st_v (v_assign rfl) (st_nil (nx_kp [8] rfl (nx_then (cd_ret (xt_ret_then (xt_law rfl ?_))))))
          refine Sub.sel (by repeat (first | exact Sel.here | apply Sel.there)) ?_
          repeat apply Sub.cons
          exact Sub.refl _
        · skip
          rw [show (ringC l ns == 0) = false by simpa using hz]
          refine st_sk rfl rfl rfl ?_
          refine st_sk rfl rfl rfl ?_
          refine st_sk rfl rfl rfl ?_
          refine st_sku rfl rfl ?_
          refine st_sku rfl rfl ?_
          refine st_sk rfl rfl rfl ?_
          refine st_sk rfl rfl rfl ?_
          refine st_sku rfl rfl ?_
          refine st_sku rfl rfl ?_
          refine st_sku rfl rfl ?_
          refine st_sku rfl rfl ?_
          refine st_sku rfl rfl ?_
          refine st_sk rfl rfl rfl ?_
          refine st_vg rfl rfl (v_pick_false rfl rfl) (st_v (v_pick_false rfl rfl) (st_nil (nx_kp [0, 1, 2, 3, 8, 9, 87] rfl (nx_then (cd_false rfl ?_)))))
          refine cd_skip (xt_then (cd_seq (cd_seq (cd_region (st_v (v_move rfl) (st_v (v_neq rfl rfl) (st_nil (nx_kp [0, 1, 2, 3, 8, 89] rfl (nx_then ?_)))))))))
          rw [show ((check l).1 != 0) = true by simpa using hc0]
          refine cd_true rfl ?_
          refine cd_seq (cd_region (st_clr rfl rfl en15 rfl (sanityR) ?_))
          refine st_v (v_assign rfl) (st_nil (nx_kp [8] rfl (nx_then (cd_ret (xt_ret_then (xt_law rfl ?_))))))
          refine Sub.sel (by repeat (first | exact Sel.here | apply Sel.there)) ?_
          repeat apply Sub.cons
          exact Sub.refl _
    | none =>
      have hno7 : ¬ (check l).1 = 7 := fun e => by
        obtain ⟨r, g1, _⟩ := hsev e
        rw [hring] at g1; cases g1
      have hnz : ¬ ringC l ns = 0 := fun e => by
        obtain ⟨r, g1, _⟩ := hrz e
        rw [hring] at g1; cases g1
      rw [show (none : Option (List Nm)).isSome = false from rfl]
      refine st_v (v_move rfl) (st_v (v_extract rfl rfl) (st_v (v_extract rfl rfl) (st_v (v_assign rfl) (st_v (v_assign rfl) (st_nil (nx_kp [0, 1, 2, 3, 8, 9, 10, 11, 12] rfl (nx_then (cd_seq (cd_seq (cd_region (st_v (v_move rfl) (st_v (v_move rfl) (st_sk rfl rfl rfl ?_)))))))))))))
      refine st_sk rfl rfl rfl ?_
      refine st_sk rfl rfl rfl ?_
      refine st_sk rfl rfl rfl ?_
      refine st_sk rfl rfl rfl ?_
      refine st_sku rfl rfl ?_
      refine st_sku rfl rfl ?_
      refine st_sk rfl rfl rfl ?_
      refine st_v (v_pick_false rfl rfl) (st_v (v_move rfl) (st_vg rfl rfl (v_move rfl) (st_vg rfl rfl (v_eql rfl rfl) (st_vg rfl rfl (v_move rfl) ?_))))
      rw [show ((check l).1 == 7) = false by simpa using hno7]
      refine st_sk rfl rfl rfl ?_
      refine st_sk rfl rfl rfl ?_
      refine st_sk rfl rfl rfl ?_
      refine st_sku rfl rfl ?_
      refine st_sku rfl rfl ?_
      refine st_sku rfl rfl ?_
      refine st_sku rfl rfl ?_
      refine st_sku rfl rfl ?_
      refine st_sk rfl rfl rfl ?_
      refine st_vg rfl rfl (v_pick_false rfl rfl) (st_v (v_pick_false rfl rfl) (st_v (v_move rfl) (st_vg rfl rfl (v_move rfl) (st_vg rfl rfl (v_move rfl) (st_grd rfl rfl (st_cl rfl rfl en48 rfl (CheckRing1_ct hv hp hn (by omega)) ?_))))))
      rintro u h' ⟨rfl, rfl⟩
      simp only [List.cons_append, List.nil_append]
      refine st_vg rfl rfl (v_eql rfl rfl) (st_vg rfl rfl (v_move rfl) ?_)
      rw [show (ringC l ns == 0) = false by simpa using hnz]
      refine st_sk rfl rfl rfl ?_
      refine st_sk rfl rfl rfl ?_
      refine st_sk rfl rfl rfl ?_
      refine st_sku rfl rfl ?_
      refine st_sku rfl rfl ?_
      refine st_sk rfl rfl rfl ?_
      refine st_sk rfl rfl rfl ?_
      refine st_sku rfl rfl ?_
      refine st_sku rfl rfl ?_
      refine st_sku rfl rfl ?_
      refine st_sku rfl rfl ?_
      refine st_sku rfl rfl ?_
      refine st_sk rfl rfl rfl ?_
      refine st_vg rfl rfl (v_pick_false rfl rfl) (st_v (v_pick_false rfl rfl) (st_nil (nx_kp [0, 1, 2, 3, 8, 9, 87] rfl (nx_then (cd_false rfl ?_)))))
      refine cd_skip (xt_then (cd_seq (cd_seq (cd_region (st_v (v_move rfl) (st_v (v_neq rfl rfl) (st_nil (nx_kp [0, 1, 2, 3, 8, 89] rfl (nx_then (cd_cond rfl (fun hcz => ?_) (fun hcz => ?_)))))))))))
      · skip
        refine cd_seq (cd_region (st_clr rfl rfl en15 rfl (sanityR) ?_))
        refine st_v (v_assign rfl) (st_nil (nx_kp [8] rfl (nx_then (cd_ret (xt_ret_then (xt_law rfl ?_))))))
        refine Sub.sel (by repeat (first | exact Sel.here | apply Sel.there)) ?_
        repeat apply Sub.cons
        exact Sub.refl _
      · skip
        have hcz : (check l).1 = 0 := by simpa using hcz
        have hR := check_zero.1 hcz
        refine cd_skip (xt_then (cd_seq (cd_region (st_v (v_move rfl) (st_v (v_move rfl) (st_clr rfl rfl en30 rfl (name_ct hv h0 (by omega) hi) ?_))))))
        refine st_v (v_assign rfl) (st_nil (nx_kp [0, 2, 3, 8, 13] rfl (nx_then (cd_seq (cd_region (st_v (v_move rfl) (st_v (v_move rfl) (st_clr rfl rfl en30 rfl (name_ct hv h0 (by omega) hj) ?_))))))))
        refine st_v (v_assign rfl) (st_nil (nx_kp [0, 3, 8, 13, 14] rfl (nx_then (cd_seq (cd_region (st_v (v_move rfl) (st_v (v_move rfl) (st_v (v_move rfl) ?_))))))))
        have hcC := nmAt_isC h0 i
        have hdC := nmAt_isC h0 j
        generalize nmAt l i = c at *
        generalize nmAt l j = d at *
        have he := right2 hR hcC hdC
        have hwz := @wayC_zero l hR c d ns hcC hdC
        refine st_cl rfl rfl en42 rfl (Way_ct hv c d) ?_
        rintro u h' ⟨T, rfl, w2, rfl, hw2, rfl⟩
        simp only [List.cons_append, List.nil_append]
        rw [he, okL_eq rfl]
        have hwE : wayE l c d = if has l c d then 0 else 5 := if_pos he
        rw [hwE]
        refine st_ok (r := NR w2 (shortR l d c)) (by repeat (first | exact Sel.here | apply Sel.there)) fun hok2 => ?_
        have hno2 := nms_own hok2
        have hsl := shortR_few (l := l) (c := c) (x := d)
        cases hh : has l c d
        · skip
          have hnz2 : ¬ wayC l c d ns = 0 := fun e => by have := (hwz e).1; rw [hh] at this; cases this
          rw [show (if false = true then (0 : Int) else 5) = 5 from rfl]
          refine st_v (v_move rfl) (st_v (v_extract rfl rfl) (st_v (v_extract rfl rfl) (st_v (v_assign rfl) (st_v (v_assign rfl) (st_nil (nx_kp [0, 3, 8, 13, 14, 15, 16] rfl (nx_then (cd_seq (cd_seq (cd_region (st_v (v_move rfl) (st_v (v_eql rfl rfl) (st_v (v_move rfl) (st_v (v_move rfl) (st_v (v_move rfl) ?_)))))))))))))))
          refine st_clr rfl rfl en32 rfl (is_ct hv hR hcC hdC) ?_
          rw [hh]
          refine st_v (v_neq_bool Try.underlying4 rfl rfl) (st_v (v_move rfl) (st_vg rfl rfl (v_move rfl) (st_vg rfl rfl (v_eql rfl rfl) (st_vg rfl rfl (v_move rfl) (st_sk rfl rfl rfl ?_)))))
          refine st_sk rfl rfl rfl ?_
          refine st_sk rfl rfl rfl ?_
          refine st_sk rfl rfl rfl ?_
          refine st_sk rfl rfl rfl ?_
          refine st_sk rfl rfl rfl ?_
          refine st_vg rfl rfl (v_pick_false rfl rfl) (st_v (v_pick_false rfl rfl) (st_nil (nx_kp [0, 3, 8, 13, 14, 15, 122] rfl (nx_then (cd_false rfl ?_)))))
          refine cd_skip (xt_then (cd_seq (cd_region (st_clr rfl rfl en15 rfl (sanityR) ?_))))
          refine st_v (v_move rfl) (st_vg rfl rfl (v_move rfl) (st_vg rfl rfl (v_move rfl) (st_vg rfl rfl (v_move rfl) (st_vg rfl rfl (v_move rfl) (st_grd rfl rfl (st_cl rfl rfl en44 rfl (CheckWay1_ct hv hn (by omega) c d) ?_))))))
          rintro u h' ⟨rfl, rfl⟩
          simp only [List.cons_append, List.nil_append]
          refine st_vg rfl rfl (v_neq rfl rfl) (st_vg rfl rfl (v_move rfl) ?_)
          rw [show (wayC l c d ns != 0) = true by simpa using hnz2]
          refine st_sk rfl rfl rfl ?_
          refine st_sk rfl rfl rfl ?_
          refine st_sk rfl rfl rfl ?_
          refine st_sk rfl rfl rfl ?_
          refine st_sk rfl rfl rfl ?_
          refine st_sku rfl rfl ?_
          refine st_sku rfl rfl ?_
          refine st_sku rfl rfl ?_
          refine st_sku rfl rfl ?_
          refine st_sku rfl rfl ?_
          refine st_sk rfl rfl rfl ?_
          refine st_vg rfl rfl (v_pick_true rfl rfl) (st_v (v_pick_true rfl rfl) (st_v (v_assign rfl) (st_nil (nx_kp [8] rfl (nx_then (cd_ret (xt_law rfl ?_)))))))
          refine Sub.sel (by repeat (first | exact Sel.here | apply Sel.there)) ?_
          repeat apply Sub.cons
          exact Sub.refl _
        · skip
          have hsw := wayC_short hR hcC hdC hh
          rw [show (if true = true then (0 : Int) else 5) = 0 from rfl]
          refine st_v (v_move rfl) (st_v (v_extract rfl rfl) (st_v (v_extract rfl rfl) (st_v (v_assign rfl) (st_v (v_assign rfl) (st_nil (nx_kp [0, 3, 8, 13, 14, 15, 16] rfl (nx_then (cd_seq (cd_seq (cd_region (st_v (v_move rfl) (st_v (v_eql rfl rfl) (st_v (v_move rfl) (st_v (v_move rfl) (st_v (v_move rfl) ?_)))))))))))))))
          refine st_clr rfl rfl en32 rfl (is_ct hv hR hcC hdC) ?_
          rw [hh]
          refine st_v (v_neq_bool Try.underlying4 rfl rfl) (st_v (v_move rfl) (st_vg rfl rfl (v_move rfl) (st_vg rfl rfl (v_eql rfl rfl) (st_vg rfl rfl (v_move rfl) (st_vg rfl rfl (v_move rfl) (st_vg rfl rfl (v_move rfl) (st_vg rfl rfl (v_move rfl) (st_vg rfl rfl (v_move rfl) (st_grd rfl rfl (st_cl rfl rfl en44 rfl (CheckWay_ct hv hno2 (by omega) c d) ?_))))))))))
          rintro u h' ⟨rfl, rfl⟩
          simp only [List.cons_append, List.nil_append]
          rw [hsw]
          refine st_vg rfl rfl (v_neq rfl rfl) (st_vg rfl rfl (v_pick_true rfl rfl) (st_v (v_pick_false rfl rfl) (st_nil (nx_kp [0, 3, 8, 13, 14, 15, 122] rfl (nx_then (cd_false rfl ?_))))))
          refine cd_skip (xt_then (cd_seq (cd_region (st_clr rfl rfl en15 rfl (sanityR) ?_))))
          refine st_v (v_move rfl) (st_vg rfl rfl (v_move rfl) (st_vg rfl rfl (v_move rfl) (st_vg rfl rfl (v_move rfl) (st_vg rfl rfl (v_move rfl) (st_grd rfl rfl (st_cl rfl rfl en44 rfl (CheckWay1_ct hv hn (by omega) c d) ?_))))))
          rintro u h' ⟨rfl, rfl⟩
          simp only [List.cons_append, List.nil_append]
          refine st_vg rfl rfl (v_neq rfl rfl) (st_vg rfl rfl (v_move rfl) ?_)
          obtain ⟨wa2, wcap2, rfl, _⟩ := id hno2
          by_cases hz2 : wayC l c d ns = 0
          · skip
            have hle := (hwz hz2).2
            rw [show (wayC l c d ns != 0) = false by simpa using hz2]
            refine st_vg rfl rfl (v_move rfl) (st_vg rfl rfl (v_move rfl) (st_vg rfl rfl (v_move rfl) (st_clrg rfl rfl rfl rfl en32 rfl (is_ct hv hR hcC hdC) ?_)))
            rw [hh]
            refine st_vg rfl rfl (v_move rfl) (st_vg rfl rfl (v_move rfl) (st_vg rfl rfl (v_len rfl Try.underlying25) (st_vg rfl rfl (v_move rfl) (st_vg rfl rfl (v_len rfl Try.underlying25) (st_vg rfl rfl (v_leq rfl rfl) (st_vg rfl rfl (v_pick_true rfl rfl) (st_vg rfl rfl (v_pick_false rfl rfl) (st_v (v_pick_true rfl rfl) (st_v (v_assign rfl) (st_nil (nx_kp [8] rfl (nx_then (cd_ret ?_)))))))))))))
            rw [show decide (((shortR l d c).length : Int) ≤ ns.length) = true from decide_eq_true (by omega)]
            refine xt_law rfl ?_
            refine Sub.sel (by repeat (first | exact Sel.here | apply Sel.there)) ?_
            repeat apply Sub.cons
            exact Sub.refl _
          · skip
            rw [show (wayC l c d ns != 0) = true by simpa using hz2]
            refine st_sk rfl rfl rfl ?_
            refine st_sk rfl rfl rfl ?_
            refine st_sk rfl rfl rfl ?_
            refine st_sk rfl rfl rfl ?_
            refine st_sk rfl rfl rfl ?_
            refine st_sku rfl rfl ?_
            refine st_sku rfl rfl ?_
            refine st_sku rfl rfl ?_
            refine st_sku rfl rfl ?_
            refine st_sku rfl rfl ?_
            refine st_sk rfl rfl rfl ?_
            refine st_vg rfl rfl (v_pick_true rfl rfl) (st_v (v_pick_true rfl rfl) (st_v (v_assign rfl) (st_nil (nx_kp [8] rfl (nx_then (cd_ret (xt_law rfl ?_)))))))
            refine Sub.sel (by repeat (first | exact Sel.here | apply Sel.there)) ?_
            repeat apply Sub.cons
            exact Sub.refl _
end
end Go.Hr
namespace Go.Ck
open Go Go.RowKit Go.ChangeShapes Go.WideShapes
theorem cells_one {v : Value} (h : v.oneCell' = true) : v.cells.toList = [v] := by
  cases v <;> first | rfl | (simp [Value.oneCell'] at h)
/-- An argument of one cell. -/
theorem arg_one {H : Type} {enc : TypeId × Value → H} {P : Program} {W : World} {ty : Ty} {t : TypeId} {v : Value} {d : DataW H} {ps : List MemPlace} {b : Nat} (hf : fitB P ty t = true)
    (hs : (match P.underlying t with | some (.struct _) | some (.array _ _) => false | some _ => true | none => false) = true) (hv : Value.okWide P W .any b t v) (h : DataW.Trod enc P W 0 (fun _ => true) true t v d ps) : ∃ y, Rep (old W) ty [v] y := by
  have := arg_rep hf h
  rwa [cells_one (okWide_one hs hv)] at this
theorem rep_kind {k : IntKind} {r : Res} {v : Value} {n : Int} (h : Rep r (.int k) [v] n) : v = .int k n ∧ (Lit.int k n).wf = true := by
  simp only [Rep] at h
  exact ⟨by simpa using h.1, h.2⟩
theorem wf_I64 {n : Int} (h : (Lit.int .i64 n).wf = true) : I64 n := by
  unfold Lit.wf at h
  simp [IntKind.min, IntKind.max, IntKind.signed, IntKind.bits] at h
  unfold I64; omega
theorem wf_u8 {n : Int} (h : (Lit.int .u8 n).wf = true) : 0 ≤ n ∧ n < 256 := by
  unfold Lit.wf at h
  simp [IntKind.min, IntKind.max, IntKind.signed, IntKind.bits] at h
  omega
/-- A slice is a row. -/
theorem row_of {α : Type} {r : Res} {t : Ty} {v : Value} (f : t.D → α) (X : List Value → α → Prop) (hX : ∀ us x, Rep r t us x → X us (f x)) {y : (Ty.slice t).D} (h : Rep r (.slice t) [v] y) : Row r t.sz X v ((show List t.D from y).map f) := by
  unfold Rep at h
  obtain ⟨a, cap, h1, hl, hm, hn, h2⟩ := h
  refine ⟨a, cap, by rw [List.length_map]; exact (List.cons.inj h1).1, by rw [List.length_map]; exact hl, hm, hn, fun i x hi => ?_⟩
  rw [List.getElem?_map] at hi
  cases hy : (show List t.D from y)[i]? with
  | none => rw [hy] at hi; cases hi
  | some z =>
    rw [hy] at hi
    obtain rfl := Option.some.inj hi
    rcases h2 with h0 | ⟨b, o, h3, h4⟩
    · rw [show (show List t.D from y) = [] from h0] at hy; simp at hy
    · obtain ⟨us, h5, h6, h7⟩ := h4 i z hy
      exact ⟨b, o, us, h3, h5, h6, hX _ _ h7⟩
theorem row_all {r : Res} {t : Ty} {v : Value} {φ : t.D → Prop} (hX : ∀ us x, Rep r t us x → φ x) {y : (Ty.slice t).D} (h : Rep r (.slice t) [v] y) : ∀ x ∈ (show List t.D from y), φ x := fun x hx => by
  unfold Rep at h
  obtain ⟨a, cap, h1, hl, hm, hn, h2⟩ := h
  obtain ⟨i, hi⟩ := List.getElem?_of_mem hx
  rcases h2 with h0 | ⟨b, o, h3, h4⟩
  · rw [show (show List t.D from y) = [] from h0] at hi; simp at hi
  · obtain ⟨us, h5, h6, h7⟩ := h4 i x hi
    exact hX _ _ h7
theorem one_cell {us : List Value} (h : us.length = 1) : ∃ u, us = [u] := by
  match us, h with
  | [u], _ => exact ⟨u, rfl⟩
end Go.Ck
namespace Go.Hr
open Go Go.RowKit Go.ChangeShapes Go.WideShapes Go.Ck
/-- The types that the parts that nobody looks at are made of. -/
def partL : List TypeId := [3, 4, 9, 25, 59, 62, 185, 186, 188, 189, 191, 192, 194, 196, 198, 201, 203]
def parTy : Ty := .struct [.str, .slice (.any 5 partL), .slice (.any 2 partL), .slice .str, .slice .str, .slice .str]
def clsTy : Ty := .struct [.str, .bool, .slice (.any 2 partL), .slice parTy, .slice .str, .slice (.any 15 partL), .slice (.any 5 partL)]
def nmOf (s : ByteArray) : Nm := s.data.toList
def parOf (x : parTy.D) : Nm := nmOf (show ByteArray from x.1)
def clsOf (x : clsTy.D) : Cls := ⟨nmOf (show ByteArray from x.1), (show List parTy.D from x.2.2.2.1).map parOf, (show List Unit from x.2.2.2.2.2.1).length⟩
def sysOf (y : (Ty.slice clsTy).D) : Sys := (show List clsTy.D from y).map clsOf
theorem slice_val {r : Res} {t : Ty} {a : Value} {y : List t.D} (h : ∃ (ad : Option Addr) (cap : Nat), [a] = [Value.slice ad (List.length y) cap] ∧ List.length y ≤ cap ∧ cap ≤ maxLen ∧ (ad = none → cap = 0) ∧
      (y = ([] : List t.D) ∨ ∃ b o, ad = some ⟨b, o, none⟩ ∧ ∀ (i : Nat) (x : t.D), @getElem? (List t.D) Nat t.D _ _ y i = some x → ∃ us : List Value, us.length = t.sz ∧ Rds r b (o + i * t.sz) us ∧ Rep r t us x)) : ∃ (ad : Option Addr) (cap : Nat), a = Value.slice ad (List.length y) cap := by
  obtain ⟨ad, cap, h1, _⟩ := h
  exact ⟨ad, cap, (List.cons.inj h1).1⟩
theorem str_val {r : Res} {us : List Value} {x : ByteArray} (h : us = [Value.string x] ∧ x.size ≤ maxLen) : us = [sv (nmOf x)] := h.1
theorem parC_of {r : Res} {us : List Value} {x : parTy.D} (h : Rep r parTy us x) : parC us (parOf x) := by
  obtain ⟨x1, x2, x3, x4, x5, x6, x7⟩ := x
  simp only [parTy, Rep, Reps] at h
  obtain ⟨u1, us1, e1, l1, r1, h⟩ := h
  obtain ⟨u2, us2, e2, l2, r2, h⟩ := h
  obtain ⟨u3, us3, e3, l3, r3, h⟩ := h
  obtain ⟨u4, us4, e4, l4, r4, h⟩ := h
  obtain ⟨u5, us5, e5, l5, r5, h⟩ := h
  obtain ⟨u6, us6, e6, l6, r6, h⟩ := h
  have r1 := r1.1
  obtain ⟨a2, c2, g2, _⟩ := r2
  obtain ⟨a3, c3, g3, _⟩ := r3
  obtain ⟨a4, c4, g4, _⟩ := r4
  obtain ⟨a5, c5, g5, _⟩ := r5
  obtain ⟨a6, c6, g6, _⟩ := r6
  subst h r1 g2 g3 g4 g5 g6 e6 e5 e4 e3 e2
  exact ⟨_, _, _, _, _, e1, rfl⟩
theorem cls_of {r : Res} {us : List Value} {x : clsTy.D} (h : Rep r clsTy us x) : clsC r us (clsOf x) := by
  obtain ⟨x1, x2, x3, x4, x5, x6, x7, x8⟩ := x
  simp only [clsTy, Rep, Reps] at h
  obtain ⟨u1, us1, e1, l1, r1, h⟩ := h
  obtain ⟨u2, us2, e2, l2, r2, h⟩ := h
  obtain ⟨u3, us3, e3, l3, r3, h⟩ := h
  obtain ⟨u4, us4, e4, l4, r4, h⟩ := h
  obtain ⟨u5, us5, e5, l5, r5, h⟩ := h
  obtain ⟨u6, us6, e6, l6, r6, h⟩ := h
  obtain ⟨u7, us7, e7, l7, r7, h⟩ := h
  obtain ⟨p4, rfl⟩ := one_cell l4
  have s4 : Rep r (.slice parTy) [p4] x4 := by simp only [Rep]; exact r4
  have r1 := r1.1
  obtain ⟨a3, c3, g3, _⟩ := r3
  obtain ⟨a4, c4, g4, _⟩ := r4
  obtain ⟨a5, c5, g5, _⟩ := r5
  obtain ⟨a6, c6, g6, _⟩ := r6
  obtain ⟨a7, c7, g7, _⟩ := r7
  have g4 := (List.cons.inj g4).1
  subst h r1 r2 g3 g4 g5 g6 g7 e7 e6 e5 e4 e3 e2
  exact ⟨_, _, _, _, _, _, _, e1, rfl, row_of parOf parC (fun _ _ h => parC_of h) s4⟩
theorem sys_of {r : Res} {v : Value} {y : (Ty.slice clsTy).D} (h : Rep r (.slice clsTy) [v] y) : sysR r v (sysOf y) := row_of clsOf (clsC r) (fun _ _ h => cls_of h) h
def nmsOf (y : (Ty.slice .str).D) : List Nm := (show List ByteArray from y).map nmOf
theorem names_of {r : Res} {v : Value} {y : (Ty.slice .str).D} (h : Rep r (.slice .str) [v] y) : nmsR r v (nmsOf y) := row_of (t := .str) nmOf strC (fun us x h => by
  simp only [Rep] at h
  exact h.1) h
theorem str_of {r : Res} {v : Value} {y : Ty.str.D} (h : Rep r .str [v] y) : v = sv (nmOf y) := by
  simp only [Rep] at h
  exact (List.cons.inj h.1).1
end Go.Hr
