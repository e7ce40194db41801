/-
  HeirIsOrder. Conditions: what is read.
-/
import Derived.Test.YtjgiaohieadeiaaM8
set_option linter.unusedVariables false
set_option linter.unusedSimpArgs false
namespace Go.Hr
open Go Go.RowKit Go.Ck Go.Proofs Go.Proofs.Ytjgiaohieadeiaa Fx
attribute [local irreducible] Go.Ck.Sub St Cd Xt Nx DrL LsW
theorem rightR {S : Res} {v : Value} {l : Sys} (hv : sysR S v l) : Reads Try.prog 29 #[v] [S] (.bool (rightB l)) := rightL_ct hv
theorem below_at {l : Sys} {a b : Nm} (hb : isC l b = true) : decide (0 ≤ ixS (below l a) b) = has l b a := by
  rw [ixS_has, Bool.eq_iff_iff, List.contains_iff_mem, mem_below]
  exact ⟨fun h => h.2, fun h => ⟨isC_iff.1 hb, h⟩⟩
theorem and_trans {l : Sys} {a b c : Nm} : ((has l a b && has l b c) && !has l a c) = false := by
  cases h1 : has l a b <;> cases h2 : has l b c <;> simp
  exact has_trans h1 h2
theorem and_anti {l : Sys} (hR : Right l) {a b : Nm} : (((a != b) && has l a b) && has l b a) = false := by
  cases h1 : has l a b <;> cases h2 : has l b a <;> simp
  exact has_antisymm hR.acyc h1 h2
section
variable {S : Res} {v : Value} {l : Sys}
set_option maxRecDepth 100000 in
theorem heirIsOrder_ct (hv : sysR S v l) {i j k : Nat} (hi : i ≤ 255) (hj : j ≤ 255) (hk : k ≤ 255) : Ct Try.prog 11 #[v, .int .u8 (i : Int), .int .u8 (j : Int), .int .u8 (k : Int)] [S] fun u h' => u = .bool true ∧ h' = [S] := by
  obtain ⟨la, cap, rfl, _⟩ := id hv
  refine ct_of (n := 90) Try.func11 rfl rfl (len rfl) fun hr w0 => ?_
  refine cd_seq (cd_region (st_v (v_assign rfl) (st_nil (nx_then (cd_seq (cd_seq (cd_region (st_v (v_move rfl) (st_clr rfl rfl en29 rfl (rightR hv) ?_)))))))))
  refine st_v (v_not rfl) (st_nil (nx_kp [0, 1, 2, 3, 8, 16] rfl (nx_then (cd_cond rfl (fun hr => ?_) (fun hr => ?_)))))
  · skip
    refine cd_seq (cd_region (st_clr rfl rfl en15 rfl (sanityR) ?_))
    refine st_v (v_assign rfl) (st_nil (nx_kp [8] rfl (nx_then (cd_ret (xt_ret_then (xt_law rfl ?_))))))
    refine Sub.sel (by repeat (first | exact Sel.here | apply Sel.there)) ?_
    repeat apply Sub.cons
    exact Sub.refl _
  · skip
    have hr : rightB l = true := by simpa using hr
    obtain ⟨hR, h0⟩ := rightB_iff.1 hr
    have hFl := hR.len
    refine cd_skip (xt_then (cd_seq (cd_region (st_v (v_move rfl) (st_v (v_move rfl) (st_clr rfl rfl en30 rfl (name_ct hv h0 (by omega) hi) ?_))))))
    refine st_v (v_assign rfl) (st_nil (nx_kp [0, 2, 3, 8, 9] rfl (nx_then (cd_seq (cd_region (st_v (v_move rfl) (st_v (v_move rfl) (st_clr rfl rfl en30 rfl (name_ct hv h0 (by omega) hj) ?_))))))))
    refine st_v (v_assign rfl) (st_nil (nx_kp [0, 3, 8, 9, 10] rfl (nx_then (cd_seq (cd_region (st_v (v_move rfl) (st_v (v_move rfl) (st_clr rfl rfl en30 rfl (name_ct hv h0 (by omega) hk) ?_))))))))
    refine st_v (v_assign rfl) (st_nil (nx_kp [0, 8, 9, 10, 11] rfl (nx_then (cd_seq (cd_region (st_v (v_move rfl) (st_v (v_move rfl) ?_)))))))
    have ha := nmAt_isC h0 i
    have hb := nmAt_isC h0 j
    have hc := nmAt_isC h0 k
    generalize nmAt l i = a at *
    generalize nmAt l j = b at *
    generalize nmAt l k = c at *
    have hbl : (below l a).length ≤ 24 := Nat.le_trans (List.length_filter_le _ _) (by simp [nms]; omega)
    refine st_cl rfl rfl en37 rfl (Below_ct hv a) ?_
    rintro u h' ⟨T, rfl, w, rfl, hw, rfl⟩
    rw [right1 hR ha, okL_eq rfl]
    simp only [List.cons_append, List.nil_append]
    refine st_ok (r := NR w (below l a)) (by repeat (first | exact Sel.here | apply Sel.there)) fun hok => ?_
    refine st_v (v_move rfl) (st_v (v_extract rfl rfl) (st_v (v_extract rfl rfl) (st_v (v_assign rfl) (st_v (v_assign rfl) (st_nil (nx_kp [0, 8, 9, 10, 11, 12, 13] rfl (nx_then (cd_seq (cd_seq (cd_region (st_v (v_move rfl) (st_v (v_neq rfl rfl) (st_v (v_move rfl) (st_vg rfl rfl (v_move rfl) (st_vg rfl rfl (v_move rfl) ?_)))))))))))))))
    refine st_vg rfl rfl (v_move rfl) (st_clrg rfl rfl rfl rfl en32 rfl (is_ct hv hR ha ha) ?_)
    rw [has_refl]
    refine st_vg rfl rfl (v_not rfl) (st_v (v_pick_false rfl rfl) (st_v (v_move rfl) (st_vg rfl rfl (v_move rfl) (st_vg rfl rfl (v_move rfl) (st_vg rfl rfl (v_move rfl) (st_clrg rfl rfl rfl rfl en32 rfl (is_ct hv hR ha hb) ?_))))))
    refine st_vg rfl rfl (v_move rfl) (st_cut (k := 20) (d := 52) (v := .bool (has l a b && has l b c)) (fun hcut => bool_want (b := has l a b) true (fun hg => ?_) (fun hg => ?_)) ?_)
    · refine st_sk rfl rfl hg ?_
      refine st_sk rfl rfl hg ?_
      refine st_sk rfl rfl hg ?_
      refine st_sk rfl rfl hg ?_
      refine st_vg rfl rfl (v_pick_false (bool_ev rfl hg) rfl) ?_
      exact hcut _ (ssub_head (by first | rfl | (rw [hg]; rfl) | simp_all) (ssub_skip rfl (ssub_skip rfl (ssub_skip rfl (ssub_skip rfl (ssub_refl))))))
    · skip
      refine st_vg rfl (bool_get rfl hg) (v_move rfl) (st_vg rfl (bool_get rfl hg) (v_move rfl) (st_vg rfl (bool_get rfl hg) (v_move rfl) (st_clrg rfl (bool_get rfl hg) rfl rfl en32 rfl (is_ct hv hR hb hc) ?_)))
      refine st_vg rfl rfl (v_pick_true (bool_ev rfl hg) rfl) ?_
      exact hcut _ (ssub_head (by first | rfl | (rw [hg]; rfl) | simp_all) (ssub_skip rfl (ssub_skip rfl (ssub_skip rfl (ssub_skip rfl (ssub_refl))))))
    refine st_vg rfl rfl (v_move rfl) (st_cut (k := 27) (d := 59) (v := .bool ((has l a b && has l b c) && !has l a c)) (fun hcut => bool_want (b := (has l a b && has l b c)) true (fun hg => ?_) (fun hg => ?_)) ?_)
    · refine st_sk rfl rfl hg ?_
      refine st_sk rfl rfl hg ?_
      refine st_sk rfl rfl hg ?_
      refine st_sk rfl rfl hg ?_
      refine st_sk rfl rfl hg ?_
      refine st_vg rfl rfl (v_pick_false (bool_ev rfl hg) rfl) ?_
      exact hcut _ (ssub_head (by first | rfl | (rw [hg]; rfl) | simp_all) (ssub_skip rfl (ssub_skip rfl (ssub_skip rfl (ssub_skip rfl (ssub_skip rfl (ssub_refl)))))))
    · skip
      refine st_vg rfl (bool_get rfl hg) (v_move rfl) (st_vg rfl (bool_get rfl hg) (v_move rfl) (st_vg rfl (bool_get rfl hg) (v_move rfl) (st_clrg rfl (bool_get rfl hg) rfl rfl en32 rfl (is_ct hv hR ha hc) ?_)))
      refine st_vg rfl (bool_get rfl hg) (v_not rfl) (st_vg rfl rfl (v_pick_true (bool_ev rfl hg) rfl) ?_)
      exact hcut _ (ssub_head (by first | rfl | (rw [hg]; rfl) | simp_all) (ssub_skip rfl (ssub_skip rfl (ssub_skip rfl (ssub_skip rfl (ssub_skip rfl (ssub_refl)))))))
    refine st_v (v_pick_false rfl rfl) (st_v (v_move rfl) ?_)
    rw [and_trans]
    refine st_vg rfl rfl (v_move rfl) (st_vg rfl rfl (v_move rfl) (st_vg rfl rfl (v_sneq rfl rfl) (st_vg rfl rfl (v_move rfl) (st_cut (k := 38) (d := 70) (v := .bool ((a != b) && has l a b)) (fun hcut => bool_want (b := (a != b)) true (fun hg => ?_) (fun hg => ?_)) ?_))))
    · refine st_sk rfl rfl hg ?_
      refine st_sk rfl rfl hg ?_
      refine st_sk rfl rfl hg ?_
      refine st_sk rfl rfl hg ?_
      refine st_vg rfl rfl (v_pick_false (bool_ev rfl hg) rfl) ?_
      exact hcut _ (ssub_head (by first | rfl | (rw [hg]; rfl) | simp_all) (ssub_skip rfl (ssub_skip rfl (ssub_skip rfl (ssub_skip rfl (ssub_refl))))))
    · skip
      refine st_vg rfl (bool_get rfl hg) (v_move rfl) (st_vg rfl (bool_get rfl hg) (v_move rfl) (st_vg rfl (bool_get rfl hg) (v_move rfl) (st_clrg rfl (bool_get rfl hg) rfl rfl en32 rfl (is_ct hv hR ha hb) ?_)))
      refine st_vg rfl rfl (v_pick_true (bool_ev rfl hg) rfl) ?_
      exact hcut _ (ssub_head (by first | rfl | (rw [hg]; rfl) | simp_all) (ssub_skip rfl (ssub_skip rfl (ssub_skip rfl (ssub_skip rfl (ssub_refl))))))
    refine st_vg rfl rfl (v_move rfl) (st_cut (k := 44) (d := 76) (v := .bool (((a != b) && has l a b) && has l b a)) (fun hcut => bool_want (b := ((a != b) && has l a b)) true (fun hg => ?_) (fun hg => ?_)) ?_)
    · refine st_sk rfl rfl hg ?_
      refine st_sk rfl rfl hg ?_
      refine st_sk rfl rfl hg ?_
      refine st_sk rfl rfl hg ?_
      refine st_vg rfl rfl (v_pick_false (bool_ev rfl hg) rfl) ?_
      exact hcut _ (ssub_head (by first | rfl | (rw [hg]; rfl) | simp_all) (ssub_skip rfl (ssub_skip rfl (ssub_skip rfl (ssub_skip rfl (ssub_refl))))))
    · skip
      refine st_vg rfl (bool_get rfl hg) (v_move rfl) (st_vg rfl (bool_get rfl hg) (v_move rfl) (st_vg rfl (bool_get rfl hg) (v_move rfl) (st_clrg rfl (bool_get rfl hg) rfl rfl en32 rfl (is_ct hv hR hb ha) ?_)))
      refine st_vg rfl rfl (v_pick_true (bool_ev rfl hg) rfl) ?_
      exact hcut _ (ssub_head (by first | rfl | (rw [hg]; rfl) | simp_all) (ssub_skip rfl (ssub_skip rfl (ssub_skip rfl (ssub_skip rfl (ssub_refl))))))
    refine st_v (v_pick_false rfl rfl) (st_nil (nx_kp [0, 8, 9, 10, 12, 77] rfl (nx_then ?_)))
    rw [and_anti hR]
    refine cd_false rfl ?_
    refine cd_skip (xt_then (cd_seq (cd_region (st_clr rfl rfl en15 rfl (sanityR) ?_))))
    refine st_v (v_move rfl) (st_vg rfl rfl (v_move rfl) (st_vg rfl rfl (v_move rfl) (st_clrg rfl rfl rfl rfl en34 rfl (at_ct (nms_own hok) b (by omega)) ?_)))
    refine st_vg rfl rfl (v_geq rfl rfl) (st_vg rfl rfl (v_move rfl) (st_vg rfl rfl (v_move rfl) (st_vg rfl rfl (v_move rfl) (st_clrg rfl rfl rfl rfl en32 rfl (is_ct hv hR hb ha) ?_))))
    rw [below_at hb]
    refine st_vg rfl rfl (v_eql_bool Try.underlying4 rfl rfl) (st_v (v_pick_true rfl rfl) (st_v (v_assign rfl) (st_nil (nx_kp [8] rfl (nx_then (cd_ret ?_))))))
    rw [beq_self_eq_true]
    refine xt_law rfl ?_
    refine Sub.sel (by repeat (first | exact Sel.here | apply Sel.there)) ?_
    repeat apply Sub.cons
    exact Sub.refl _
end
end Go.Hr
