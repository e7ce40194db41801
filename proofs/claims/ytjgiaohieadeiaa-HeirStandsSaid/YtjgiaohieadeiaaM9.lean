/-
  HeirIsOrder. Conditions: what is read.
  HeirStands. Conditions: what is read.
-/
import Derived.Test.YtjgiaohieadeiaaM8
import Derived.Test.YtjgiaohieadeiaaM1
set_option linter.unusedVariables false
set_option linter.unusedSimpArgs false
namespace Go.Hr
open Go Go.RowKit Go.Ck Go.Proofs Go.Proofs.Ytjgiaohieadeiaa Fx
attribute [local irreducible] Go.Ck.Sub St Cd Xt Nx DrL LsW
theorem rightR {S : Res} {v : Value} {l : Sys} (hv : sysR S v l) : Reads Try.prog 29 #[v] [S] (.bool (rightB l)) := rightL_ct hv
theorem below_at {l : Sys} {a b : Nm} (hb : isC l b = true) : decide (0 ≤ ixS (below l a) b) = has l b a := by
  rw [ixS_has, Bool.eq_iff_iff, List.contains_iff_mem, mem_below]
  exact ⟨fun h => h.2, fun h => ⟨isC_iff.1 hb, h⟩⟩
theorem and_trans {l : Sys} {a b c : Nm} : ((has l a b && has l b c) && !has l a c) = false := by
  cases h1 : has l a b <;> cases h2 : has l b c <;> simp
  exact has_trans h1 h2
theorem and_anti {l : Sys} (hR : Right l) {a b : Nm} : (((a != b) && has l a b) && has l b a) = false := by
  cases h1 : has l a b <;> cases h2 : has l b a <;> simp
  exact has_antisymm hR.acyc h1 h2
section
variable {S : Res} {v : Value} {l : Sys}
set_option maxRecDepth 100000 in
theorem heirIsOrder_ct (hv : sysR S v l) {i j k : Nat} (hi : i ≤ 255) (hj : j ≤ 255) (hk : k ≤ 255) : Ct Try.prog 11 #[v, .int .u8 (i : Int), .int .u8 (j : Int), .int .u8 (k : Int)] [S] fun u h' => u = .bool true ∧ h' = [S] := by
  obtain ⟨la, cap, rfl, _⟩ := id hv
  refine ct_of (n := 90) Try.func11 rfl rfl (len rfl) fun hr w0 => ?_
  refine cd_seq (cd_region (st_v (v_assign rfl) (st_nil (nx_then (cd_seq (cd_seq (cd_region (st_v (v_move rfl) (st_clr rfl rfl en29 rfl (rightR hv) ?_)))))))))
  refine st_v (v_not rfl) (st_nil (nx_kp [0, 1, 2, 3, 8, 16] rfl (nx_then (cd_cond rfl (fun hr => ?_) (fun hr => ?_)))))
  · skip
    refine cd_seq (cd_region (st_clr rfl rfl en15 rfl (sanityR) ?_))
    refine st_v (v_assign rfl) (st_nil (nx_kp [8] rfl (nx_then (cd_ret (xt_ret_then (xt_law rfl ?_))))))
    refine Sub.sel (by repeat (first | exact Sel.here | apply Sel.there)) ?_
    repeat apply Sub.cons
    exact Sub.refl _
  · skip
    have hr : rightB l = true := by simpa using hr
    obtain ⟨hR, h0⟩ := rightB_iff.1 hr
    have hFl := hR.len
    refine cd_skip (xt_then (cd_seq (cd_region (st_v (v_move rfl) (st_v (v_move rfl) (st_clr rfl rfl en30 rfl (name_ct hv h0 (by omega) hi) ?_))))))
    refine st_v (v_assign rfl) (st_nil (nx_kp [0, 2, 3, 8, 9] rfl (nx_then (cd_seq (cd_region (st_v (v_move rfl) (st_v (v_move rfl) (st_clr rfl rfl en30 rfl (name_ct hv h0 (by omega) hj) ?_))))))))
    refine st_v (v_assign rfl) (st_nil (nx_kp [0, 3, 8, 9, 10] rfl (nx_then (cd_seq (cd_region (st_v (v_move rfl) (st_v (v_move rfl) (st_clr rfl rfl en30 rfl (name_ct hv h0 (by omega) hk) ?_))))))))
    refine st_v (v_assign rfl) (st_nil (nx_kp [0, 8, 9, 10, 11] rfl (nx_then (cd_seq (cd_region (st_v (v_move rfl) (st_v (v_move rfl) ?_)))))))
    have ha := nmAt_isC h0 i
    have hb := nmAt_isC h0 j
    have hc := nmAt_isC h0 k
    generalize nmAt l i = a at *
    generalize nmAt l j = b at *
    generalize nmAt l k = c at *
    have hbl : (below l a).length ≤ 24 := Nat.le_trans (List.length_filter_le _ _) (by simp [nms]; omega)
    refine st_cl rfl rfl en37 rfl (Below_ct hv a) ?_
    rintro u h' ⟨T, rfl, w, rfl, hw, rfl⟩
    rw [right1 hR ha, okL_eq rfl]
    simp only [List.cons_append, List.nil_append]
    refine st_ok (r := NR w (below l a)) (by repeat (first | exact Sel.here | apply Sel.there)) fun hok => ?_
    refine st_v (v_move rfl) (st_v (v_extract rfl rfl) (st_v (v_extract rfl rfl) (st_v (v_assign rfl) (st_v (v_assign rfl) (st_nil (nx_kp [0, 8, 9, 10, 11, 12, 13] rfl (nx_then (cd_seq (cd_seq (cd_region (st_v (v_move rfl) (st_v (v_neq rfl rfl) (st_v (v_move rfl) (st_vg rfl rfl (v_move rfl) (st_vg rfl rfl (v_move rfl) ?_)))))))))))))))
    refine st_vg rfl rfl (v_move rfl) (st_clrg rfl rfl rfl rfl en32 rfl (is_ct hv hR ha ha) ?_)
    rw [has_refl]
    refine st_vg rfl rfl (v_not rfl) (st_v (v_pick_false rfl rfl) (st_v (v_move rfl) (st_vg rfl rfl (v_move rfl) (st_vg rfl rfl (v_move rfl) (st_vg rfl rfl (v_move rfl) (st_clrg rfl rfl rfl rfl en32 rfl (is_ct hv hR ha hb) ?_))))))
    refine st_vg rfl rfl (v_move rfl) (st_cut (k := 20) (d := 52) (v := .bool (has l a b && has l b c)) (fun hcut => bool_want (b := has l a b) true (fun hg => ?_) (fun hg => ?_)) ?_)
    · refine st_sk rfl rfl hg ?_
      refine st_sk rfl rfl hg ?_
      refine st_sk rfl rfl hg ?_
      refine st_sk rfl rfl hg ?_
      refine st_vg rfl rfl (v_pick_false (bool_ev rfl hg) rfl) ?_
      exact hcut _ (ssub_head (by first | rfl | (rw [hg]; rfl) | simp_all) (ssub_skip rfl (ssub_skip rfl (ssub_skip rfl (ssub_skip rfl (ssub_refl))))))
    · skip
      refine st_vg rfl (bool_get rfl hg) (v_move rfl) (st_vg rfl (bool_get rfl hg) (v_move rfl) (st_vg rfl (bool_get rfl hg) (v_move rfl) (st_clrg rfl (bool_get rfl hg) rfl rfl en32 rfl (is_ct hv hR hb hc) ?_)))
      refine st_vg rfl rfl (v_pick_true (bool_ev rfl hg) rfl) ?_
      exact hcut _ (ssub_head (by first | rfl | (rw [hg]; rfl) | simp_all) (ssub_skip rfl (ssub_skip rfl (ssub_skip rfl (ssub_skip rfl (ssub_refl))))))
    refine st_vg rfl rfl (v_move rfl) (st_cut (k := 27) (d := 59) (v := .bool ((has l a b && has l b c) && !has l a c)) (fun hcut => bool_want (b := (has l a b && has l b c)) true (fun hg => ?_) (fun hg => ?_)) ?_)
    · refine st_sk rfl rfl hg ?_
      refine st_sk rfl rfl hg ?_
      refine st_sk rfl rfl hg ?_
      refine st_sk rfl rfl hg ?_
      refine st_sk rfl rfl hg ?_
      refine st_vg rfl rfl (v_pick_false (bool_ev rfl hg) rfl) ?_
      exact hcut _ (ssub_head (by first | rfl | (rw [hg]; rfl) | simp_all) (ssub_skip rfl (ssub_skip rfl (ssub_skip rfl (ssub_skip rfl (ssub_skip rfl (ssub_refl)))))))
    · skip
      refine st_vg rfl (bool_get rfl hg) (v_move rfl) (st_vg rfl (bool_get rfl hg) (v_move rfl) (st_vg rfl (bool_get rfl hg) (v_move rfl) (st_clrg rfl (bool_get rfl hg) rfl rfl en32 rfl (is_ct hv hR ha hc) ?_)))
      refine st_vg rfl (bool_get rfl hg) (v_not rfl) (st_vg rfl rfl (v_pick_true (bool_ev rfl hg) rfl) ?_)
      exact hcut _ (ssub_head (by first | rfl | (rw [hg]; rfl) | simp_all) (ssub_skip rfl (ssub_skip rfl (ssub_skip rfl (ssub_skip rfl (ssub_skip rfl (ssub_refl)))))))
    refine st_v (v_pick_false rfl rfl) (st_v (v_move rfl) ?_)
    rw [and_trans]
    refine st_vg rfl rfl (v_move rfl) (st_vg rfl rfl (v_move rfl) (st_vg rfl rfl (v_sneq rfl rfl) (st_vg rfl rfl (v_move rfl) (st_cut (k := 38) (d := 70) (v := .bool ((a != b) && has l a b)) (fun hcut => bool_want (b := (a != b)) true (fun hg => ?_) (fun hg => ?_)) ?_))))
    · refine st_sk rfl rfl hg ?_
      refine st_sk rfl rfl hg ?_
      refine st_sk rfl rfl hg ?_
      refine st_sk rfl rfl hg ?_
      refine st_vg rfl rfl (v_pick_false (bool_ev rfl hg) rfl) ?_
      exact hcut _ (ssub_head (by first | rfl | (rw [hg]; rfl) | simp_all) (ssub_skip rfl (ssub_skip rfl (ssub_skip rfl (ssub_skip rfl (ssub_refl))))))
    · skip
      refine st_vg rfl (bool_get rfl hg) (v_move rfl) (st_vg rfl (bool_get rfl hg) (v_move rfl) (st_vg rfl (bool_get rfl hg) (v_move rfl) (st_clrg rfl (bool_get rfl hg) rfl rfl en32 rfl (is_ct hv hR ha hb) ?_)))
      refine st_vg rfl rfl (v_pick_true (bool_ev rfl hg) rfl) ?_
      exact hcut _ (ssub_head (by first | rfl | (rw [hg]; rfl) | simp_all) (ssub_skip rfl (ssub_skip rfl (ssub_skip rfl (ssub_skip rfl (ssub_refl))))))
    refine st_vg rfl rfl (v_move rfl) (st_cut (k := 44) (d := 76) (v := .bool (((a != b) && has l a b) && has l b a)) (fun hcut => bool_want (b := ((a != b) && has l a b)) true (fun hg => ?_) (fun hg => ?_)) ?_)
    · refine st_sk rfl rfl hg ?_
      refine st_sk rfl rfl hg ?_
      refine st_sk rfl rfl hg ?_
      refine st_sk rfl rfl hg ?_
      refine st_vg rfl rfl (v_pick_false (bool_ev rfl hg) rfl) ?_
      exact hcut _ (ssub_head (by first | rfl | (rw [hg]; rfl) | simp_all) (ssub_skip rfl (ssub_skip rfl (ssub_skip rfl (ssub_skip rfl (ssub_refl))))))
    · skip
      refine st_vg rfl (bool_get rfl hg) (v_move rfl) (st_vg rfl (bool_get rfl hg) (v_move rfl) (st_vg rfl (bool_get rfl hg) (v_move rfl) (st_clrg rfl (bool_get rfl hg) rfl rfl en32 rfl (is_ct hv hR hb ha) ?_)))
      refine st_vg rfl rfl (v_pick_true (bool_ev rfl hg) rfl) ?_
      exact hcut _ (ssub_head (by first | rfl | (rw [hg]; rfl) | simp_all) (ssub_skip rfl (ssub_skip rfl (ssub_skip rfl (ssub_skip rfl (ssub_refl))))))
    refine st_v (v_pick_false rfl rfl) (st_nil (nx_kp [0, 8, 9, 10, 12, 77] rfl (nx_then ?_)))
    rw [and_anti hR]
    refine cd_false rfl ?_
    refine cd_skip (xt_then (cd_seq (cd_region (st_clr rfl rfl en15 rfl (sanityR) ?_))))
    refine st_v (v_move rfl) (st_vg rfl rfl (v_move rfl) (st_vg rfl rfl (v_move rfl) (st_clrg rfl rfl rfl rfl en34 rfl (at_ct (nms_own hok) b (by omega)) ?_)))
    refine st_vg rfl rfl (v_geq rfl rfl) (st_vg rfl rfl (v_move rfl) (st_vg rfl rfl (v_move rfl) (st_vg rfl rfl (v_move rfl) (st_clrg rfl rfl rfl rfl en32 rfl (is_ct hv hR hb ha) ?_))))
    rw [below_at hb]
    refine st_vg rfl rfl (v_eql_bool Try.underlying4 rfl rfl) (st_v (v_pick_true rfl rfl) (st_v (v_assign rfl) (st_nil (nx_kp [8] rfl (nx_then (cd_ret ?_))))))
    rw [beq_self_eq_true]
    refine xt_law rfl ?_
    refine Sub.sel (by repeat (first | exact Sel.here | apply Sel.there)) ?_
    repeat apply Sub.cons
    exact Sub.refl _
end
end Go.Hr
namespace Go.Hr
open Go Go.RowKit Go.Ck Go.Proofs Go.Proofs.Ytjgiaohieadeiaa Fx
attribute [local irreducible] Go.Ck.Sub St Cd Xt Nx DrL LsW
theorem ixS_some {xs : List Nm} {c : Nm} (h : c ∈ xs) : ∃ i : Nat, ixS xs c = (i : Int) ∧ xs[i]? = some c := by
  unfold ixS
  cases hx : xs.findIdx? (· == c) with
  | none =>
    rw [List.findIdx?_eq_none_iff] at hx
    have := hx c h
    simp at this
  | some i =>
    obtain ⟨hi, h1, _⟩ := List.findIdx?_eq_some_iff_getElem.1 hx
    exact ⟨i, rfl, by rw [List.getElem?_eq_getElem hi]; simpa using h1⟩
theorem stand_no {l : Sys} (hR : Right l) {o : List Nm} (hT : Tp l o) (hm : ∀ x, x ∈ o ↔ x ∈ nms l) {c a : Nm} (hc : isC l c = true) : (((c != a) && has l c a) && decide (ixS o c < ixS o a)) = false := by
  cases hh : has l c a with
  | false => simp
  | true =>
    by_cases hca : c = a
    · simp [hca]
    · obtain ⟨i, e1, g1⟩ := ixS_some ((hm c).2 (isC_iff.1 hc))
      obtain ⟨j, e2, g2⟩ := ixS_some ((hm a).2 (isC_iff.1 (has_isC hc hh)))
      have : ¬ ixS o c < ixS o a := by
        rw [e1, e2]
        intro hlt
        have hij : i < j := by omega
        obtain ⟨hi, gi⟩ := List.getElem?_eq_some_iff.1 g1
        obtain ⟨hj, gj⟩ := List.getElem?_eq_some_iff.1 g2
        have := hT.ahead i j hij hj
        rw [gi, gj, hh] at this; cases this
      simp [this]
theorem up_no {l : Sys} {o : List Nm} (hT : Tp l o) {x y : Nat} (hx : x < o.length) (hy : y < x) : ((o[x] == o[y]'(by omega)) || has l (o[y]'(by omega)) o[x]) = false := by
  rw [hT.ahead y x hy hx, Bool.or_false, beq_eq_false_iff_ne]
  intro he
  have hp := List.pairwise_iff_getElem.1 (List.nodup_iff_pairwise_ne.1 hT.nodup)
  exact hp y x (by omega) hx hy he.symm
theorem at_neg {xs : List Nm} {c : Nm} (h : c ∈ xs) : decide (ixS xs c < 0) = false := by
  obtain ⟨i, e, _⟩ := ixS_some h
  rw [e]; simp
theorem up_at {l : Sys} (hR : Right l) (c a : Nm) : decide (0 ≤ ixS (above l c) a) = has l c a := by
  rw [ixS_has, above_has hR.acyc]
theorem sum_take_le (xs : List Nat) (k : Nat) : (xs.take k).sum ≤ xs.sum := by
  have h : (xs.take k ++ xs.drop k).sum = xs.sum := by rw [List.take_append_drop]
  rw [List.sum_append] at h
  omega
/-- How many names the first levels have. -/
def manyL (l : Sys) (x : Nat) : Nat := (((levels l).take x).map List.length).sum
theorem manyL_le {l : Sys} (hR : Right l) (x : Nat) : manyL l x ≤ 24 := by
  have h1 := sum_take_le ((levels l).map List.length) x
  rw [← List.map_take, levels_sum hR.uniq] at h1
  have := hR.len
  unfold manyL
  omega
theorem manyL_succ {l : Sys} {x : Nat} (h : x < (levels l).length) : manyL l (x + 1) = manyL l x + (levels l)[x].length := by
  unfold manyL
  rw [List.take_succ_eq_append_getElem h, List.map_append, List.sum_append]
  simp
theorem level_lv {l : Sys} {x y : Nat} (h : x < (levels l).length) (hy : y < (levels l)[x].length) : lv l (levels l)[x][y] = x ∧ isC l (levels l)[x][y] = true := by
  obtain ⟨h1, h2⟩ := (mem_level h).1 (List.getElem_mem hy)
  exact ⟨h2, isC_iff.2 h1⟩
section
variable {S : Res} {v nv : Value} {l : Sys} {ns : List Nm}
set_option maxHeartbeats 2000000 in
set_option maxRecDepth 100000 in
theorem heirStands_ct (hv : sysR S v l) {i j : Nat} (hi : i ≤ 255) (hj : j ≤ 255) : Ct Try.prog 6 #[v, .int .u8 (i : Int), .int .u8 (j : Int)] [S] fun u h' => u = .bool true ∧ h' = [S] := by
  obtain ⟨la, cap, rfl, _⟩ := id hv
  refine ct_of (n := 228) Try.func6 rfl rfl (len rfl) fun hr w0 => ?_
  refine cd_seq (cd_region (st_v (v_assign rfl) (st_nil (nx_then (cd_seq (cd_seq (cd_region (st_v (v_move rfl) (st_clr rfl rfl en29 rfl (rightR hv) ?_)))))))))
  refine st_v (v_not rfl) (st_nil (nx_kp [0, 1, 2, 6, 26] rfl (nx_then (cd_cond rfl (fun hrg => ?_) (fun hrg => ?_)))))
  · skip
    refine cd_seq (cd_region (st_clr rfl rfl en15 rfl (sanityR) ?_))
    refine st_v (v_assign rfl) (st_nil (nx_kp [6] rfl (nx_then (cd_ret (xt_ret_then (xt_law rfl ?_))))))
    refine Sub.sel (by repeat (first | exact Sel.here | apply Sel.there)) ?_
    repeat apply Sub.cons
    exact Sub.refl _
  · skip
    have hrg : rightB l = true := by simpa using hrg
    obtain ⟨hR, h0⟩ := rightB_iff.1 hrg
    have hFl := hR.len
    refine cd_skip (xt_then (cd_seq (cd_region (st_v (v_move rfl) (st_v (v_move rfl) (st_clr rfl rfl en30 rfl (name_ct hv h0 (by omega) hi) ?_))))))
    refine st_v (v_assign rfl) (st_nil (nx_kp [0, 2, 6, 7] rfl (nx_then (cd_seq (cd_region (st_v (v_move rfl) (st_v (v_move rfl) (st_clr rfl rfl en30 rfl (name_ct hv h0 (by omega) hj) ?_))))))))
    refine st_v (v_assign rfl) (st_nil (nx_kp [0, 6, 7, 8] rfl (nx_then (cd_seq (cd_region (st_v (v_move rfl) ?_))))))
    have hcC := nmAt_isC h0 i
    have haC := nmAt_isC h0 j
    generalize nmAt l i = c at *
    generalize nmAt l j = a at *
    obtain ⟨hoT, hom⟩ := order_spec hR.acyc hR.uniq
    have hol : (order l).length = l.length := ordN_len l l.length
    obtain ⟨huT, hum⟩ := above_spec hR.acyc c
    have hul := above_len hR.acyc hcC
    obtain ⟨up0, hup⟩ := above_last hR.acyc c
    have hst := stand_no hR hoT hom hcC (a := a)
    have hneg := at_neg ((hom c).2 (isC_iff.1 hcC))
    have huat := up_at hR c a
    refine st_cl rfl rfl en16 rfl (Order_ct hv) ?_
    rintro u h' ⟨T, rfl, w9, rfl, hw9, rfl⟩
    rw [right0 hR, okL_eq rfl]
    simp only [List.cons_append, List.nil_append]
    refine st_ok (r := NR w9 (order l)) (by repeat (first | exact Sel.here | apply Sel.there)) fun hok9 => ?_
    have hno9 := nms_own hok9
    refine st_v (v_move rfl) (st_v (v_extract rfl rfl) (st_v (v_extract rfl rfl) (st_v (v_assign rfl) (st_v (v_assign rfl) (st_nil (nx_kp [0, 6, 7, 8, 9, 10] rfl (nx_then (cd_seq (cd_region (st_v (v_move rfl) (st_cl rfl rfl en18 rfl (Levels_ct hv) ?_)))))))))))
    rintro u h' ⟨w11, va, rfl, hw11, hvl, rfl⟩
    rw [right0 hR, okL_eq rfl] at hvl
    rw [right0 hR, okL_eq rfl]
    simp only [List.cons_append, List.nil_append]
    refine st_ok (r := LR w11 va (levels l)) (by repeat (first | exact Sel.here | apply Sel.there)) fun hok11 => ?_
    have hno11 := ll_own hok11 hvl
    refine st_v (v_move rfl) (st_v (v_extract rfl rfl) (st_v (v_extract rfl rfl) (st_v (v_assign rfl) (st_v (v_assign rfl) (st_nil (nx_kp [0, 6, 7, 8, 9, 10, 11, 12] rfl (nx_then (cd_seq (cd_region (st_v (v_move rfl) (st_v (v_move rfl) (st_cl rfl rfl en33 rfl (Above_ct hv c) ?_))))))))))))
    rintro u h' ⟨T, rfl, w13, rfl, hw13, rfl⟩
    rw [right1 hR hcC, okL_eq rfl]
    simp only [List.cons_append, List.nil_append]
    refine st_ok (r := NR w13 (above l c)) (by repeat (first | exact Sel.here | apply Sel.there)) fun hok13 => ?_
    have hno13 := nms_own hok13
    generalize hO : order l = o at *
    generalize hU : above l c = up at *
    obtain ⟨oa, ocp, rfl, _⟩ := id hno9
    obtain ⟨ua, ucp, rfl, _⟩ := id hno13
    obtain ⟨va1, vcp, rfl, _⟩ := id hno11
    obtain ⟨tb, to, tcap, htv, htrd⟩ := nms_at hno13 (show up[up0.length]? = some c by rw [hup]; simp)
    have hupl : up.length = up0.length + 1 := by rw [hup]; simp
    refine st_v (v_move rfl) (st_v (v_extract rfl rfl) (st_v (v_extract rfl rfl) (st_v (v_assign rfl) (st_v (v_assign rfl) (st_nil (nx_kp [0, 6, 7, 8, 9, 10, 11, 12, 13, 14] rfl (nx_then (cd_seq (cd_seq (cd_region (st_v (v_move rfl) (st_v (v_neq rfl rfl) (st_v (v_move rfl) (st_vg rfl rfl (v_move rfl) (st_vg rfl rfl (v_neq rfl rfl) ?_)))))))))))))))
    refine st_v (v_pick_false rfl rfl) (st_v (v_move rfl) (st_vg rfl rfl (v_move rfl) (st_vg rfl rfl (v_neq rfl rfl) (st_v (v_pick_false rfl rfl) (st_v (v_move rfl) (st_vg rfl rfl (v_move rfl) (st_vg rfl rfl (v_len rfl Try.underlying25) (st_vg rfl rfl (v_move rfl) (st_vg rfl rfl (v_len rfl Try.underlying22) (st_vg rfl rfl (v_neq rfl rfl) (st_v (v_pick_false rfl rfl) (st_v (v_move rfl) ?_))))))))))))
    rw [show ((o.length : Int) != (l.length : Int)) = false by rw [bne_eq_false_iff_eq]; omega]
    refine st_vg rfl rfl (v_move rfl) (st_vg rfl rfl (v_move rfl) (st_clrg rfl rfl rfl rfl en34 rfl (at_ct hno9 c (by omega)) ?_))
    refine st_vg rfl rfl (v_lss rfl rfl) (st_v (v_pick_false rfl rfl) (st_v (v_move rfl) ?_))
    rw [hneg]
    refine st_vg rfl rfl (v_move rfl) (st_vg rfl rfl (v_move rfl) (st_clrg rfl rfl rfl rfl en34 rfl (at_ct hno13 a (by omega)) ?_))
    refine st_vg rfl rfl (v_geq rfl rfl) (st_vg rfl rfl (v_move rfl) (st_vg rfl rfl (v_move rfl) (st_vg rfl rfl (v_move rfl) (st_clrg rfl rfl rfl rfl en32 rfl (is_ct hv hR hcC haC) ?_))))
    rw [huat]
    refine st_vg rfl rfl (v_neq_bool Try.underlying4 rfl rfl) ?_
    rw [beq_self_eq_true]
    refine st_v (v_pick_false rfl rfl) (st_v (v_move rfl) (st_vg rfl rfl (v_move rfl) (st_vg rfl rfl (v_len rfl Try.underlying25) (st_vg rfl rfl (v_eql rfl rfl) (st_v (v_pick_false rfl rfl) (st_v (v_move rfl) ?_))))))
    rw [show ((up.length : Int) == 0) = false by rw [beq_eq_false_iff_ne]; omega]
    refine st_vg rfl rfl (v_move rfl) (st_vg rfl rfl (v_move rfl) (st_vg rfl rfl (v_len rfl Try.underlying25) (st_vg rfl rfl (v_sub rfl rfl (by unfold I64 at *; omega)) (st_vg rfl rfl (v_indexAddr (k := up0.length) (congrArg some htv) rfl sl25 (by omega) (by omega) rfl) (st_vg rfl rfl (v_ldy rfl ld9) ?_)))))
    refine st_vg rfl rfl (v_move rfl) (st_vg rfl rfl (v_sneq rfl rfl) (st_v (v_pick_false rfl rfl) (st_nil (nx_kp [0, 6, 7, 8, 9, 11, 13, 98] rfl (nx_then ?_)))))
    rw [beq_self_eq_true]
    refine cd_false rfl ?_
    refine cd_skip (xt_then (cd_seq (cd_seq (cd_region (st_v (v_move rfl) (st_v (v_move rfl) (st_v (v_sneq rfl rfl) (st_v (v_move rfl) (st_cut (k := 9) (d := 107) (v := .bool ((c != a) && has l c a)) (fun hcut => bool_want (b := (c != a)) true (fun hg => ?_) (fun hg => ?_)) ?_)))))))))
    · refine st_sk rfl rfl hg ?_
      refine st_sk rfl rfl hg ?_
      refine st_sk rfl rfl hg ?_
      refine st_sk rfl rfl hg ?_
      refine st_v (v_pick_false (bool_ev rfl hg) rfl) ?_
      exact hcut _ (ssub_head (by first | rfl | (rw [hg]; rfl) | simp_all) (ssub_skip rfl (ssub_skip rfl (ssub_skip rfl (ssub_skip rfl (ssub_refl))))))
    · skip
      refine st_vg rfl (bool_get rfl hg) (v_move rfl) (st_vg rfl (bool_get rfl hg) (v_move rfl) (st_vg rfl (bool_get rfl hg) (v_move rfl) (st_clrg rfl (bool_get rfl hg) rfl rfl en32 rfl (is_ct hv hR hcC haC) ?_)))
      refine st_v (v_pick_true (bool_ev rfl hg) rfl) ?_
      exact hcut _ (ssub_head (by first | rfl | (rw [hg]; rfl) | simp_all) (ssub_skip rfl (ssub_skip rfl (ssub_skip rfl (ssub_skip rfl (ssub_refl))))))
    refine st_v (v_move rfl) (st_cut (k := 18) (d := 116) (v := .bool (((c != a) && has l c a) && decide (ixS o c < ixS o a))) (fun hcut => bool_want (b := ((c != a) && has l c a)) true (fun hg => ?_) (fun hg => ?_)) ?_)
    · refine st_sk rfl rfl hg ?_
      refine st_sk rfl rfl hg ?_
      refine st_sk rfl rfl hg ?_
      refine st_sk rfl rfl hg ?_
      refine st_sk rfl rfl hg ?_
      refine st_sk rfl rfl hg ?_
      refine st_sk rfl rfl hg ?_
      refine st_v (v_pick_false (bool_ev rfl hg) rfl) ?_
      exact hcut _ (ssub_head (by first | rfl | (rw [hg]; rfl) | simp_all) (ssub_skip rfl (ssub_skip rfl (ssub_skip rfl (ssub_skip rfl (ssub_skip rfl (ssub_skip rfl (ssub_skip rfl (ssub_refl)))))))))
    · skip
      refine st_vg rfl (bool_get rfl hg) (v_move rfl) (st_vg rfl (bool_get rfl hg) (v_move rfl) (st_clrg rfl (bool_get rfl hg) rfl rfl en34 rfl (at_ct hno9 c (by omega)) ?_))
      refine st_vg rfl (bool_get rfl hg) (v_move rfl) (st_vg rfl (bool_get rfl hg) (v_move rfl) (st_clrg rfl (bool_get rfl hg) rfl rfl en34 rfl (at_ct hno9 a (by omega)) ?_))
      refine st_vg rfl (bool_get rfl hg) (v_lss rfl rfl) (st_v (v_pick_true (bool_ev rfl hg) rfl) ?_)
      exact hcut _ (ssub_head (by first | rfl | (rw [hg]; rfl) | simp_all) (ssub_skip rfl (ssub_skip rfl (ssub_skip rfl (ssub_skip rfl (ssub_skip rfl (ssub_skip rfl (ssub_skip rfl (ssub_refl)))))))))
    rw [hst]
    refine st_nil (nx_kp [0, 6, 11, 13, 116] rfl (nx_then (cd_false rfl ?_)))
    refine cd_skip (xt_then (cd_seq (cd_seq (cd_region (st_v (v_assign rfl) (st_nil (nx_kp [0, 6, 11, 13, 15] rfl (nx_then (cd_block (cd_lq (σ := Nat) (fun x => [(0, .slice la l.length cap), (11, .slice va1 (levels l).length vcp), (13, .slice ua up.length ucp), (15, .int .i64 (x : Nat))]) (fun _ => NR (.slice ua up.length ucp) up :: LR (.slice va1 (levels l).length vcp) va (levels l) :: S :: hr) (fun x => x ≤ up.length) (fun x => up.length - x) 0 (Nat.zero_le _) ?_))))))))))
    rintro x hx
    refine cd_seq (cd_seq (cd_region (st_v (v_move rfl) (st_v (v_move rfl) (st_v (v_len rfl Try.underlying25) (st_v (v_lss rfl rfl) (st_nil (nx_kp [0, 11, 13, 15, 120] rfl (nx_then (cd_cond rfl (fun hd => ?_) (fun hd => ?_)))))))))))
    · skip
      have hxl : x < up.length := by simpa using hd
      obtain ⟨xb, xo, xcap, hxv, hxrd⟩ := nms_at hno13 (List.getElem?_eq_getElem hxl)
      have hxC : isC l up[x] = true := has_isC hcC ((hum _).1 (List.getElem_mem hxl))
      refine cd_skip (xt_then (cd_seq (cd_block (cd_seq (cd_region (st_v (v_assign rfl) (st_nil (nx_kp [0, 11, 13, 15, 16] rfl (nx_then (cd_block (cd_lq (σ := Nat) (fun y => [(0, .slice la l.length cap), (11, .slice va1 (levels l).length vcp), (13, .slice ua up.length ucp), (15, .int .i64 (x : Nat)), (16, .int .i64 (y : Nat))]) (fun _ => NR (.slice ua up.length ucp) up :: LR (.slice va1 (levels l).length vcp) va (levels l) :: S :: hr) (fun y => y ≤ x) (fun y => x - y) 0 (Nat.zero_le _) ?_)))))))))))
      rintro y hy
      refine cd_seq (cd_seq (cd_region (st_v (v_move rfl) (st_v (v_move rfl) (st_v (v_lss rfl rfl) (st_nil (nx_kp [0, 11, 13, 15, 16, 125] rfl (nx_then (cd_cond rfl (fun hd2 => ?_) (fun hd2 => ?_))))))))))
      · skip
        have hyx : y < x := by have : (y : Int) < x := by simpa using hd2
                               omega
        have hyl : y < up.length := by omega
        obtain ⟨yb, yo, ycap, hyv, hyrd⟩ := nms_at hno13 (List.getElem?_eq_getElem hyl)
        have hyC : isC l up[y] = true := has_isC hcC ((hum _).1 (List.getElem_mem hyl))
        have hno := up_no huT hxl hyx
        refine cd_skip (xt_then (cd_seq (cd_block (cd_seq (cd_drawh (ork [(0, 2), (1, 2), (2, 2), (3, 1), (4, 2), (5, 2), (6, 2), (7, 1), (8, 1), (9, 2), (10, 2), (11, 2), (12, 2), (13, 2), (14, 1), (15, 2), (16, 2), (17, 2), (18, 1), (19, 1), (20, 2)] .nil) (fun _ => true) mixed (by kernel_rfl) ?_)))))
        refine dp_v rfl (v_move rfl) (dp_v rfl (v_move rfl) (dp_v rfl (v_indexAddr (k := x) (congrArg some hxv) rfl sl25 rfl hxl rfl) (dr_v rfl (v_ldy rfl ld9) ?_)))
        refine dp_v rfl (v_move rfl) (dp_v rfl (v_move rfl) (dp_v rfl (v_indexAddr (k := y) (congrArg some hyv) rfl sl25 rfl hyl rfl) (dr_v rfl (v_ldy rfl ld9) ?_)))
        refine dr_v rfl (v_seql rfl rfl) (dp_v rfl (v_move rfl) (dr_cut (k := 11) (d := 148) (v := .bool ((up[x] == up[y]) || has l up[y] up[x])) (fun hcut => bool_want (b := (up[x] == up[y])) false (fun hg => ?_) (fun hg => ?_)) ?_))
        · refine dp_sk rfl rfl rfl hg ?_
          refine dp_sk rfl rfl rfl hg ?_
          refine dp_sk rfl rfl rfl hg ?_
          refine dp_sk rfl rfl rfl hg ?_
          refine dr_sk rfl rfl rfl hg ?_
          refine dp_sk rfl rfl rfl hg ?_
          refine dp_sk rfl rfl rfl hg ?_
          refine dp_sk rfl rfl rfl hg ?_
          refine dr_sk rfl rfl rfl hg ?_
          refine dr_sk rfl rfl rfl hg ?_
          refine dp_v rfl (v_pick_true (bool_ev rfl hg) rfl) ?_
          exact hcut _ (ssub_head (by first | rfl | (rw [hg]; rfl) | simp_all) (ssub_skip rfl (ssub_skip rfl (ssub_skip rfl (ssub_skip rfl (ssub_skip rfl (ssub_skip rfl (ssub_skip rfl (ssub_skip rfl (ssub_skip rfl (ssub_skip rfl (ssub_refl))))))))))))
        · skip
          refine dp_vg rfl rfl (bool_get rfl hg) (v_move rfl) (dp_vg rfl rfl (bool_get rfl hg) (v_move rfl) (dp_vg rfl rfl (bool_get rfl hg) (v_move rfl) (dp_vg rfl rfl (bool_get rfl hg) (v_indexAddr (k := y) (congrArg some hyv) rfl sl25 rfl hyl rfl) (dr_vg rfl rfl (bool_get rfl hg) (v_ldy rfl ld9) ?_))))
          refine dp_vg rfl rfl (bool_get rfl hg) (v_move rfl) (dp_vg rfl rfl (bool_get rfl hg) (v_move rfl) (dp_vg rfl rfl (bool_get rfl hg) (v_indexAddr (k := x) (congrArg some hxv) rfl sl25 rfl hxl rfl) (dr_vg rfl rfl (bool_get rfl hg) (v_ldy rfl ld9) ?_)))
          refine dr_clrg rfl rfl (bool_get rfl hg) rfl rfl en32 rfl (is_ct hv hR hyC hxC) ?_
          refine dp_v rfl (v_pick_false (bool_ev rfl hg) rfl) ?_
          exact hcut _ (ssub_head (by first | rfl | (rw [hg]; rfl) | simp_all) (ssub_skip rfl (ssub_skip rfl (ssub_skip rfl (ssub_skip rfl (ssub_skip rfl (ssub_skip rfl (ssub_skip rfl (ssub_skip rfl (ssub_skip rfl (ssub_skip rfl (ssub_refl))))))))))))
        rw [hno]
        refine dr_nil (nx_kp [0, 11, 13, 15, 16, 148] rfl (nx_then (cd_false rfl ?_)))
        refine cd_skip (xt_normal_block (xt_then (cd_region (st_v (v_move rfl) (st_v (v_add rfl rfl (by unfold I64 at *; omega)) (st_v (v_assign rfl) (st_nil (nx_kp [0, 11, 13, 15, 16] rfl (nx_xt ?_)))))))))
        refine xt_aq (y + 1) hyx (by show _ - _ < _ - _; omega)
      · skip
        refine cd_exit (xt_exit_then (xt_exit_then (xt_exit_block (xt_normal_block (xt_then (cd_region (st_v (v_move rfl) (st_v (v_add rfl rfl (by unfold I64 at *; omega)) (st_v (v_assign rfl) (st_nil (nx_kp [0, 11, 13, 15] rfl (nx_xt ?_))))))))))))
        refine xt_aq (x + 1) hxl (by show _ - _ < _ - _; omega)
    · skip
      refine cd_exit (xt_exit_then (xt_exit_then (xt_exit_block (xt_then (cd_seq (cd_region (st_smakeMap (ltn rfl) fun b149 => ?_)))))))
      refine st_v (v_assign rfl) (st_nil (nx_kp [0, 11, 17] rfl (nx_then (cd_seq (cd_region (st_v (v_assign rfl) (st_nil (nx_then (cd_seq (cd_seq (cd_region (st_v (v_assign rfl) (st_nil (nx_then (cd_block ?_)))))))))))))))
      rw [show ([] : List (Bs × Value)) = mvG iV [] from rfl]
      have hlv := @level_lv l
      have hml := manyL_le hR
      have hms := @manyL_succ l
      have hld := @lv_done l hR.acyc
      have hmall : manyL l (levels l).length = l.length := by unfold manyL; rw [List.take_length, levels_sum hR.uniq]
      have hll := levels_len (l := l)
      have hhl := high_le hR.acyc
      refine cd_lq (σ := Nat × List (Nm × Nat)) (fun q => [(0, .slice la l.length cap), (11, .slice va1 (levels l).length vcp), (17, .map (some b149)), (18, .int .i64 ((manyL l q.1 : Nat) : Int)), (19, .int .i64 (q.1 : Nat))]) (fun q => mps b149 (mvG iV q.2) :: LR (.slice va1 (levels l).length vcp) va (levels l) :: S :: hr) (fun q => q.1 ≤ (levels l).length ∧ LvI l ((levels l).take q.1).flatten q.2) (fun q => (levels l).length - q.1) (0, []) ⟨Nat.zero_le _, LvI.init⟩ ?_
      rintro ⟨x, F⟩ ⟨hx, hI⟩
      simp only at hx hI
      dsimp only
      refine cd_seq (cd_seq (cd_region (st_v (v_move rfl) (st_v (v_move rfl) (st_v (v_len rfl Try.underlying32) (st_v (v_lss rfl rfl) (st_nil (nx_kp [0, 11, 17, 18, 19, 153] rfl (nx_then (cd_cond rfl (fun hd3 => ?_) (fun hd3 => ?_)))))))))))
      · skip
        have hxl : x < (levels l).length := by simpa using hd3
        obtain ⟨xb, xo, xcap, xu, hxv, hxrd, hxu⟩ := ll_at hno11 (List.getElem?_eq_getElem hxl)
        obtain ⟨ra, rcp, rfl, _⟩ := id hxu
        have hm1 := hml x
        have hm2 := hml (x + 1)
        have hm3 := hms hxl
        refine cd_skip (xt_then (cd_seq (cd_block (cd_seq (cd_region (st_v (v_move rfl) (st_v (v_move rfl) (st_v (v_move rfl) (st_v (v_indexAddr (k := x) (congrArg some hxv) rfl sl32 rfl hxl rfl) (st_v (v_ldy rfl ld25) ?_))))))))))
        refine st_v (v_len rfl Try.underlying25) (st_v (v_add rfl rfl (by unfold I64 at *; omega)) (st_v (v_assign rfl) (st_nil (nx_kp [0, 11, 17, 18, 19] rfl (nx_then (cd_seq (cd_region (st_v (v_assign rfl) (st_nil (nx_then (cd_block ?_)))))))))))
        rw [show ((manyL l x : Nat) : Int) + ((levels l)[x].length : Int) = ((manyL l (x + 1) : Nat) : Int) by omega]
        refine cd_lq (σ := Nat × List (Nm × Nat)) (fun q => [(0, .slice la l.length cap), (11, .slice va1 (levels l).length vcp), (17, .map (some b149)), (18, .int .i64 ((manyL l (x + 1) : Nat) : Int)), (19, .int .i64 (x : Nat)), (20, .int .i64 (q.1 : Nat))]) (fun q => mps b149 (mvG iV q.2) :: LR (.slice va1 (levels l).length vcp) va (levels l) :: S :: hr) (fun q => q.1 ≤ (levels l)[x].length ∧ LvI l (((levels l).take x).flatten ++ (levels l)[x].take q.1) q.2) (fun q => (levels l)[x].length - q.1) (0, F) ⟨Nat.zero_le _, by simpa using hI⟩ ?_
        rintro ⟨y, F2⟩ ⟨hy, hI2⟩
        simp only at hy hI2
        dsimp only
        refine cd_seq (cd_seq (cd_region (st_v (v_move rfl) (st_v (v_move rfl) (st_v (v_move rfl) (st_v (v_indexAddr (k := x) (congrArg some hxv) rfl sl32 rfl hxl rfl) (st_v (v_ldy rfl ld25) ?_)))))))
        refine st_v (v_len rfl Try.underlying25) (st_v (v_lss rfl rfl) (st_nil (nx_kp [0, 11, 17, 18, 19, 20, 169] rfl (nx_then (cd_cond rfl (fun hd4 => ?_) (fun hd4 => ?_))))))
        · skip
          have hyl : y < (levels l)[x].length := by simpa using hd4
          obtain ⟨hlv1, hlv2⟩ := hlv hxl hyl
          obtain ⟨yb, yo, ycap, hyv, hyrd⟩ := nms_at hxu (List.getElem?_eq_getElem hyl)
          have hI3 := hI2.next hlv1
          rw [List.append_assoc, ← List.take_succ_eq_append_getElem hyl] at hI3
          generalize (levels l)[x][y] = n at *
          refine cd_skip (xt_then (cd_seq (cd_block (cd_region (st_v (v_move rfl) (st_v (v_move rfl) (st_v (v_move rfl) (st_v (v_indexAddr (k := x) (congrArg some hxv) rfl sl32 rfl hxl rfl) (st_v (v_ldy rfl ld25) ?_)))))))))
          refine st_v (v_move rfl) (st_v (v_indexAddr (k := y) (congrArg some hyv) rfl sl25 rfl hyl rfl) (st_v (v_ldy rfl ld9) ?_))
          refine st_v (v_move rfl) (st_v (v_add rfl rfl (by unfold I64 at *; omega)) (st_smapUpdate rfl rfl rfl mp69 (by repeat (first | exact Sel.here | apply Sel.there)) ?_))
          refine st_nil (nx_kp [0, 11, 17, 18, 19, 20] rfl (nx_xt (xt_normal_block (xt_then (cd_region (st_v (v_move rfl) (st_v (v_add rfl rfl (by unfold I64 at *; omega)) (st_v (v_assign rfl) (st_nil (nx_kp [0, 11, 17, 18, 19, 20] rfl (nx_xt ?_)))))))))))
          rw [show supd (mvG iV F2) n (.int .i64 ((x : Int) + 1)) = mvG iV (aupd F2 n (x + 1)) from supd_mvG iV F2 n (x + 1)]
          refine xt_aq (y + 1, aupd F2 n (x + 1)) ⟨hyl, hI3⟩ (by show _ - _ < _ - _; omega)
        · skip
          have hye : y = (levels l)[x].length := by have : ¬ y < (levels l)[x].length := by simpa using hd4
                                                    omega
          rw [hye, List.take_length] at hI2
          refine cd_exit (xt_exit_then (xt_exit_then (xt_exit_block (xt_normal_block (xt_then (cd_region (st_v (v_move rfl) (st_v (v_add rfl rfl (by unfold I64 at *; omega)) (st_v (v_assign rfl) (st_nil (nx_kp [0, 11, 17, 18, 19] rfl (nx_xt ?_))))))))))))
          refine xt_aq (x + 1, F2) ⟨hxl, by show LvI l ((levels l).take (x + 1)).flatten F2; rw [List.take_succ_eq_append_getElem hxl, List.flatten_append]; simpa using hI2⟩ (by show _ - _ < _ - _; omega)
      · skip
        have hxe : x = (levels l).length := by have : ¬ x < (levels l).length := by simpa using hd3
                                               omega
        rw [hxe, List.take_length] at hI
        rw [hxe, hmall]
        have hlk : ∀ n, isC l n = true → (slook (mvG iV F) n).getD (.int .i64 0) = .int .i64 ((lv l n + 1 : Nat) : Int) := fun n hn => by rw [nval_look, hld hI hn]
        refine cd_exit (xt_exit_then (xt_exit_then (xt_exit_block (xt_then (cd_seq (cd_seq (cd_region (st_v (v_assign rfl) (st_nil (nx_kp [0, 17, 18, 21] rfl (nx_then (cd_block ?_))))))))))))
        have hl24 := lv_24 hR.acyc hFl
        have hmo : ∀ ps, most l ps ≤ 25 := fun ps => mx_le fun z hz => by
          obtain ⟨q, _, rfl⟩ := List.mem_map.1 hz
          have := hl24 q
          omega
        refine cd_lq (σ := Nat) (fun x => [(0, .slice la l.length cap), (17, .map (some b149)), (18, .int .i64 (l.length : Int)), (21, .int .i64 (x : Nat))]) (fun _ => mps b149 (mvG iV F) :: S :: hr) (fun x => x ≤ l.length) (fun x => l.length - x) 0 (Nat.zero_le _) ?_
        rintro z hz
        refine cd_seq (cd_seq (cd_region (st_v (v_move rfl) (st_v (v_move rfl) (st_v (v_len rfl Try.underlying22) (st_v (v_lss rfl rfl) (st_nil (nx_kp [0, 17, 18, 21, 185] rfl (nx_then (cd_cond rfl (fun hd5 => ?_) (fun hd5 => ?_)))))))))))
        · skip
          have hzl : z < l.length := by simpa using hd5
          obtain ⟨b, o2, cap2, d, f, pa, pc, c2, fa, fc, j2, hv2, hrd, hP, hone⟩ := sys_at hv (List.getElem?_eq_getElem hzl)
          have hcm : l[z] ∈ l := List.getElem_mem hzl
          have hzC : isC l (l[z]).name = true := isC_iff.2 (List.mem_map.2 ⟨_, hcm, rfl⟩)
          have hpar := hR.par_eq hcm
          have hpall := hR.all _ hcm
          have hpf := hR.few _ hcm
          have hlz : lv l (l[z]).name = most l (l[z]).parents := by rw [lv_rec hR.acyc, hpar]; rfl
          generalize l[z] = cx at *
          refine cd_skip (xt_then (cd_seq (cd_block (cd_seq (cd_region (st_v (v_assign rfl) (st_nil (nx_kp [0, 17, 18, 21, 22] rfl (nx_then (cd_seq (cd_seq (cd_region (st_v (v_assign rfl) (st_nil (nx_then (cd_block ?_))))))))))))))))
          refine cd_lq (σ := Nat) (fun p => [(0, .slice la l.length cap), (17, .map (some b149)), (18, .int .i64 (l.length : Int)), (21, .int .i64 (z : Nat)), (22, .int .i64 ((most l (cx.parents.take p) : Nat) : Int)), (23, .int .i64 (p : Nat))]) (fun _ => mps b149 (mvG iV F) :: S :: hr) (fun p => p ≤ cx.parents.length) (fun p => cx.parents.length - p) 0 (Nat.zero_le _) ?_
          rintro p hp
          refine cd_seq (cd_seq (cd_region (st_v (v_move rfl) (st_v (v_move rfl) (st_v (v_move rfl) (st_v (v_indexAddr (k := z) (congrArg some hv2) rfl sl22 rfl hzl rfl) (st_v (v_fieldAddr rfl fa61_3 rfl) (st_v (v_ldy rfl ld57) ?_))))))))
          refine st_v (v_len rfl Try.underlying57) (st_v (v_lss rfl rfl) (st_nil (nx_kp [0, 17, 18, 21, 22, 23, 195] rfl (nx_then (cd_cond rfl (fun hd6 => ?_) (fun hd6 => ?_))))))
          · skip
            have hpl : p < cx.parents.length := by simpa using hd6
            obtain ⟨pb, po, pcap, q1, q2, q3, q4, q5, hpv, hprd, hpone⟩ := par_at hP (List.getElem?_eq_getElem hpl)
            have hpC := hpall _ (List.getElem_mem hpl)
            have hmn := most_snoc (l := l) (cx.parents.take p) cx.parents[p]
            rw [← List.take_succ_eq_append_getElem hpl] at hmn
            have hm1 := hmo (cx.parents.take p)
            generalize cx.parents[p] = pn at *
            have hm2 := hl24 pn
            refine cd_skip (xt_then (cd_seq (cd_block (cd_region (st_v (v_move rfl) (st_v (v_move rfl) (st_v (v_move rfl) (st_v (v_move rfl) (st_v (v_indexAddr (k := z) (congrArg some hv2) rfl sl22 rfl hzl rfl) (st_v (v_fieldAddr rfl fa61_3 rfl) (st_v (v_ldy rfl ld57) ?_)))))))))))
            refine st_v (v_move rfl) (st_v (v_indexAddr (k := p) (congrArg some hpv) rfl sl57 rfl hpl rfl) (st_v (v_fieldAddr rfl fa65_0 rfl) (st_v (v_ldy rfl ld9) ?_)))
            refine st_v (v_is (hlk pn hpC) (v_slookup rfl rfl mp69 inf3 (by repeat (first | exact Sel.here | apply Sel.there)))) ?_
            refine st_v (v_imax (a := most l (cx.parents.take p)) (b := lv l pn + 1) rfl rfl) ?_
            rw [← hmn]
            refine st_v (v_assign rfl) (st_nil (nx_kp [0, 17, 18, 21, 22, 23] rfl (nx_xt (xt_normal_block (xt_then (cd_region (st_v (v_move rfl) (st_v (v_add rfl rfl (by unfold I64 at *; omega)) (st_v (v_assign rfl) (st_nil (nx_kp [0, 17, 18, 21, 22, 23] rfl (nx_xt ?_))))))))))))
            refine xt_aq (p + 1) hpl (by show _ - _ < _ - _; omega)
          · skip
            have hpe : p = cx.parents.length := by have : ¬ p < cx.parents.length := by simpa using hd6
                                                   omega
            have hmf := hmo cx.parents
            subst hpe
            rw [List.take_length, ← hlz]
            have hmz := hl24 cx.name
            refine cd_exit (xt_exit_then (xt_exit_then (xt_exit_block (xt_then (cd_seq (cd_region (st_v (v_move rfl) (st_v (v_move rfl) (st_v (v_move rfl) (st_v (v_indexAddr (k := z) (congrArg some hv2) rfl sl22 rfl hzl rfl) (st_v (v_fieldAddr rfl fa61_0 rfl) (st_v (v_ldy rfl ld9) ?_))))))))))))
            refine st_v (v_is (hlk cx.name hzC) (v_slookup rfl rfl mp69 inf3 (by repeat (first | exact Sel.here | apply Sel.there)))) ?_
            refine st_v (v_move rfl) (st_v (v_add rfl rfl (by unfold I64 at *; omega)) (st_v (v_neq rfl rfl) (st_nil (nx_kp [0, 17, 18, 21, 220] rfl (nx_then ?_)))))
            rw [show (((lv l cx.name + 1 : Nat) : Int) != (lv l cx.name : Int) + 1) = false by rw [bne_eq_false_iff_eq]; omega]
            refine cd_false rfl ?_
            refine cd_skip (xt_normal_block (xt_then (cd_region (st_v (v_move rfl) (st_v (v_add rfl rfl (by unfold I64 at *; omega)) (st_v (v_assign rfl) (st_nil (nx_kp [0, 17, 18, 21] rfl (nx_xt ?_)))))))))
            refine xt_aq (z + 1) hzl (by show _ - _ < _ - _; omega)
        · skip
          refine cd_exit (xt_exit_then (xt_exit_then (xt_exit_block (xt_then (cd_seq (cd_region (st_clr rfl rfl en15 rfl (sanityR) ?_)))))))
          refine st_v (v_move rfl) (st_vg rfl rfl (v_move rfl) (st_vg rfl rfl (v_move rfl) (st_vg rfl rfl (v_len rfl Try.underlying22) (st_vg rfl rfl (v_eql rfl rfl) (st_v (v_pick_true rfl rfl) (st_v (v_assign rfl) (st_nil (nx_kp [6] rfl (nx_then (cd_ret ?_))))))))))
          rw [beq_self_eq_true]
          refine xt_law rfl ?_
          refine Sub.sel (by repeat (first | exact Sel.here | apply Sel.there)) ?_
          repeat apply Sub.cons
          exact Sub.refl _
end
end Go.Hr
