/-
  HeirIsOrder. Conditions: what is read.
  Package heir: Touched, CheckWay, CheckRing with names that are read where the system is read. Conditions: what is read.
  HeirReaches. Conditions: what is read.
-/
import Derived.Test.YtjgiaohieadeiaaM8
set_option linter.unusedVariables false
set_option linter.unusedSimpArgs false
namespace Go.Hr
open Go Go.RowKit Go.Ck Go.Proofs Go.Proofs.Ytjgiaohieadeiaa Fx
attribute [local irreducible] Go.Ck.Sub St Cd Xt Nx DrL LsW
theorem rightR {S : Res} {v : Value} {l : Sys} (hv : sysR S v l) : Reads Try.prog 29 #[v] [S] (.bool (rightB l)) := rightL_ct hv
theorem below_at {l : Sys} {a b : Nm} (hb : isC l b = true) : decide (0 ≤ ixS (below l a) b) = has l b a := by
  rw [ixS_has, Bool.eq_iff_iff, List.contains_iff_mem, mem_below]
  exact ⟨fun h => h.2, fun h => ⟨isC_iff.1 hb, h⟩⟩
theorem and_trans {l : Sys} {a b c : Nm} : ((has l a b && has l b c) && !has l a c) = false := by
  cases h1 : has l a b <;> cases h2 : has l b c <;> simp
  exact has_trans h1 h2
theorem and_anti {l : Sys} (hR : Right l) {a b : Nm} : (((a != b) && has l a b) && has l b a) = false := by
  cases h1 : has l a b <;> cases h2 : has l b a <;> simp
  exact has_antisymm hR.acyc h1 h2
section
variable {S : Res} {v : Value} {l : Sys}
set_option maxRecDepth 100000 in
theorem heirIsOrder_ct (hv : sysR S v l) {i j k : Nat} (hi : i ≤ 255) (hj : j ≤ 255) (hk : k ≤ 255) : Ct Try.prog 11 #[v, .int .u8 (i : Int), .int .u8 (j : Int), .int .u8 (k : Int)] [S] fun u h' => u = .bool true ∧ h' = [S] := by
  obtain ⟨la, cap, rfl, _⟩ := id hv
  refine ct_of (n := 90) Try.func11 rfl rfl (len rfl) fun hr w0 => ?_
  refine cd_seq (cd_region (st_v (v_assign rfl) (st_nil (nx_then (cd_seq (cd_seq (cd_region (st_v (v_move rfl) (st_clr rfl rfl en29 rfl (rightR hv) ?_)))))))))
  refine st_v (v_not rfl) (st_nil (nx_kp [0, 1, 2, 3, 8, 16] rfl (nx_then (cd_cond rfl (fun hr => ?_) (fun hr => ?_)))))
  · skip
    refine cd_seq (cd_region (st_clr rfl rfl en15 rfl (sanityR) ?_))
    refine st_v (v_assign rfl) (st_nil (nx_kp [8] rfl (nx_then (cd_ret (xt_ret_then (xt_law rfl ?_))))))
    refine Sub.sel (by repeat (first | exact Sel.here | apply Sel.there)) ?_
    repeat apply Sub.cons
    exact Sub.refl _
  · skip
    have hr : rightB l = true := by simpa using hr
    obtain ⟨hR, h0⟩ := rightB_iff.1 hr
    have hFl := hR.len
    refine cd_skip (xt_then (cd_seq (cd_region (st_v (v_move rfl) (st_v (v_move rfl) (st_clr rfl rfl en30 rfl (name_ct hv h0 (by omega) hi) ?_))))))
    refine st_v (v_assign rfl) (st_nil (nx_kp [0, 2, 3, 8, 9] rfl (nx_then (cd_seq (cd_region (st_v (v_move rfl) (st_v (v_move rfl) (st_clr rfl rfl en30 rfl (name_ct hv h0 (by omega) hj) ?_))))))))
    refine st_v (v_assign rfl) (st_nil (nx_kp [0, 3, 8, 9, 10] rfl (nx_then (cd_seq (cd_region (st_v (v_move rfl) (st_v (v_move rfl) (st_clr rfl rfl en30 rfl (name_ct hv h0 (by omega) hk) ?_))))))))
    refine st_v (v_assign rfl) (st_nil (nx_kp [0, 8, 9, 10, 11] rfl (nx_then (cd_seq (cd_region (st_v (v_move rfl) (st_v (v_move rfl) ?_)))))))
    have ha := nmAt_isC h0 i
    have hb := nmAt_isC h0 j
    have hc := nmAt_isC h0 k
    generalize nmAt l i = a at *
    generalize nmAt l j = b at *
    generalize nmAt l k = c at *
    have hbl : (below l a).length ≤ 24 := Nat.le_trans (List.length_filter_le _ _) (by simp [nms]; omega)
    refine st_cl rfl rfl en37 rfl (Below_ct hv a) ?_
    rintro u h' ⟨T, rfl, w, rfl, hw, rfl⟩
    rw [right1 hR ha, okL_eq rfl]
    simp only [List.cons_append, List.nil_append]
    refine st_ok (r := NR w (below l a)) (by repeat (first | exact Sel.here | apply Sel.there)) fun hok => ?_
    refine st_v (v_move rfl) (st_v (v_extract rfl rfl) (st_v (v_extract rfl rfl) (st_v (v_assign rfl) (st_v (v_assign rfl) (st_nil (nx_kp [0, 8, 9, 10, 11, 12, 13] rfl (nx_then (cd_seq (cd_seq (cd_region (st_v (v_move rfl) (st_v (v_neq rfl rfl) (st_v (v_move rfl) (st_vg rfl rfl (v_move rfl) (st_vg rfl rfl (v_move rfl) ?_)))))))))))))))
    refine st_vg rfl rfl (v_move rfl) (st_clrg rfl rfl rfl rfl en32 rfl (is_ct hv hR ha ha) ?_)
    rw [has_refl]
    refine st_vg rfl rfl (v_not rfl) (st_v (v_pick_false rfl rfl) (st_v (v_move rfl) (st_vg rfl rfl (v_move rfl) (st_vg rfl rfl (v_move rfl) (st_vg rfl rfl (v_move rfl) (st_clrg rfl rfl rfl rfl en32 rfl (is_ct hv hR ha hb) ?_))))))
    refine st_vg rfl rfl (v_move rfl) (st_cut (k := 20) (d := 52) (v := .bool (has l a b && has l b c)) (fun hcut => bool_want (b := has l a b) true (fun hg => ?_) (fun hg => ?_)) ?_)
    · refine st_sk rfl rfl hg ?_
      refine st_sk rfl rfl hg ?_
      refine st_sk rfl rfl hg ?_
      refine st_sk rfl rfl hg ?_
      refine st_vg rfl rfl (v_pick_false (bool_ev rfl hg) rfl) ?_
      exact hcut _ (ssub_head (by first | rfl | (rw [hg]; rfl) | simp_all) (ssub_skip rfl (ssub_skip rfl (ssub_skip rfl (ssub_skip rfl (ssub_refl))))))
    · skip
      refine st_vg rfl (bool_get rfl hg) (v_move rfl) (st_vg rfl (bool_get rfl hg) (v_move rfl) (st_vg rfl (bool_get rfl hg) (v_move rfl) (st_clrg rfl (bool_get rfl hg) rfl rfl en32 rfl (is_ct hv hR hb hc) ?_)))
      refine st_vg rfl rfl (v_pick_true (bool_ev rfl hg) rfl) ?_
      exact hcut _ (ssub_head (by first | rfl | (rw [hg]; rfl) | simp_all) (ssub_skip rfl (ssub_skip rfl (ssub_skip rfl (ssub_skip rfl (ssub_refl))))))
    refine st_vg rfl rfl (v_move rfl) (st_cut (k := 27) (d := 59) (v := .bool ((has l a b && has l b c) && !has l a c)) (fun hcut => bool_want (b := (has l a b && has l b c)) true (fun hg => ?_) (fun hg => ?_)) ?_)
    · refine st_sk rfl rfl hg ?_
      refine st_sk rfl rfl hg ?_
      refine st_sk rfl rfl hg ?_
      refine st_sk rfl rfl hg ?_
      refine st_sk rfl rfl hg ?_
      refine st_vg rfl rfl (v_pick_false (bool_ev rfl hg) rfl) ?_
      exact hcut _ (ssub_head (by first | rfl | (rw [hg]; rfl) | simp_all) (ssub_skip rfl (ssub_skip rfl (ssub_skip rfl (ssub_skip rfl (ssub_skip rfl (ssub_refl)))))))
    · skip
      refine st_vg rfl (bool_get rfl hg) (v_move rfl) (st_vg rfl (bool_get rfl hg) (v_move rfl) (st_vg rfl (bool_get rfl hg) (v_move rfl) (st_clrg rfl (bool_get rfl hg) rfl rfl en32 rfl (is_ct hv hR ha hc) ?_)))
      refine st_vg rfl (bool_get rfl hg) (v_not rfl) (st_vg rfl rfl (v_pick_true (bool_ev rfl hg) rfl) ?_)
      exact hcut _ (ssub_head (by first | rfl | (rw [hg]; rfl) | simp_all) (ssub_skip rfl (ssub_skip rfl (ssub_skip rfl (ssub_skip rfl (ssub_skip rfl (ssub_refl)))))))
    refine st_v (v_pick_false rfl rfl) (st_v (v_move rfl) ?_)
    rw [and_trans]
    refine st_vg rfl rfl (v_move rfl) (st_vg rfl rfl (v_move rfl) (st_vg rfl rfl (v_sneq rfl rfl) (st_vg rfl rfl (v_move rfl) (st_cut (k := 38) (d := 70) (v := .bool ((a != b) && has l a b)) (fun hcut => bool_want (b := (a != b)) true (fun hg => ?_) (fun hg => ?_)) ?_))))
    · refine st_sk rfl rfl hg ?_
      refine st_sk rfl rfl hg ?_
      refine st_sk rfl rfl hg ?_
      refine st_sk rfl rfl hg ?_
      refine st_vg rfl rfl (v_pick_false (bool_ev rfl hg) rfl) ?_
      exact hcut _ (ssub_head (by first | rfl | (rw [hg]; rfl) | simp_all) (ssub_skip rfl (ssub_skip rfl (ssub_skip rfl (ssub_skip rfl (ssub_refl))))))
    · skip
      refine st_vg rfl (bool_get rfl hg) (v_move rfl) (st_vg rfl (bool_get rfl hg) (v_move rfl) (st_vg rfl (bool_get rfl hg) (v_move rfl) (st_clrg rfl (bool_get rfl hg) rfl rfl en32 rfl (is_ct hv hR ha hb) ?_)))
      refine st_vg rfl rfl (v_pick_true (bool_ev rfl hg) rfl) ?_
      exact hcut _ (ssub_head (by first | rfl | (rw [hg]; rfl) | simp_all) (ssub_skip rfl (ssub_skip rfl (ssub_skip rfl (ssub_skip rfl (ssub_refl))))))
    refine st_vg rfl rfl (v_move rfl) (st_cut (k := 44) (d := 76) (v := .bool (((a != b) && has l a b) && has l b a)) (fun hcut => bool_want (b := ((a != b) && has l a b)) true (fun hg => ?_) (fun hg => ?_)) ?_)
    · refine st_sk rfl rfl hg ?_
      refine st_sk rfl rfl hg ?_
      refine st_sk rfl rfl hg ?_
      refine st_sk rfl rfl hg ?_
      refine st_vg rfl rfl (v_pick_false (bool_ev rfl hg) rfl) ?_
      exact hcut _ (ssub_head (by first | rfl | (rw [hg]; rfl) | simp_all) (ssub_skip rfl (ssub_skip rfl (ssub_skip rfl (ssub_skip rfl (ssub_refl))))))
    · skip
      refine st_vg rfl (bool_get rfl hg) (v_move rfl) (st_vg rfl (bool_get rfl hg) (v_move rfl) (st_vg rfl (bool_get rfl hg) (v_move rfl) (st_clrg rfl (bool_get rfl hg) rfl rfl en32 rfl (is_ct hv hR hb ha) ?_)))
      refine st_vg rfl rfl (v_pick_true (bool_ev rfl hg) rfl) ?_
      exact hcut _ (ssub_head (by first | rfl | (rw [hg]; rfl) | simp_all) (ssub_skip rfl (ssub_skip rfl (ssub_skip rfl (ssub_skip rfl (ssub_refl))))))
    refine st_v (v_pick_false rfl rfl) (st_nil (nx_kp [0, 8, 9, 10, 12, 77] rfl (nx_then ?_)))
    rw [and_anti hR]
    refine cd_false rfl ?_
    refine cd_skip (xt_then (cd_seq (cd_region (st_clr rfl rfl en15 rfl (sanityR) ?_))))
    refine st_v (v_move rfl) (st_vg rfl rfl (v_move rfl) (st_vg rfl rfl (v_move rfl) (st_clrg rfl rfl rfl rfl en34 rfl (at_ct (nms_own hok) b (by omega)) ?_)))
    refine st_vg rfl rfl (v_geq rfl rfl) (st_vg rfl rfl (v_move rfl) (st_vg rfl rfl (v_move rfl) (st_vg rfl rfl (v_move rfl) (st_clrg rfl rfl rfl rfl en32 rfl (is_ct hv hR hb ha) ?_))))
    rw [below_at hb]
    refine st_vg rfl rfl (v_eql_bool Try.underlying4 rfl rfl) (st_v (v_pick_true rfl rfl) (st_v (v_assign rfl) (st_nil (nx_kp [8] rfl (nx_then (cd_ret ?_))))))
    rw [beq_self_eq_true]
    refine xt_law rfl ?_
    refine Sub.sel (by repeat (first | exact Sel.here | apply Sel.there)) ?_
    repeat apply Sub.cons
    exact Sub.refl _
end
end Go.Hr
namespace Go.Hr
open Go Go.RowKit Go.Ck Go.Proofs Go.Proofs.Ytjgiaohieadeiaa Fx
attribute [local irreducible] Go.Ck.Sub St Cd Xt Nx DrL LsW
section
variable {S : Res} {v nv : Value} {l : Sys} {ns : List Nm}
set_option maxRecDepth 100000 in
theorem touched1s_ct {b6 b3 mb : Nat} (hv : sysR S v l) (hR : Right l) (hn : nmsR S nv ns) (hnl : ns.length ≤ 1099511627776) {d : Nm} (hd : isC l d = true) : Reads Try.prog 74 #[sv d, .pointer (some ⟨b6, 0, none⟩), .pointer (some ⟨b3, 0, none⟩)] [pt b6 (cl [v, .map (some mb)] 95), pt b3 (cl [nv] 25), S, mps mb (kindsM l)] (.bool (ns.any fun x => has l d x)) := by
  obtain ⟨a, cap, rfl, _⟩ := id hv
  have hlen := above_len hR.acyc hd
  have hFl := hR.len
  refine ct_of (n := 10) Try.func74 rfl rfl (len rfl) fun hr w0 => ?_
  refine cd_seq (cd_region (st_v (v_assign rfl) (st_nil (nx_then (cd_seq (cd_region (st_v (v_ldn rfl ld95 rfl rds_pt) ?_)))))))
  refine st_v (v_move rfl) (st_cl rfl rfl en65 rfl (above_ct hv hR.fine hR.acyc hd) ?_)
  rintro u h' ⟨hu, rfl⟩
  simp only [List.cons_append, List.nil_append]
  refine st_ok (r := NR u (above l d)) (by repeat (first | exact Sel.here | apply Sel.there)) fun hok => ?_
  refine st_v (v_makeFunc rfl rfl) (st_cl rfl rfl en69 rfl (reads_star (ContainsFuncN_ct (S := Res.star [NR u (above l d), pt b3 (cl [nv] 25), S]) (kf := 75) (cp := #[.pointer (some ⟨b3, 0, none⟩)]) (g := fun x => ns.contains x) ((nms_own hok).mono (rd_in Sel.here)) (by omega) en75 fun x _ => reads_one (touched2_ct hn hnl x))) ?_)
  rintro u2 h' ⟨rfl, rfl⟩
  simp only [List.cons_append, List.nil_append]
  refine st_v (v_assign rfl) (st_nil (nx_kp [4] rfl (nx_then (cd_ret ?_))))
  rw [any_above hR]
  exact xt_rt rfl ⟨rfl, rfl⟩ (by (repeat (refine Sub.sel (by repeat (first | exact Sel.here | apply Sel.there)) ?_)); (repeat apply Sub.cons); first | exact Sub.refl _ | exact Sub.nil _)
set_option maxRecDepth 100000 in
theorem Touched1_ct (hv : sysR S v l) (hn : nmsR S nv ns) : CtN Try.prog 26 #[v, nv] [S] fun u T => ∃ w, u = .tuple #[w, .int .i64 (touchE l ns)] ∧ w.oneCell' = true ∧ T = NR w (okL (touchE l ns) (touched l ns)) := by
  obtain ⟨a, cap, rfl, _⟩ := id hv
  obtain ⟨na, ncap, rfl, _⟩ := id hn
  refine ct_of (n := 22) Try.func26 rfl rfl (len rfl) fun hr w0 => ?_
  refine cd_seq (cd_region (st_bx rfl rfl fun b3 => ?_))
  refine st_v (v_assign rfl) (st_v (v_assign rfl) (st_nil (nx_kp [0, 3, 4, 5] rfl (nx_then (cd_seq (cd_seq (cd_region (st_v (v_ldy rfl ld25) ?_))))))))
  refine st_v (v_len rfl Try.underlying25) (st_v (v_gtr rfl rfl) (st_nil (nx_kp [0, 3, 4, 5, 10] rfl (nx_then (cd_cond rfl (fun h48 => ?_) (fun h48 => ?_))))))
  · skip
    have h48 : 48 < ns.length := by have : (48 : Int) < ns.length := by simpa using h48
                                    omega
    have hw : touchE l ns = 3 := if_pos h48
    rw [hw, okL_ne (by decide)]
    refine cd_seq (cd_region (st_v (v_assign rfl) (st_v (v_assign rfl) (st_nil (nx_kp [4, 5] rfl (nx_then (cd_ret (xt_ret_then (xt_vw (vw_nil 9 1) ?_)))))))))
    exact xt_rt rfl ⟨NR (.slice none 0 0) [], rfl, _, rfl, rfl, rfl⟩ (by (repeat (refine Sub.sel (by repeat (first | exact Sel.here | apply Sel.there)) ?_)); (repeat apply Sub.cons); first | exact Sub.refl _ | exact Sub.nil _)
  · skip
    have h48 : ¬ 48 < ns.length := by have : ¬ (48 : Int) < ns.length := by simpa using h48
                                      omega
    have hw : touchE l ns = rightE l [] := if_neg h48
    rw [hw]
    refine cd_skip (xt_then (cd_seq (cd_region (st_v (v_move rfl) (st_vw (vw_unstar (L := [])) (st_cl rfl rfl en51 rfl (right_ct hv (N := Res.star []) (ns := []) Row.nil (by simp)) ?_))))))
    rintro u h' (⟨he, rfl, rfl⟩ | ⟨he, mb, rfl, rfl⟩)
    · skip
      simp only [List.cons_append, List.nil_append]
      unfold gr0
      refine st_v (v_move rfl) (st_v (v_extract rfl rfl) (st_v (v_extract rfl rfl) (st_alc al95 fun b6 => ?_)))
      refine st_stoW rfl rfl sz95 rfl rfl ?_
      refine st_v (v_assign rfl) (st_nil (nx_kp [3, 4, 5, 6, 7] rfl (nx_then (cd_seq (cd_seq (cd_region (st_v (v_move rfl) (st_v (v_neq rfl rfl) (st_nil (nx_kp [3, 4, 5, 6, 7, 17] rfl (nx_then ?_)))))))))))
      rw [ne_true he]
      refine cd_true rfl ?_
      refine cd_seq (cd_region (st_v (v_move rfl) (st_v (v_assign rfl) (st_v (v_assign rfl) (st_nil (nx_kp [4, 5] rfl (nx_then (cd_ret (xt_ret_then ?_)))))))))
      rw [okL_ne he]
      refine xt_vw (vw_nil 9 1) ?_
      exact xt_rt rfl ⟨NR (.slice none 0 0) [], rfl, _, rfl, rfl, rfl⟩ (by (repeat (refine Sub.sel (by repeat (first | exact Sel.here | apply Sel.there)) ?_)); (repeat apply Sub.cons); first | exact Sub.refl _ | exact Sub.nil _)
    · skip
      obtain ⟨hR, _⟩ := rightE_zero.1 he
      rw [he, okL_eq rfl]
      simp only [List.cons_append, List.nil_append]
      refine st_v (v_move rfl) (st_v (v_extract rfl rfl) (st_v (v_extract rfl rfl) (st_alc al95 fun b6 => ?_)))
      refine st_stoW rfl rfl sz95 rfl rfl ?_
      refine st_v (v_assign rfl) (st_nil (nx_kp [3, 4, 5, 6, 7] rfl (nx_then (cd_seq (cd_seq (cd_region (st_v (v_move rfl) (st_v (v_neq rfl rfl) (st_nil (nx_kp [3, 4, 5, 6, 7, 17] rfl (nx_then (cd_false rfl ?_))))))))))))
      refine cd_skip (xt_then (cd_seq (cd_region (st_v (v_ldn rfl ld95 rfl rds_pt) ?_))))
      refine st_v (v_makeFunc rfl rfl) (st_cl rfl rfl en55 rfl (ctn_star (names_ct (S := Res.star [pt b6 (cl [.slice a l.length cap, .map (some mb)] 95), pt b3 (cl [.slice na ns.length ncap] 25), S, mps mb (kindsM l)]) (kf := 74) (cp := #[.pointer (some ⟨b6, 0, none⟩), .pointer (some ⟨b3, 0, none⟩)]) (g := fun d => ns.any fun x => has l d x) (mb := mb) (hv.mono (rd_in (by repeat (first | exact Sel.here | apply Sel.there)))) hR.fine en74 fun d hd => reads_one (touched1s_ct hv hR hn (by omega) (isC_iff.2 hd)))) ?_)
      rintro u h' ⟨T, rfl, hu, rfl⟩
      simp only [List.cons_append, List.nil_append]
      refine st_v (v_assign rfl) (st_v (v_assign rfl) (st_nil (nx_kp [4, 5] rfl (nx_then (cd_ret ?_)))))
      exact xt_rt rfl ⟨_, rfl, _, rfl, hu, rfl⟩ (by (repeat (refine Sub.sel (by repeat (first | exact Sel.here | apply Sel.there)) ?_)); (repeat apply Sub.cons); first | exact Sub.refl _ | exact Sub.nil _)
set_option maxRecDepth 100000 in
theorem CheckWay1_ct (hv : sysR S v l) (hn : nmsR S nv ns) (hnl : ns.length ≤ 1099511627776) (c x : Nm) : Ct Try.prog 44 #[v, sv c, sv x, nv] [S] fun u h' => u = .int .i64 (wayC l c x ns) ∧ h' = [S] := by
  obtain ⟨a, cap, rfl, _⟩ := id hv
  obtain ⟨na, ncap, rfl, hnc, _⟩ := id hn
  refine ct_of (n := 64) Try.func44 rfl rfl (len rfl) fun hr w0 => ?_
  refine cd_seq (cd_region (st_v (v_assign rfl) (st_nil (nx_then (cd_seq (cd_region (st_v (v_move rfl) (st_v (v_move rfl) (st_v (v_move rfl) (st_buildSlice (cells := [sv c, sv x]) rfl Try.underlying25 inf9 rfl rfl (by kernel_rfl) (ltn rfl) fun b18 => ?_))))))))))
  refine st_pv (pv_of (b := b18) (n := 2) (sz := 1) (E := 9) [nC c, nC x] rfl (by simp [nC]) rfl (by decide)) ?_
  simp only [List.cons_append, List.nil_append]
  refine st_ok (r := NR (.slice (some ⟨b18, 0, none⟩) 2 2) [c, x]) (by repeat (first | exact Sel.here | apply Sel.there)) fun hok => ?_
  refine st_cl rfl rfl en51 rfl (right_ct hv (nms_own hok) (by simp)) ?_
  rintro u h' (⟨he, rfl, rfl⟩ | ⟨he, mb, rfl, rfl⟩)
  · skip
    have hw : wayC l c x ns = rightE l [c, x] := if_neg he
    rw [hw]
    simp only [List.cons_append, List.nil_append]
    unfold gr0
    refine st_v (v_move rfl) (st_v (v_extract rfl rfl) (st_v (v_extract rfl rfl) (st_alc al95 fun b9 => ?_)))
    refine st_stoW rfl rfl sz95 rfl rfl ?_
    refine st_v (v_assign rfl) (st_nil (nx_kp [1, 2, 3, 8, 9, 10] rfl (nx_then (cd_seq (cd_seq (cd_region (st_v (v_move rfl) (st_v (v_neq rfl rfl) (st_nil (nx_kp [1, 2, 3, 8, 9, 10, 23] rfl (nx_then ?_)))))))))))
    rw [ne_true he]
    refine cd_true rfl ?_
    refine cd_seq (cd_region (st_v (v_move rfl) (st_v (v_assign rfl) (st_nil (nx_kp [8] rfl (nx_then (cd_ret (xt_ret_then ?_))))))))
    exact xt_rt rfl ⟨rfl, rfl⟩ (by (repeat (refine Sub.sel (by repeat (first | exact Sel.here | apply Sel.there)) ?_)); (repeat apply Sub.cons); first | exact Sub.refl _ | exact Sub.nil _)
  · skip
    obtain ⟨hR, hm⟩ := rightE_zero.1 he
    have hw : wayC l c x ns = if wayOk l c x ns then 0 else 11 := if_pos he
    rw [hw]
    simp only [List.cons_append, List.nil_append]
    refine st_v (v_move rfl) (st_v (v_extract rfl rfl) (st_v (v_extract rfl rfl) (st_alc al95 fun b9 => ?_)))
    refine st_stoW rfl rfl sz95 rfl rfl ?_
    refine st_v (v_assign rfl) (st_nil (nx_kp [1, 2, 3, 8, 9, 10] rfl (nx_then (cd_seq (cd_seq (cd_region (st_v (v_move rfl) (st_v (v_neq rfl rfl) (st_nil (nx_kp [1, 2, 3, 8, 9, 10, 23] rfl (nx_then (cd_false rfl ?_))))))))))))
    refine cd_skip (xt_then (cd_seq (cd_region (st_v (v_move rfl) (st_v (v_len rfl Try.underlying25) (st_v (v_assign rfl) (st_nil (nx_kp [1, 2, 3, 8, 9, 11] rfl (nx_then (cd_seq (cd_seq (cd_region (st_v (v_move rfl) (st_v (v_eql rfl rfl) (st_v (v_move rfl) ?_)))))))))))))))
    cases ns with
    | nil =>
      refine st_sk rfl rfl rfl ?_
      refine st_sk rfl rfl rfl ?_
      refine st_sk rfl rfl rfl ?_
      refine st_sk rfl rfl rfl ?_
      refine st_sk rfl rfl rfl ?_
      refine st_v (v_pick_true rfl rfl) (st_v (v_move rfl) (st_sk rfl rfl rfl ?_))
      refine st_sk rfl rfl rfl ?_
      refine st_sk rfl rfl rfl ?_
      refine st_sk rfl rfl rfl ?_
      refine st_sk rfl rfl rfl ?_
      refine st_sk rfl rfl rfl ?_
      refine st_sk rfl rfl rfl ?_
      refine st_v (v_pick_true rfl rfl) (st_nil (nx_kp [3, 8, 9, 44] rfl (nx_then (cd_true rfl ?_))))
      refine cd_seq (cd_region (st_v (v_assign rfl) (st_nil (nx_kp [8] rfl (nx_then (cd_ret (xt_ret_then ?_)))))))
      exact xt_rt rfl ⟨rfl, rfl⟩ (by (repeat (refine Sub.sel (by repeat (first | exact Sel.here | apply Sel.there)) ?_)); (repeat apply Sub.cons); first | exact Sub.refl _ | exact Sub.nil _)
    | cons c0 t =>
      obtain ⟨b, o, cap2, hv2, hrd⟩ := nms_at hn (show (c0 :: t)[0]? = some c0 from rfl)
      obtain ⟨b', o', cap2', hv2', hrd'⟩ := nms_at hn (show (c0 :: t)[t.length]? = some ((c0 :: t).getLast (by simp)) by rw [List.getLast_eq_getElem]; simp)
      cases hv2
      cases hv2'
      rw [wayOk_cons]
      generalize hlast : (c0 :: t).getLast (by simp) = cl0 at *
      refine st_cut (k := 9) (d := 35) (v := .bool ((((c0 :: t).length : Int) == 0) || (c0 != c))) (fun hcut => bool_want (b := (((c0 :: t).length : Int) == 0)) false (fun hg => ?_) (fun hg => ?_)) ?_
      · refine st_sk rfl rfl hg ?_
        refine st_sk rfl rfl hg ?_
        refine st_sk rfl rfl hg ?_
        refine st_sk rfl rfl hg ?_
        refine st_sk rfl rfl hg ?_
        refine st_v (v_pick_true (bool_ev rfl hg) rfl) ?_
        exact hcut _ (ssub_head (by first | rfl | (rw [hg]; rfl) | simp_all) (ssub_skip rfl (ssub_skip rfl (ssub_skip rfl (ssub_skip rfl (ssub_skip rfl (ssub_refl)))))))
      · skip
        refine st_vg rfl (bool_get rfl hg) (v_move rfl) (st_vg rfl (bool_get rfl hg) (v_indexAddr (k := 0) rfl rfl sl25 rfl (by simp) rfl) ?_)
        refine st_vg rfl (bool_get rfl hg) (v_ldy rfl ld9) ?_
        refine st_vg rfl (bool_get rfl hg) (v_move rfl) (st_vg rfl (bool_get rfl hg) (v_sneq rfl rfl) (st_v (v_pick_false (bool_ev rfl hg) rfl) ?_))
        exact hcut _ (ssub_head (by first | rfl | (rw [hg]; rfl) | simp_all) (ssub_skip rfl (ssub_skip rfl (ssub_skip rfl (ssub_skip rfl (ssub_skip rfl (ssub_refl)))))))
      refine st_v (v_move rfl) (st_cut (k := 18) (d := 44) (v := .bool (((((c0 :: t).length : Int) == 0) || (c0 != c)) || (cl0 != x))) (fun hcut => bool_want (b := ((((c0 :: t).length : Int) == 0) || (c0 != c))) false (fun hg => ?_) (fun hg => ?_)) ?_)
      · refine st_sk rfl rfl hg ?_
        refine st_sk rfl rfl hg ?_
        refine st_sk rfl rfl hg ?_
        refine st_sk rfl rfl hg ?_
        refine st_sk rfl rfl hg ?_
        refine st_sk rfl rfl hg ?_
        refine st_sk rfl rfl hg ?_
        refine st_v (v_pick_true (bool_ev rfl hg) rfl) ?_
        exact hcut _ (ssub_head (by first | rfl | (rw [hg]; rfl) | simp_all) (ssub_skip rfl (ssub_skip rfl (ssub_skip rfl (ssub_skip rfl (ssub_skip rfl (ssub_skip rfl (ssub_skip rfl (ssub_refl)))))))))
      · skip
        refine st_vg rfl (bool_get rfl hg) (v_move rfl) (st_vg rfl (bool_get rfl hg) (v_move rfl) (st_vg rfl (bool_get rfl hg) (v_sub rfl rfl (by unfold I64 at *; omega)) (st_vg rfl (bool_get rfl hg) (v_indexAddr (k := t.length) rfl rfl sl25 (by simp) (by simp) rfl) ?_)))
        refine st_vg rfl (bool_get rfl hg) (v_ldy rfl ld9) ?_
        refine st_vg rfl (bool_get rfl hg) (v_move rfl) (st_vg rfl (bool_get rfl hg) (v_sneq rfl rfl) (st_v (v_pick_false (bool_ev rfl hg) rfl) ?_))
        exact hcut _ (ssub_head (by first | rfl | (rw [hg]; rfl) | simp_all) (ssub_skip rfl (ssub_skip rfl (ssub_skip rfl (ssub_skip rfl (ssub_skip rfl (ssub_skip rfl (ssub_skip rfl (ssub_refl)))))))))
      have h0 : (((c0 :: t).length : Int) == 0) = false := by simp; omega
      rw [h0, Bool.false_or]
      refine st_nil (nx_kp [3, 8, 9, 44] rfl (nx_then (cd_cond rfl (fun hq => ?_) (fun hq => ?_))))
      · skip
        rw [hq]
        refine cd_seq (cd_region (st_v (v_assign rfl) (st_nil (nx_kp [8] rfl (nx_then (cd_ret (xt_ret_then ?_)))))))
        exact xt_rt rfl ⟨rfl, rfl⟩ (by (repeat (refine Sub.sel (by repeat (first | exact Sel.here | apply Sel.there)) ?_)); (repeat apply Sub.cons); first | exact Sub.refl _ | exact Sub.nil _)
      · skip
        rw [hq]
        refine cd_skip (xt_then (cd_seq (cd_seq (cd_region (st_v (v_move rfl) (st_v (v_sliceTail rfl rfl sl25 rfl (by simp) hnc) ?_))))))
        refine st_v (v_len rfl Try.underlying25) (st_v (v_move rfl) (st_nil (nx_kp [3, 8, 9, 46, 47, 48] rfl (nx_then (cd_block ?_)))))
        have hnt := nms_tail hn
        have htl : t.length + 1 ≤ 1099511627776 := by simpa using hnl
        rw [show (c0 :: t).length - 1 = t.length from rfl]
        refine cd_lq (σ := Nat) (fun i => [(3, .slice (some ⟨b, o, none⟩) (c0 :: t).length ncap), (9, .pointer (some ⟨b9, 0, none⟩)), (46, .slice (some ⟨b, if ncap = 1 then o else o + 1 * 1, none⟩) t.length (ncap - 1)), (47, .int .i64 t.length), (48, .int .i64 (i : Nat))]) (fun _ => pt b9 (cl [.slice a l.length cap, .map (some mb)] 95) :: mps mb (kindsM l) :: S :: hr) (fun i => i ≤ t.length ∧ ∀ j, j < i → (par l ((c0 :: t).getD j [])).contains (t.getD j []) = true) (fun i => t.length - i) 0 ⟨Nat.zero_le _, fun j hj => by omega⟩ ?_
        rintro i ⟨hi, hal⟩
        refine cd_seq (cd_region (st_v (v_lss rfl rfl) (st_nil (nx_then (cd_seq (cd_cond rfl (fun hd => ?_) (fun hd => ?_)))))))
        · skip
          have hlt : i < t.length := by simpa using hd
          obtain ⟨tb, to, tcap, htv, htrd⟩ := nms_at hnt (List.getElem?_eq_getElem hlt)
          have hget : (c0 :: t)[i]? = some ((c0 :: t).getD i []) := getD_of [] (by simp; omega)
          obtain ⟨wb, wo, wcap, hwv, hwrd⟩ := nms_at hn hget
          have hge : t.getD i [] = t[i] := by simp [hlt]
          generalize hwi : (c0 :: t).getD i [] = wi at hget hwrd
          generalize t[i] = ti at hge htrd
          refine cd_skip (xt_then (cd_seq (cd_block (cd_seq (cd_region (st_v (v_move rfl) (st_v (v_indexAddr (k := i) (congrArg some htv) rfl sl25 rfl hlt rfl) (st_v (v_ldy rfl ld9) ?_))))))))
          refine st_v (v_assign rfl) (st_v (v_assign rfl) (st_nil (nx_kp [3, 9, 12, 13, 46, 47, 48] rfl (nx_then (cd_seq (cd_drawh (ork [(0, 1), (1, 2), (2, 2), (3, 2), (4, 1), (7, 2), (5, 0), (6, 0), (8, 0), (9, 2)] .nil) (fun i => !(Nat.beq i 5 || Nat.beq i 6 || Nat.beq i 8)) mixed (by kernel_rfl) ?_))))))
          refine dr_v rfl (v_ldn rfl ld95 rfl rds_pt) ?_
          refine dp_v rfl (v_move rfl) (dp_v rfl (v_move rfl) (dp_v rfl (v_indexAddr (k := i) (congrArg some hwv) rfl sl25 rfl (by simp; omega) rfl) ?_))
          refine dr_v rfl (v_ldy rfl ld9) ?_
          refine dp_v rfl (v_move rfl) (dr_eff rfl (st_cl rfl rfl en53 rfl (parents0_ct rfl) ?_))
          rintro u h' ⟨c1, c2, rfl, rfl⟩
          simp only [List.cons_append, List.nil_append]
          refine dr_nx ?_
          refine dr_eff rfl (st_cl rfl rfl en82 rfl (Collect_ct hv hR.fine wi) ?_)
          rintro u h' ⟨hu, rfl⟩
          simp only [List.cons_append, List.nil_append]
          have hpl := par_len hR.fine wi
          refine st_ok (r := NR u (par l wi)) (by repeat (first | exact Sel.here | apply Sel.there)) fun hok => ?_
          refine dr_nx ?_
          refine dr_eff rfl (st_cl rfl rfl en76 rfl (Contains_ct (nms_own hok) ti (by omega)) ?_)
          rintro u h' ⟨rfl, rfl⟩
          simp only [List.cons_append, List.nil_append]
          refine dr_nx ?_
          refine dp_v rfl (v_not rfl) (dr_nil (nx_kp [3, 9, 46, 47, 48, 62] rfl (nx_then (cd_cond rfl (fun hno => ?_) (fun hno => ?_)))))
          · skip
            have hno : (par l wi).contains ti = false := by simpa using hno
            rw [show ((List.range t.length).all fun i => (par l ((c0 :: t).getD i [])).contains (t.getD i [])) = false from List.all_eq_false.2 ⟨i, List.mem_range.2 hlt, by rw [hwi, hge, hno]; decide⟩]
            refine cd_seq (cd_region (st_v (v_assign rfl) (st_nil (nx_kp [8] rfl (nx_then (cd_ret (xt_ret_block (xt_ret_then (xt_ret_then (xt_ret_block (xt_ret_then ?_)))))))))))
            exact xt_rt rfl ⟨rfl, rfl⟩ (by (repeat (refine Sub.sel (by repeat (first | exact Sel.here | apply Sel.there)) ?_)); (repeat apply Sub.cons); first | exact Sub.refl _ | exact Sub.nil _)
          · skip
            have hno : (par l wi).contains ti = true := by simpa using hno
            refine cd_skip (xt_normal_block (xt_then (cd_region (st_v (v_add rfl rfl (by unfold I64 at *; omega)) (st_v (v_move rfl) (st_nil (nx_kp [3, 9, 46, 47, 48] rfl (nx_xt (xt_aq (i + 1) ⟨hlt, fun j hj => ?_⟩ (by show _ - _ < _ - _; omega))))))))))
            by_cases hji : j = i
            · subst hji; rw [hwi, hge]; exact hno
            · exact hal j (by omega)
        · skip
          refine cd_exit (xt_exit_then (xt_exit_then (xt_exit_block (xt_then (cd_seq (cd_region (st_v (v_assign rfl) (st_nil (nx_kp [8] rfl (nx_then (cd_ret ?_)))))))))))
          have hil : i = t.length := by have : ¬ i < t.length := by simpa using hd
                                        omega
          rw [show ((List.range t.length).all fun i => (par l ((c0 :: t).getD i [])).contains (t.getD i [])) = true from List.all_eq_true.2 fun j hj => hal j (by rw [hil]; exact List.mem_range.1 hj)]
          exact xt_rt rfl ⟨rfl, rfl⟩ (by (repeat (refine Sub.sel (by repeat (first | exact Sel.here | apply Sel.there)) ?_)); (repeat apply Sub.cons); first | exact Sub.refl _ | exact Sub.nil _)
set_option maxRecDepth 100000 in
theorem CheckRing1_ct (hv : sysR S v l) (hp : ∀ x ∈ l, x.parents.length ≤ 1099511627776) (hn : nmsR S nv ns) (hnl : ns.length ≤ 1099511627776) : Ct Try.prog 48 #[v, nv] [S] fun u h' => u = .int .i64 (ringC l ns) ∧ h' = [S] := by
  obtain ⟨a, cap, rfl, _⟩ := id hv
  obtain ⟨na, ncap, rfl, hnc, _⟩ := id hn
  refine ct_of (n := 47) Try.func48 rfl rfl (len rfl) fun hr w0 => ?_
  refine cd_seq (cd_region (st_v (v_assign rfl) (st_nil (nx_then (cd_seq (cd_seq (cd_region (st_v (v_move rfl) (st_v (v_len rfl Try.underlying22) (st_v (v_gtr rfl rfl) (st_v (v_move rfl) (st_cut (k := 8) (d := 15) (v := .bool (decide (24 < (l.length : Int)) || decide (24 < (ns.length : Int)))) (fun hcut => bool_want (b := decide (24 < (l.length : Int))) false (fun hg => ?_) (fun hg => ?_)) ?_))))))))))))
  · refine st_sk rfl rfl hg ?_
    refine st_sk rfl rfl hg ?_
    refine st_sk rfl rfl hg ?_
    refine st_v (v_pick_true (bool_ev rfl hg) rfl) ?_
    exact hcut _ (ssub_head (by first | rfl | (rw [hg]; rfl) | simp_all) (ssub_skip rfl (ssub_skip rfl (ssub_skip rfl (ssub_refl)))))
  · skip
    refine st_vg rfl (bool_get rfl hg) (v_move rfl) (st_vg rfl (bool_get rfl hg) (v_len rfl Try.underlying25) (st_vg rfl (bool_get rfl hg) (v_gtr rfl rfl) (st_v (v_pick_false (bool_ev rfl hg) rfl) ?_)))
    exact hcut _ (ssub_head (by first | rfl | (rw [hg]; rfl) | simp_all) (ssub_skip rfl (ssub_skip rfl (ssub_skip rfl (ssub_refl)))))
  refine st_nil (nx_kp [0, 1, 4, 15] rfl (nx_then (cd_cond rfl (fun h24 => ?_) (fun h24 => ?_))))
  · skip
    have hw : ringC l ns = 3 := if_pos (by
      rcases Bool.or_eq_true _ _ ▸ h24 with h | h
      · left; have := of_decide_eq_true h; omega
      · right; have := of_decide_eq_true h; omega)
    rw [hw]
    refine cd_seq (cd_region (st_v (v_assign rfl) (st_nil (nx_kp [4] rfl (nx_then (cd_ret (xt_ret_then ?_)))))))
    exact xt_rt rfl ⟨rfl, rfl⟩ (by (repeat (refine Sub.sel (by repeat (first | exact Sel.here | apply Sel.there)) ?_)); (repeat apply Sub.cons); first | exact Sub.refl _ | exact Sub.nil _)
  · skip
    obtain ⟨h1, h2⟩ := Bool.or_eq_false_iff.1 h24
    have h1 : ¬ 24 < l.length := by have := of_decide_eq_false h1; omega
    have h2 : ¬ 24 < ns.length := by have := of_decide_eq_false h2; omega
    have hw : ringC l ns = if ringOk l ns then 0 else 11 := if_neg (by omega)
    have hF : Fine l := ⟨by omega, hp⟩
    rw [hw]
    refine cd_skip (xt_then (cd_seq (cd_region (st_v (v_move rfl) (st_cl rfl rfl en60 rfl (of_ct hv (by omega)) ?_)))))
    rintro u h' ⟨mb, rfl, rfl⟩
    simp only [List.cons_append, List.nil_append]
    refine st_alc al95 fun b5 => ?_
    refine st_stoW rfl rfl sz95 rfl rfl ?_
    refine st_nil (nx_kp [1, 4, 5] rfl (nx_then (cd_seq (cd_seq (cd_region (st_v (v_move rfl) (st_v (v_len rfl Try.underlying25) (st_v (v_eql rfl rfl) (st_v (v_move rfl) (st_cut (k := 7) (d := 24) (v := .bool (((ns.length : Int) == 0) || !decide ns.Nodup)) (fun hcut => bool_want (b := ((ns.length : Int) == 0)) false (fun hg => ?_) (fun hg => ?_)) ?_))))))))))
    · refine st_sk rfl rfl hg ?_
      refine st_sk rfl rfl hg ?_
      refine st_v (v_pick_true (bool_ev rfl hg) rfl) ?_
      exact hcut _ (ssub_head (by first | rfl | (rw [hg]; rfl) | simp_all) (ssub_skip rfl (ssub_skip rfl (ssub_refl))))
    · skip
      refine st_vg rfl (bool_get rfl hg) (v_move rfl) (st_clrg rfl (bool_get rfl hg) rfl rfl en90 rfl (twiceS_ct hn hnl) ?_)
      refine st_v (v_pick_false (bool_ev rfl hg) rfl) ?_
      exact hcut _ (ssub_head (by first | rfl | (rw [hg]; rfl) | simp_all) (ssub_skip rfl (ssub_skip rfl (ssub_refl))))
    refine st_nil (nx_kp [1, 4, 5, 24] rfl (nx_then (cd_cond rfl (fun hq => ?_) (fun hq => ?_))))
    · skip
      rw [ringOk_false1 (by
        rcases Bool.or_eq_true _ _ ▸ hq with h | h
        · left; exact List.eq_nil_of_length_eq_zero (by have : (ns.length : Int) = 0 := by simpa using h
                                                        omega)
        · right; simpa using h)]
      refine cd_seq (cd_region (st_v (v_assign rfl) (st_nil (nx_kp [4] rfl (nx_then (cd_ret (xt_ret_then ?_)))))))
      exact xt_rt rfl ⟨rfl, rfl⟩ (by (repeat (refine Sub.sel (by repeat (first | exact Sel.here | apply Sel.there)) ?_)); (repeat apply Sub.cons); first | exact Sub.refl _ | exact Sub.nil _)
    · skip
      obtain ⟨q1, q2⟩ := Bool.or_eq_false_iff.1 hq
      have hne : ns ≠ [] := fun e => by rw [e] at q1; cases q1
      have hnp : 0 < ns.length := List.length_pos_iff.2 hne
      rw [ringOk_all (by
        rintro (h | h)
        · exact hne h
        · exact h (by simpa using q2))]
      refine cd_skip (xt_then (cd_seq (cd_seq (cd_region (st_v (v_move rfl) (st_v (v_len rfl Try.underlying25) (st_v (v_move rfl) (st_nil (nx_kp [1, 4, 5, 25, 26, 27] rfl (nx_then (cd_block (cd_lq (σ := Nat) (fun i => [(1, .slice na ns.length ncap), (5, .pointer (some ⟨b5, 0, none⟩)), (25, .slice na ns.length ncap), (26, .int .i64 ns.length), (27, .int .i64 (i : Nat))]) (fun _ => pt b5 (cl [.slice a l.length cap, .map (some mb)] 95) :: mps mb (kindsM l) :: S :: hr) (fun i => i ≤ ns.length ∧ ∀ j, j < i → (par l (ns.getD j [])).contains (ns.getD ((j + 1) % ns.length) []) = true) (fun i => ns.length - i) 0 ⟨Nat.zero_le _, fun j hj => by omega⟩ ?_))))))))))))
      rintro i ⟨hi, hal⟩
      refine cd_seq (cd_region (st_v (v_lss rfl rfl) (st_nil (nx_then (cd_seq (cd_cond rfl (fun hd => ?_) (fun hd => ?_)))))))
      · skip
        have hlt : i < ns.length := by simpa using hd
        have hm1 : (i + 1) % ns.length < ns.length := Nat.mod_lt _ hnp
        obtain ⟨wb, wo, wcap, hwv, hwrd⟩ := nms_at hn (getD_of [] hlt)
        obtain ⟨tb, to, tcap, htv, htrd⟩ := nms_at hn (getD_of [] hm1)
        generalize hwi : ns.getD i [] = wi at hwrd
        generalize hti : ns.getD ((i + 1) % ns.length) [] = ti at htrd
        refine cd_skip (xt_then (cd_seq (cd_block (cd_seq (cd_region (st_v (v_move rfl) (st_v (v_indexAddr (k := i) (congrArg some hwv) rfl sl25 rfl hlt rfl) (st_v (v_ldy rfl ld9) ?_))))))))
        refine st_v (v_assign rfl) (st_v (v_assign rfl) (st_nil (nx_kp [1, 5, 6, 7, 25, 26, 27] rfl (nx_then (cd_seq (cd_drawh (ork [(0, 1), (1, 2), (4, 2), (5, 2), (6, 2), (7, 2), (8, 2), (9, 2), (10, 2), (11, 1), (2, 0), (3, 0), (12, 0), (13, 2)] .nil) (fun i => !(Nat.beq i 12)) mixed (by kernel_rfl) ?_))))))
        refine dr_v rfl (v_ldn rfl ld95 rfl rds_pt) ?_
        refine dp_v rfl (v_move rfl) (dp_v rfl (v_move rfl) (dp_v rfl (v_move rfl) (dp_v rfl (v_add rfl rfl (by unfold I64 at *; omega)) (dp_v rfl (v_move rfl) (dp_v rfl (v_len rfl Try.underlying25) (dp_v rfl (v_rem rfl rfl (by omega) (by rw [show ((i : Int) + 1).tmod ns.length = (((i + 1) % ns.length : Nat) : Int) by exact (Int.ofNat_tmod (i + 1) ns.length).symm]; exact I64.wrap (by unfold I64; omega))) ?_))))))
        refine dp_v rfl (v_indexAddr (k := (i + 1) % ns.length) (congrArg some htv) rfl sl25 (by exact (Int.ofNat_tmod (i + 1) ns.length).symm) hm1 rfl) ?_
        refine dr_v rfl (v_ldy rfl ld9) ?_
        refine dr_eff rfl (st_cl rfl rfl en53 rfl (parents0_ct rfl) ?_)
        rintro u h' ⟨c1, c2, rfl, rfl⟩
        simp only [List.cons_append, List.nil_append]
        refine dr_nx ?_
        refine dr_eff rfl (st_cl rfl rfl en82 rfl (Collect_ct hv hF wi) ?_)
        rintro u h' ⟨hu, rfl⟩
        simp only [List.cons_append, List.nil_append]
        have hpl := par_len hF wi
        refine st_ok (r := NR u (par l wi)) (by repeat (first | exact Sel.here | apply Sel.there)) fun hok => ?_
        refine dr_nx ?_
        refine dr_eff rfl (st_cl rfl rfl en76 rfl (Contains_ct (nms_own hok) ti (by omega)) ?_)
        rintro u h' ⟨rfl, rfl⟩
        simp only [List.cons_append, List.nil_append]
        refine dr_nx ?_
        refine dp_v rfl (v_not rfl) (dr_nil (nx_kp [1, 5, 25, 26, 27, 45] rfl (nx_then (cd_cond rfl (fun hno => ?_) (fun hno => ?_)))))
        · skip
          have hno : (par l wi).contains ti = false := by simpa using hno
          rw [show ((List.range ns.length).all fun i => (par l (ns.getD i [])).contains (ns.getD ((i + 1) % ns.length) [])) = false from List.all_eq_false.2 ⟨i, List.mem_range.2 hlt, by rw [hwi, hti, hno]; decide⟩]
          refine cd_seq (cd_region (st_v (v_assign rfl) (st_nil (nx_kp [4] rfl (nx_then (cd_ret (xt_ret_block (xt_ret_then (xt_ret_then (xt_ret_block (xt_ret_then ?_)))))))))))
          exact xt_rt rfl ⟨rfl, rfl⟩ (by (repeat (refine Sub.sel (by repeat (first | exact Sel.here | apply Sel.there)) ?_)); (repeat apply Sub.cons); first | exact Sub.refl _ | exact Sub.nil _)
        · skip
          have hno : (par l wi).contains ti = true := by simpa using hno
          refine cd_skip (xt_normal_block (xt_then (cd_region (st_v (v_add rfl rfl (by unfold I64 at *; omega)) (st_v (v_move rfl) (st_nil (nx_kp [1, 5, 25, 26, 27] rfl (nx_xt (xt_aq (i + 1) ⟨hlt, fun j hj => ?_⟩ (by show _ - _ < _ - _; omega))))))))))
          by_cases hji : j = i
          · subst hji; rw [hwi, hti]; exact hno
          · exact hal j (by omega)
      · skip
        refine cd_exit (xt_exit_then (xt_exit_then (xt_exit_block (xt_then (cd_seq (cd_region (st_v (v_assign rfl) (st_nil (nx_kp [4] rfl (nx_then (cd_ret ?_)))))))))))
        have hil : i = ns.length := by have : ¬ i < ns.length := by simpa using hd
                                       omega
        rw [show ((List.range ns.length).all fun i => (par l (ns.getD i [])).contains (ns.getD ((i + 1) % ns.length) [])) = true from List.all_eq_true.2 fun j hj => hal j (by rw [hil]; exact List.mem_range.1 hj)]
        exact xt_rt rfl ⟨rfl, rfl⟩ (by (repeat (refine Sub.sel (by repeat (first | exact Sel.here | apply Sel.there)) ?_)); (repeat apply Sub.cons); first | exact Sub.refl _ | exact Sub.nil _)
end
end Go.Hr
namespace Go.Ck
open Go
section
variable {P : Program} {e : Env} {h : SH} {ty : TypeId}
theorem v_sliceO {T E : TypeId} {x y z : Operand} {b o n cp lo hi : Nat} {i j : Int} {k k' : IntKind} (hx : e.ev? x = some (.slice (some ⟨b, o, none⟩) n cp)) (hy : e.ev? y = some (.int k i)) (hz : e.ev? z = some (.int k' j)) (hT : SlE P T E 1)
    (hi' : i = (lo : Int)) (hj : j = (hi : Int)) (h1 : lo ≤ hi) (h2 : hi ≤ cp) (h3 : lo < cp) : Vop P e h (.slice T x (some y) (some z) none) ty (.slice (some ⟨b, o + lo, none⟩) (hi - lo) (cp - lo)) :=
  ⟨by simp, by simp, fun ρ w d pos after g hρ _ => by
    subst hi' hj
    have hT' : P.underlying T = some (.slice (P.elem T)) := by simp [Program.elem, hT.1]
    have he : P.elem T = E := by simp [Program.elem, hT.1]
    have hr := run_slice_lh (P := P) w T (some ⟨b, o, none⟩) n cp hT' k k' lo hi (by omega) (by omega) (by omega)
    simp only [he, hT.2 w, Result.andThen_ok, sliced, Int.toNat_natCast, if_neg (show ¬ cp = lo by omega), Option.map_some, Addr.add_lit, Nat.mul_one] at hr
    simp only [execOp, hρ x _ hx, Option.map_some, Option.map_none, hρ y _ hy, hρ z _ hz, Sem.run_bind, run_sliceAt_slice w T _ _ _ _ hT', hr, Result.andThen_ok, Sem.run_pure]⟩
end
end Go.Ck
namespace Go.Hr
open Go Go.RowKit Go.Ck Go.Proofs Go.Proofs.Ytjgiaohieadeiaa Fx
attribute [local irreducible] Go.Ck.Sub St Cd Xt Nx DrL LsW
theorem nms_one {S : Res} {b o n cap k : Nat} {ns : List Nm} (h : nmsR S (.slice (some ⟨b, o, none⟩) n cap) ns) (hk : k < ns.length) : nmsR S (.slice (some ⟨b, o + k, none⟩) 1 (cap - k)) [ns[k]] := by
  obtain ⟨a, cap2, he, h2, h3, _, h5⟩ := h
  cases he
  refine ⟨_, _, rfl, by simp; omega, by omega, (fun h => by cases h), fun i y hi => ?_⟩
  have hi0 : i = 0 := by
    have := (List.getElem?_eq_some_iff.1 hi).1
    simpa using this
  subst hi0
  obtain ⟨b2, o2, us, e, h6, h7, h8⟩ := h5 k ns[k] (List.getElem?_eq_getElem hk)
  cases e
  have hy : ns[k] = y := by simpa using hi
  exact ⟨_, _, us, rfl, h6, by rw [show o + k + 0 * 1 = o + k * 1 by omega]; exact h7, by rw [← hy]; exact h8⟩
theorem touched_at {l : Sys} {ns : List Nm} {c : Nm} (hc : isC l c = true) : decide (0 ≤ ixS (touched l ns) c) = ns.any fun a => has l c a := by
  rw [ixS_has, Bool.eq_iff_iff, List.contains_iff_mem, mem_touched, List.any_eq_true]
  exact ⟨fun h => h.2, fun h => ⟨isC_iff.1 hc, h⟩⟩
theorem reach_no {l : Sys} {ns : List Nm} {c d : Nm} : ((((ns.any fun a => has l c a) && has l d c) && !(ns.any fun a => has l d a)) || (((!(ns.any fun a => has l c a)) && has l c d) && (ns.any fun a => has l d a))) = false := by
  cases h1 : (ns.any fun a => has l c a) <;> cases h2 : (ns.any fun a => has l d a) <;> cases h3 : has l d c <;> cases h4 : has l c d <;> simp
  all_goals first
    | (obtain ⟨a, g1, g2⟩ := List.any_eq_true.1 h1
       have := List.any_eq_false.1 h2 a g1
       exact this (has_trans h3 g2))
    | (obtain ⟨a, g1, g2⟩ := List.any_eq_true.1 h2
       have := List.any_eq_false.1 h1 a g1
       exact this (has_trans h4 g2))
theorem touchE_zero {l : Sys} (hR : Right l) {ns : List Nm} (h : ns.length ≤ 48) : touchE l ns = 0 := by
  unfold touchE
  rw [if_neg (by omega)]
  exact right0 hR
theorem touched_len {l : Sys} (hR : Right l) (ns : List Nm) : (touched l ns).length ≤ 24 := Nat.le_trans (List.length_filter_le _ _) (by simp only [nms, List.length_map]; exact hR.len)
section
variable {S : Res} {v nv : Value} {l : Sys} {ns : List Nm}
set_option maxHeartbeats 1000000 in
set_option maxRecDepth 100000 in
theorem heirReaches_ct (hv : sysR S v l) {i : Nat} (hi : i ≤ 255) (hn : nmsR S nv ns) : Ct Try.prog 9 #[v, .int .u8 (i : Int), nv] [S] fun u h' => u = .bool true ∧ h' = [S] := by
  obtain ⟨la, cap, rfl, _⟩ := id hv
  obtain ⟨na, ncap, rfl, hncl, _⟩ := id hn
  refine ct_of (n := 114) Try.func9 rfl rfl (len rfl) fun hr w0 => ?_
  refine cd_seq (cd_region (st_v (v_assign rfl) (st_nil (nx_then (cd_seq (cd_seq (cd_region (st_v (v_move rfl) (st_clr rfl rfl en29 rfl (rightR hv) ?_)))))))))
  refine st_v (v_not rfl) (st_v (v_move rfl) (st_cut (k := 8) (d := 23) (v := .bool ((!rightB l) || decide (40 < (ns.length : Int)))) (fun hcut => bool_want (b := (!rightB l)) false (fun hg => ?_) (fun hg => ?_)) ?_))
  · refine st_sk rfl rfl hg ?_
    refine st_sk rfl rfl hg ?_
    refine st_sk rfl rfl hg ?_
    refine st_v (v_pick_true (bool_ev rfl hg) rfl) ?_
    exact hcut _ (ssub_head (by first | rfl | (rw [hg]; rfl) | simp_all) (ssub_skip rfl (ssub_skip rfl (ssub_skip rfl (ssub_refl)))))
  · skip
    refine st_vg rfl (bool_get rfl hg) (v_move rfl) (st_vg rfl (bool_get rfl hg) (v_len rfl Try.underlying25) (st_vg rfl (bool_get rfl hg) (v_gtr rfl rfl) (st_v (v_pick_false (bool_ev rfl hg) rfl) ?_)))
    exact hcut _ (ssub_head (by first | rfl | (rw [hg]; rfl) | simp_all) (ssub_skip rfl (ssub_skip rfl (ssub_skip rfl (ssub_refl)))))
  refine st_nil (nx_kp [0, 1, 2, 6, 23] rfl (nx_then (cd_cond rfl (fun hrg => ?_) (fun hrg => ?_))))
  · skip
    refine cd_seq (cd_region (st_clr rfl rfl en15 rfl (sanityR) ?_))
    refine st_v (v_assign rfl) (st_nil (nx_kp [6] rfl (nx_then (cd_ret (xt_ret_then (xt_law rfl ?_))))))
    refine Sub.sel (by repeat (first | exact Sel.here | apply Sel.there)) ?_
    repeat apply Sub.cons
    exact Sub.refl _
  · skip
    obtain ⟨hr1, hr2⟩ := Bool.or_eq_false_iff.1 hrg
    have hrg : rightB l = true := by simpa using hr1
    have hnl : ns.length ≤ 40 := by have := of_decide_eq_false hr2; omega
    obtain ⟨hR, h0⟩ := rightB_iff.1 hrg
    have hFl := hR.len
    refine cd_skip (xt_then (cd_seq (cd_region (st_v (v_move rfl) (st_v (v_move rfl) (st_clr rfl rfl en30 rfl (name_ct hv h0 (by omega) hi) ?_))))))
    refine st_v (v_assign rfl) (st_nil (nx_kp [0, 2, 6, 7] rfl (nx_then (cd_seq (cd_region (st_v (v_move rfl) (st_v (v_move rfl) ?_)))))))
    have hcC := nmAt_isC h0 i
    generalize nmAt l i = c at *
    refine st_cl rfl rfl en26 rfl (Touched1_ct hv hn) ?_
    rintro u h' ⟨T, rfl, w, rfl, hw, rfl⟩
    rw [touchE_zero hR (by omega), okL_eq rfl]
    simp only [List.cons_append, List.nil_append]
    refine st_ok (r := NR w (touched l ns)) (by repeat (first | exact Sel.here | apply Sel.there)) fun hok => ?_
    have hno := nms_own hok
    have htl := touched_len hR ns
    refine st_v (v_move rfl) (st_v (v_extract rfl rfl) (st_v (v_extract rfl rfl) (st_v (v_assign rfl) (st_v (v_assign rfl) (st_nil (nx_kp [0, 2, 6, 7, 8, 9] rfl (nx_then (cd_seq (cd_seq (cd_region (st_v (v_move rfl) (st_v (v_neq rfl rfl) (st_nil (nx_kp [0, 2, 6, 7, 8, 35] rfl (nx_then (cd_false rfl ?_))))))))))))))))
    refine cd_skip (xt_then (cd_seq (cd_region (st_v (v_assign rfl) (st_nil (nx_kp [0, 2, 6, 7, 8, 10] rfl (nx_then (cd_seq (cd_seq (cd_region (st_v (v_assign rfl) (st_nil (nx_then (cd_block (cd_lq (σ := Nat) (fun k => [(0, .slice la l.length cap), (2, .slice na ns.length ncap), (7, sv c), (8, w), (10, .bool ((ns.take k).any fun a => has l c a)), (11, .int .i64 (k : Nat))]) (fun _ => NR w (touched l ns) :: S :: hr) (fun k => k ≤ ns.length) (fun k => ns.length - k) 0 (Nat.zero_le _) ?_)))))))))))))))
    rintro k hk
    refine cd_seq (cd_seq (cd_region (st_v (v_move rfl) (st_v (v_move rfl) (st_v (v_len rfl Try.underlying25) (st_v (v_lss rfl rfl) (st_nil (nx_kp [0, 2, 7, 8, 10, 11, 39] rfl (nx_then (cd_cond rfl (fun hd => ?_) (fun hd => ?_)))))))))))
    · skip
      have hkl : k < ns.length := by simpa using hd
      obtain ⟨tb, to, tcap, htv, _⟩ := nms_at hn (List.getElem?_eq_getElem hkl)
      cases htv
      have hone := nms_one hn hkl
      have hsome : (ns.take (k + 1)).any (fun a => has l c a) = ((ns.take k).any (fun a => has l c a) || has l c ns[k]) := by
        rw [List.take_succ_eq_append_getElem hkl, List.any_append]; simp
      refine cd_skip (xt_then (cd_seq (cd_block (cd_seq (cd_region (st_v (v_move rfl) (st_v (v_move rfl) (st_v (v_move rfl) (st_v (v_move rfl) (st_v (v_add rfl rfl (by unfold I64 at *; omega)) (st_v (v_sliceO (lo := k) (hi := k + 1) rfl rfl rfl sl25 rfl rfl (by omega) (by omega) (by omega)) ?_)))))))))))
      rw [show k + 1 - k = 1 by omega]
      refine st_cl rfl rfl en26 rfl (Touched1_ct hv hone) ?_
      rintro u h' ⟨T1, rfl, w1, rfl, hw1, rfl⟩
      rw [touchE_zero hR (by simp), okL_eq rfl]
      simp only [List.cons_append, List.nil_append]
      refine st_ok (r := NR w1 (touched l [ns[k]])) (by repeat (first | exact Sel.here | apply Sel.there)) fun hok1 => ?_
      have htl1 := touched_len hR [ns[k]]
      have hat : decide (0 ≤ ixS (touched l [ns[k]]) c) = has l c ns[k] := by rw [touched_at hcC]; simp
      refine st_v (v_move rfl) (st_v (v_extract rfl rfl) (st_v (v_extract rfl rfl) (st_v (v_assign rfl) (st_v (v_assign rfl) (st_nil (nx_kp [0, 2, 7, 8, 10, 11, 12, 13] rfl (nx_then (cd_seq (cd_seq (cd_region (st_v (v_move rfl) (st_v (v_neq rfl rfl) (st_nil (nx_kp [0, 2, 7, 8, 10, 11, 12, 53] rfl (nx_then (cd_false rfl ?_))))))))))))))))
      refine cd_skip (xt_then (cd_region (st_v (v_move rfl) (st_v (v_move rfl) (st_cut (k := 7) (d := 60) (v := .bool (((ns.take k).any fun a => has l c a) || has l c ns[k])) (fun hcut => bool_want (b := ((ns.take k).any fun a => has l c a)) false (fun hg => ?_) (fun hg => ?_)) ?_)))))
      · refine st_sk rfl rfl hg ?_
        refine st_sk rfl rfl hg ?_
        refine st_sk rfl rfl hg ?_
        refine st_sk rfl rfl hg ?_
        refine st_v (v_pick_true (bool_ev rfl hg) rfl) ?_
        exact hcut _ (ssub_head (by first | rfl | (rw [hg]; rfl) | simp_all) (ssub_skip rfl (ssub_skip rfl (ssub_skip rfl (ssub_skip rfl (ssub_refl))))))
      · skip
        refine st_vg rfl (bool_get rfl hg) (v_move rfl) (st_vg rfl (bool_get rfl hg) (v_move rfl) (st_clrg rfl (bool_get rfl hg) rfl rfl en34 rfl (at_ct (nms_own hok1) c (by omega)) ?_))
        refine st_vg rfl (bool_get rfl hg) (v_geq rfl rfl) ?_
        rw [hat]
        refine st_v (v_pick_false (bool_ev rfl hg) rfl) ?_
        exact hcut _ (ssub_head (by first | rfl | (rw [hg]; rfl) | simp_all) (ssub_skip rfl (ssub_skip rfl (ssub_skip rfl (ssub_skip rfl (ssub_refl))))))
      rw [← hsome]
      refine st_v (v_assign rfl) (st_nil (nx_kp [0, 2, 7, 8, 10, 11] rfl (nx_xt (xt_normal_block (xt_then (cd_region (st_v (v_move rfl) (st_v (v_add rfl rfl (by unfold I64 at *; omega)) (st_v (v_assign rfl) (st_nil (nx_kp [0, 2, 7, 8, 10, 11] rfl (nx_xt ?_))))))))))))
      refine xt_aq (k + 1) hkl (by show _ - _ < _ - _; omega)
    · skip
      have hke : k = ns.length := by have : ¬ k < ns.length := by simpa using hd
                                     omega
      subst hke
      rw [List.take_length]
      refine cd_exit (xt_exit_then (xt_exit_then (xt_exit_block (xt_then (cd_seq (cd_seq (cd_region (st_v (v_move rfl) (st_v (v_move rfl) (st_v (v_move rfl) (st_clr rfl rfl en34 rfl (at_ct hno c (by omega)) ?_)))))))))))
      refine st_v (v_geq rfl rfl) ?_
      rw [touched_at hcC]
      refine st_v (v_neq_bool Try.underlying4 rfl rfl) (st_nil (nx_kp [0, 7, 8, 10, 66] rfl (nx_then ?_)))
      rw [beq_self_eq_true]
      refine cd_false rfl ?_
      refine cd_skip (xt_then (cd_seq (cd_seq (cd_region (st_v (v_assign rfl) (st_nil (nx_kp [0, 7, 8, 10, 14] rfl (nx_then (cd_block (cd_lq (σ := Nat) (fun k => [(0, .slice la l.length cap), (7, sv c), (8, w), (10, .bool (ns.any fun a => has l c a)), (14, .int .i64 (k : Nat))]) (fun _ => NR w (touched l ns) :: S :: hr) (fun k => k ≤ l.length) (fun k => l.length - k) 0 (Nat.zero_le _) ?_))))))))))
      rintro k hk
      refine cd_seq (cd_seq (cd_region (st_v (v_move rfl) (st_v (v_move rfl) (st_v (v_len rfl Try.underlying22) (st_v (v_lss rfl rfl) (st_nil (nx_kp [0, 7, 8, 10, 14, 70] rfl (nx_then (cd_cond rfl (fun hd2 => ?_) (fun hd2 => ?_)))))))))))
      · skip
        have hkl : k < l.length := by simpa using hd2
        obtain ⟨b, o, cap2, d, f, pa, pc, c2, fa, fc, j2, hv2, hrd, hP, hone⟩ := sys_at hv (List.getElem?_eq_getElem hkl)
        have hdC : isC l (l[k]).name = true := isC_iff.2 (List.mem_map.2 ⟨_, List.getElem_mem hkl, rfl⟩)
        generalize (l[k]).name = dn at *
        refine cd_skip (xt_then (cd_seq (cd_block (cd_seq (cd_region (st_v (v_move rfl) (st_v (v_move rfl) (st_v (v_move rfl) (st_v (v_indexAddr (k := k) (congrArg some hv2) rfl sl22 rfl hkl rfl) (st_v (v_fieldAddr rfl fa61_0 rfl) (st_v (v_ldy rfl ld9) ?_)))))))))))
        refine st_clr rfl rfl en34 rfl (at_ct hno dn (by omega)) ?_
        refine st_v (v_geq rfl rfl) (st_v (v_assign rfl) (st_nil (nx_kp [0, 7, 8, 10, 14, 15] rfl (nx_then (cd_seq (cd_region (st_v (v_move rfl) (st_v (v_move rfl) ?_))))))))
        rw [touched_at hdC]
        refine st_cut (k := 11) (d := 91) (v := .bool ((ns.any fun a => has l c a) && has l dn c)) (fun hcut => bool_want (b := (ns.any fun a => has l c a)) true (fun hg => ?_) (fun hg => ?_)) ?_
        · refine st_sk rfl rfl hg ?_
          refine st_sk rfl rfl hg ?_
          refine st_sk rfl rfl hg ?_
          refine st_sk rfl rfl hg ?_
          refine st_sk rfl rfl hg ?_
          refine st_sk rfl rfl hg ?_
          refine st_sk rfl rfl hg ?_
          refine st_sk rfl rfl hg ?_
          refine st_v (v_pick_false (bool_ev rfl hg) rfl) ?_
          exact hcut _ (ssub_head (by first | rfl | (rw [hg]; rfl) | simp_all) (ssub_skip rfl (ssub_skip rfl (ssub_skip rfl (ssub_skip rfl (ssub_skip rfl (ssub_skip rfl (ssub_skip rfl (ssub_skip rfl (ssub_refl))))))))))
        · skip
          refine st_vg rfl (bool_get rfl hg) (v_move rfl) (st_vg rfl (bool_get rfl hg) (v_move rfl) (st_vg rfl (bool_get rfl hg) (v_move rfl) (st_vg rfl (bool_get rfl hg) (v_indexAddr (k := k) (congrArg some hv2) rfl sl22 rfl hkl rfl) (st_vg rfl (bool_get rfl hg) (v_fieldAddr rfl fa61_0 rfl) (st_vg rfl (bool_get rfl hg) (v_ldy rfl ld9) ?_)))))
          refine st_vg rfl (bool_get rfl hg) (v_move rfl) (st_clrg rfl (bool_get rfl hg) rfl rfl en32 rfl (is_ct hv hR hdC hcC) ?_)
          refine st_v (v_pick_true (bool_ev rfl hg) rfl) ?_
          exact hcut _ (ssub_head (by first | rfl | (rw [hg]; rfl) | simp_all) (ssub_skip rfl (ssub_skip rfl (ssub_skip rfl (ssub_skip rfl (ssub_skip rfl (ssub_skip rfl (ssub_skip rfl (ssub_skip rfl (ssub_refl))))))))))
        refine st_v (v_move rfl) (st_cut (k := 15) (d := 95) (v := .bool (((ns.any fun a => has l c a) && has l dn c) && !(ns.any fun a => has l dn a))) (fun hcut => bool_want (b := ((ns.any fun a => has l c a) && has l dn c)) true (fun hg => ?_) (fun hg => ?_)) ?_)
        · refine st_sk rfl rfl hg ?_
          refine st_sk rfl rfl hg ?_
          refine st_v (v_pick_false (bool_ev rfl hg) rfl) ?_
          exact hcut _ (ssub_head (by first | rfl | (rw [hg]; rfl) | simp_all) (ssub_skip rfl (ssub_skip rfl (ssub_refl))))
        · skip
          refine st_vg rfl (bool_get rfl hg) (v_move rfl) (st_vg rfl (bool_get rfl hg) (v_not rfl) (st_v (v_pick_true (bool_ev rfl hg) rfl) ?_))
          exact hcut _ (ssub_head (by first | rfl | (rw [hg]; rfl) | simp_all) (ssub_skip rfl (ssub_skip rfl (ssub_refl))))
        refine st_v (v_move rfl) (st_cut (k := 32) (d := 112) (v := .bool ((((ns.any fun a => has l c a) && has l dn c) && !(ns.any fun a => has l dn a)) || (((!(ns.any fun a => has l c a)) && has l c dn) && (ns.any fun a => has l dn a)))) (fun hcut => bool_want (b := (((ns.any fun a => has l c a) && has l dn c) && !(ns.any fun a => has l dn a))) false (fun hg => ?_) (fun hg => ?_)) ?_)
        · refine st_sk rfl rfl hg ?_
          refine st_sk rfl rfl hg ?_
          refine st_sk rfl rfl hg ?_
          refine st_sku rfl rfl ?_
          refine st_sku rfl rfl ?_
          refine st_sku rfl rfl ?_
          refine st_sku rfl rfl ?_
          refine st_sku rfl rfl ?_
          refine st_sku rfl rfl ?_
          refine st_sku rfl rfl ?_
          refine st_sku rfl rfl ?_
          refine st_sk rfl rfl hg ?_
          refine st_sk rfl rfl hg ?_
          refine st_sku rfl rfl ?_
          refine st_sk rfl rfl hg ?_
          refine st_v (v_pick_true (bool_ev rfl hg) rfl) ?_
          exact hcut _ (ssub_head (by first | rfl | (rw [hg]; rfl) | simp_all) (ssub_skip rfl (ssub_skip rfl (ssub_skip rfl (ssub_skip rfl (ssub_skip rfl (ssub_skip rfl (ssub_skip rfl (ssub_skip rfl (ssub_skip rfl (ssub_skip rfl (ssub_skip rfl (ssub_skip rfl (ssub_skip rfl (ssub_skip rfl (ssub_skip rfl (ssub_refl)))))))))))))))))
        · skip
          refine st_vg rfl (bool_get rfl hg) (v_move rfl) (st_vg rfl (bool_get rfl hg) (v_not rfl) (st_vg rfl (bool_get rfl hg) (v_move rfl) (st_cut (k := 28) (d := 108) (v := .bool ((!(ns.any fun a => has l c a)) && has l c dn)) (fun hcut => bool_want (b := (!(ns.any fun a => has l c a))) true (fun hg1 => ?_) (fun hg1 => ?_)) ?_)))
          · refine st_sk rfl rfl hg1 ?_
            refine st_sk rfl rfl hg1 ?_
            refine st_sk rfl rfl hg1 ?_
            refine st_sk rfl rfl hg1 ?_
            refine st_sk rfl rfl hg1 ?_
            refine st_sk rfl rfl hg1 ?_
            refine st_sk rfl rfl hg1 ?_
            refine st_sk rfl rfl hg1 ?_
            refine st_vg rfl (bool_get rfl hg) (v_pick_false (bool_ev rfl hg1) rfl) ?_
            exact hcut _ (ssub_head (by first | rfl | (rw [hg1]; rfl) | simp_all) (ssub_skip rfl (ssub_skip rfl (ssub_skip rfl (ssub_skip rfl (ssub_skip rfl (ssub_skip rfl (ssub_skip rfl (ssub_skip rfl (ssub_refl))))))))))
          · skip
            refine st_vg rfl (bool_get rfl hg1) (v_move rfl) (st_vg rfl (bool_get rfl hg1) (v_move rfl) (st_vg rfl (bool_get rfl hg1) (v_move rfl) (st_vg rfl (bool_get rfl hg1) (v_move rfl) (st_vg rfl (bool_get rfl hg1) (v_indexAddr (k := k) (congrArg some hv2) rfl sl22 rfl hkl rfl) (st_vg rfl (bool_get rfl hg1) (v_fieldAddr rfl fa61_0 rfl) (st_vg rfl (bool_get rfl hg1) (v_ldy rfl ld9) ?_))))))
            refine st_clrg rfl (bool_get rfl hg1) rfl rfl en32 rfl (is_ct hv hR hcC hdC) ?_
            refine st_vg rfl (bool_get rfl hg) (v_pick_true (bool_ev rfl hg1) rfl) ?_
            exact hcut _ (ssub_head (by first | rfl | (rw [hg1]; rfl) | simp_all) (ssub_skip rfl (ssub_skip rfl (ssub_skip rfl (ssub_skip rfl (ssub_skip rfl (ssub_skip rfl (ssub_skip rfl (ssub_skip rfl (ssub_refl))))))))))
          refine st_vg rfl (bool_get rfl hg) (v_move rfl) (st_cut (k := 31) (d := 111) (v := .bool (((!(ns.any fun a => has l c a)) && has l c dn) && (ns.any fun a => has l dn a))) (fun hcut => bool_want (b := ((!(ns.any fun a => has l c a)) && has l c dn)) true (fun hg1 => ?_) (fun hg1 => ?_)) ?_)
          · refine st_sk rfl rfl hg1 ?_
            refine st_vg rfl (bool_get rfl hg) (v_pick_false (bool_ev rfl hg1) rfl) ?_
            exact hcut _ (ssub_head (by first | rfl | (rw [hg1]; rfl) | simp_all) (ssub_skip rfl (ssub_refl)))
          · skip
            refine st_vg rfl (bool_get rfl hg1) (v_move rfl) (st_vg rfl (bool_get rfl hg) (v_pick_true (bool_ev rfl hg1) rfl) ?_)
            exact hcut _ (ssub_head (by first | rfl | (rw [hg1]; rfl) | simp_all) (by repeat (first | exact ssub_refl | refine ssub_skip rfl ?_)))
          refine st_v (v_pick_false (bool_ev rfl hg) rfl) ?_
          exact hcut _ (ssub_head (by first | rfl | (rw [hg]; rfl) | simp_all) (by repeat (first | exact ssub_refl | refine ssub_skip rfl ?_)))
        rw [reach_no]
        refine st_nil (nx_kp [0, 7, 8, 10, 14, 112] rfl (nx_then (cd_false rfl ?_)))
        refine cd_skip (xt_normal_block (xt_then (cd_region (st_v (v_move rfl) (st_v (v_add rfl rfl (by unfold I64 at *; omega)) (st_v (v_assign rfl) (st_nil (nx_kp [0, 7, 8, 10, 14] rfl (nx_xt ?_)))))))))
        refine xt_aq (k + 1) hkl (by show _ - _ < _ - _; omega)
      · skip
        refine cd_exit (xt_exit_then (xt_exit_then (xt_exit_block (xt_then (cd_seq (cd_region (st_clr rfl rfl en15 rfl (sanityR) ?_)))))))
        refine st_v (v_assign rfl) (st_nil (nx_kp [6] rfl (nx_then (cd_ret (xt_law rfl ?_)))))
        refine Sub.sel (by repeat (first | exact Sel.here | apply Sel.there)) ?_
        repeat apply Sub.cons
        exact Sub.refl _
end
end Go.Hr
