/-
  HeirIsOrder. Conditions: what is read.
  HeirCounts. Conditions: what is read.
-/
import Derived.Test.YtjgiaohieadeiaaM8
set_option linter.unusedVariables false
set_option linter.unusedSimpArgs false
namespace Go.Hr
open Go Go.RowKit Go.Ck Go.Proofs Go.Proofs.Ytjgiaohieadeiaa Fx
attribute [local irreducible] Go.Ck.Sub St Cd Xt Nx DrL LsW
theorem rightR {S : Res} {v : Value} {l : Sys} (hv : sysR S v l) : Reads Try.prog 29 #[v] [S] (.bool (rightB l)) := rightL_ct hv
theorem below_at {l : Sys} {a b : Nm} (hb : isC l b = true) : decide (0 ≤ ixS (below l a) b) = has l b a := by
  rw [ixS_has, Bool.eq_iff_iff, List.contains_iff_mem, mem_below]
  exact ⟨fun h => h.2, fun h => ⟨isC_iff.1 hb, h⟩⟩
theorem and_trans {l : Sys} {a b c : Nm} : ((has l a b && has l b c) && !has l a c) = false := by
  cases h1 : has l a b <;> cases h2 : has l b c <;> simp
  exact has_trans h1 h2
theorem and_anti {l : Sys} (hR : Right l) {a b : Nm} : (((a != b) && has l a b) && has l b a) = false := by
  cases h1 : has l a b <;> cases h2 : has l b a <;> simp
  exact has_antisymm hR.acyc h1 h2
section
variable {S : Res} {v : Value} {l : Sys}
set_option maxRecDepth 100000 in
theorem heirIsOrder_ct (hv : sysR S v l) {i j k : Nat} (hi : i ≤ 255) (hj : j ≤ 255) (hk : k ≤ 255) : Ct Try.prog 11 #[v, .int .u8 (i : Int), .int .u8 (j : Int), .int .u8 (k : Int)] [S] fun u h' => u = .bool true ∧ h' = [S] := by
  obtain ⟨la, cap, rfl, _⟩ := id hv
  refine ct_of (n := 90) Try.func11 rfl rfl (len rfl) fun hr w0 => ?_
  refine cd_seq (cd_region (st_v (v_assign rfl) (st_nil (nx_then (cd_seq (cd_seq (cd_region (st_v (v_move rfl) (st_clr rfl rfl en29 rfl (rightR hv) ?_)))))))))
  refine st_v (v_not rfl) (st_nil (nx_kp [0, 1, 2, 3, 8, 16] rfl (nx_then (cd_cond rfl (fun hr => ?_) (fun hr => ?_)))))
  · skip
    refine cd_seq (cd_region (st_clr rfl rfl en15 rfl (sanityR) ?_))
    refine st_v (v_assign rfl) (st_nil (nx_kp [8] rfl (nx_then (cd_ret (xt_ret_then (xt_law rfl ?_))))))
    refine Sub.sel (by repeat (first | exact Sel.here | apply Sel.there)) ?_
    repeat apply Sub.cons
    exact Sub.refl _
  · skip
    have hr : rightB l = true := by simpa using hr
    obtain ⟨hR, h0⟩ := rightB_iff.1 hr
    have hFl := hR.len
    refine cd_skip (xt_then (cd_seq (cd_region (st_v (v_move rfl) (st_v (v_move rfl) (st_clr rfl rfl en30 rfl (name_ct hv h0 (by omega) hi) ?_))))))
    refine st_v (v_assign rfl) (st_nil (nx_kp [0, 2, 3, 8, 9] rfl (nx_then (cd_seq (cd_region (st_v (v_move rfl) (st_v (v_move rfl) (st_clr rfl rfl en30 rfl (name_ct hv h0 (by omega) hj) ?_))))))))
    refine st_v (v_assign rfl) (st_nil (nx_kp [0, 3, 8, 9, 10] rfl (nx_then (cd_seq (cd_region (st_v (v_move rfl) (st_v (v_move rfl) (st_clr rfl rfl en30 rfl (name_ct hv h0 (by omega) hk) ?_))))))))
    refine st_v (v_assign rfl) (st_nil (nx_kp [0, 8, 9, 10, 11] rfl (nx_then (cd_seq (cd_region (st_v (v_move rfl) (st_v (v_move rfl) ?_)))))))
    have ha := nmAt_isC h0 i
    have hb := nmAt_isC h0 j
    have hc := nmAt_isC h0 k
    generalize nmAt l i = a at *
    generalize nmAt l j = b at *
    generalize nmAt l k = c at *
    have hbl : (below l a).length ≤ 24 := Nat.le_trans (List.length_filter_le _ _) (by simp [nms]; omega)
    refine st_cl rfl rfl en37 rfl (Below_ct hv a) ?_
    rintro u h' ⟨T, rfl, w, rfl, hw, rfl⟩
    rw [right1 hR ha, okL_eq rfl]
    simp only [List.cons_append, List.nil_append]
    refine st_ok (r := NR w (below l a)) (by repeat (first | exact Sel.here | apply Sel.there)) fun hok => ?_
    refine st_v (v_move rfl) (st_v (v_extract rfl rfl) (st_v (v_extract rfl rfl) (st_v (v_assign rfl) (st_v (v_assign rfl) (st_nil (nx_kp [0, 8, 9, 10, 11, 12, 13] rfl (nx_then (cd_seq (cd_seq (cd_region (st_v (v_move rfl) (st_v (v_neq rfl rfl) (st_v (v_move rfl) (st_vg rfl rfl (v_move rfl) (st_vg rfl rfl (v_move rfl) ?_)))))))))))))))
    refine st_vg rfl rfl (v_move rfl) (st_clrg rfl rfl rfl rfl en32 rfl (is_ct hv hR ha ha) ?_)
    rw [has_refl]
    refine st_vg rfl rfl (v_not rfl) (st_v (v_pick_false rfl rfl) (st_v (v_move rfl) (st_vg rfl rfl (v_move rfl) (st_vg rfl rfl (v_move rfl) (st_vg rfl rfl (v_move rfl) (st_clrg rfl rfl rfl rfl en32 rfl (is_ct hv hR ha hb) ?_))))))
    refine st_vg rfl rfl (v_move rfl) (st_cut (k := 20) (d := 52) (v := .bool (has l a b && has l b c)) (fun hcut => bool_want (b := has l a b) true (fun hg => ?_) (fun hg => ?_)) ?_)
    · refine st_sk rfl rfl hg ?_
      refine st_sk rfl rfl hg ?_
      refine st_sk rfl rfl hg ?_
      refine st_sk rfl rfl hg ?_
      refine st_vg rfl rfl (v_pick_false (bool_ev rfl hg) rfl) ?_
      exact hcut _ (ssub_head (by first | rfl | (rw [hg]; rfl) | simp_all) (ssub_skip rfl (ssub_skip rfl (ssub_skip rfl (ssub_skip rfl (ssub_refl))))))
    · skip
      refine st_vg rfl (bool_get rfl hg) (v_move rfl) (st_vg rfl (bool_get rfl hg) (v_move rfl) (st_vg rfl (bool_get rfl hg) (v_move rfl) (st_clrg rfl (bool_get rfl hg) rfl rfl en32 rfl (is_ct hv hR hb hc) ?_)))
      refine st_vg rfl rfl (v_pick_true (bool_ev rfl hg) rfl) ?_
      exact hcut _ (ssub_head (by first | rfl | (rw [hg]; rfl) | simp_all) (ssub_skip rfl (ssub_skip rfl (ssub_skip rfl (ssub_skip rfl (ssub_refl))))))
    refine st_vg rfl rfl (v_move rfl) (st_cut (k := 27) (d := 59) (v := .bool ((has l a b && has l b c) && !has l a c)) (fun hcut => bool_want (b := (has l a b && has l b c)) true (fun hg => ?_) (fun hg => ?_)) ?_)
    · refine st_sk rfl rfl hg ?_
      refine st_sk rfl rfl hg ?_
      refine st_sk rfl rfl hg ?_
      refine st_sk rfl rfl hg ?_
      refine st_sk rfl rfl hg ?_
      refine st_vg rfl rfl (v_pick_false (bool_ev rfl hg) rfl) ?_
      exact hcut _ (ssub_head (by first | rfl | (rw [hg]; rfl) | simp_all) (ssub_skip rfl (ssub_skip rfl (ssub_skip rfl (ssub_skip rfl (ssub_skip rfl (ssub_refl)))))))
    · skip
      refine st_vg rfl (bool_get rfl hg) (v_move rfl) (st_vg rfl (bool_get rfl hg) (v_move rfl) (st_vg rfl (bool_get rfl hg) (v_move rfl) (st_clrg rfl (bool_get rfl hg) rfl rfl en32 rfl (is_ct hv hR ha hc) ?_)))
      refine st_vg rfl (bool_get rfl hg) (v_not rfl) (st_vg rfl rfl (v_pick_true (bool_ev rfl hg) rfl) ?_)
      exact hcut _ (ssub_head (by first | rfl | (rw [hg]; rfl) | simp_all) (ssub_skip rfl (ssub_skip rfl (ssub_skip rfl (ssub_skip rfl (ssub_skip rfl (ssub_refl)))))))
    refine st_v (v_pick_false rfl rfl) (st_v (v_move rfl) ?_)
    rw [and_trans]
    refine st_vg rfl rfl (v_move rfl) (st_vg rfl rfl (v_move rfl) (st_vg rfl rfl (v_sneq rfl rfl) (st_vg rfl rfl (v_move rfl) (st_cut (k := 38) (d := 70) (v := .bool ((a != b) && has l a b)) (fun hcut => bool_want (b := (a != b)) true (fun hg => ?_) (fun hg => ?_)) ?_))))
    · refine st_sk rfl rfl hg ?_
      refine st_sk rfl rfl hg ?_
      refine st_sk rfl rfl hg ?_
      refine st_sk rfl rfl hg ?_
      refine st_vg rfl rfl (v_pick_false (bool_ev rfl hg) rfl) ?_
      exact hcut _ (ssub_head (by first | rfl | (rw [hg]; rfl) | simp_all) (ssub_skip rfl (ssub_skip rfl (ssub_skip rfl (ssub_skip rfl (ssub_refl))))))
    · skip
      refine st_vg rfl (bool_get rfl hg) (v_move rfl) (st_vg rfl (bool_get rfl hg) (v_move rfl) (st_vg rfl (bool_get rfl hg) (v_move rfl) (st_clrg rfl (bool_get rfl hg) rfl rfl en32 rfl (is_ct hv hR ha hb) ?_)))
      refine st_vg rfl rfl (v_pick_true (bool_ev rfl hg) rfl) ?_
      exact hcut _ (ssub_head (by first | rfl | (rw [hg]; rfl) | simp_all) (ssub_skip rfl (ssub_skip rfl (ssub_skip rfl (ssub_skip rfl (ssub_refl))))))
    refine st_vg rfl rfl (v_move rfl) (st_cut (k := 44) (d := 76) (v := .bool (((a != b) && has l a b) && has l b a)) (fun hcut => bool_want (b := ((a != b) && has l a b)) true (fun hg => ?_) (fun hg => ?_)) ?_)
    · refine st_sk rfl rfl hg ?_
      refine st_sk rfl rfl hg ?_
      refine st_sk rfl rfl hg ?_
      refine st_sk rfl rfl hg ?_
      refine st_vg rfl rfl (v_pick_false (bool_ev rfl hg) rfl) ?_
      exact hcut _ (ssub_head (by first | rfl | (rw [hg]; rfl) | simp_all) (ssub_skip rfl (ssub_skip rfl (ssub_skip rfl (ssub_skip rfl (ssub_refl))))))
    · skip
      refine st_vg rfl (bool_get rfl hg) (v_move rfl) (st_vg rfl (bool_get rfl hg) (v_move rfl) (st_vg rfl (bool_get rfl hg) (v_move rfl) (st_clrg rfl (bool_get rfl hg) rfl rfl en32 rfl (is_ct hv hR hb ha) ?_)))
      refine st_vg rfl rfl (v_pick_true (bool_ev rfl hg) rfl) ?_
      exact hcut _ (ssub_head (by first | rfl | (rw [hg]; rfl) | simp_all) (ssub_skip rfl (ssub_skip rfl (ssub_skip rfl (ssub_skip rfl (ssub_refl))))))
    refine st_v (v_pick_false rfl rfl) (st_nil (nx_kp [0, 8, 9, 10, 12, 77] rfl (nx_then ?_)))
    rw [and_anti hR]
    refine cd_false rfl ?_
    refine cd_skip (xt_then (cd_seq (cd_region (st_clr rfl rfl en15 rfl (sanityR) ?_))))
    refine st_v (v_move rfl) (st_vg rfl rfl (v_move rfl) (st_vg rfl rfl (v_move rfl) (st_clrg rfl rfl rfl rfl en34 rfl (at_ct (nms_own hok) b (by omega)) ?_)))
    refine st_vg rfl rfl (v_geq rfl rfl) (st_vg rfl rfl (v_move rfl) (st_vg rfl rfl (v_move rfl) (st_vg rfl rfl (v_move rfl) (st_clrg rfl rfl rfl rfl en32 rfl (is_ct hv hR hb ha) ?_))))
    rw [below_at hb]
    refine st_vg rfl rfl (v_eql_bool Try.underlying4 rfl rfl) (st_v (v_pick_true rfl rfl) (st_v (v_assign rfl) (st_nil (nx_kp [8] rfl (nx_then (cd_ret ?_))))))
    rw [beq_self_eq_true]
    refine xt_law rfl ?_
    refine Sub.sel (by repeat (first | exact Sel.here | apply Sel.there)) ?_
    repeat apply Sub.cons
    exact Sub.refl _
end
end Go.Hr
namespace Go.Hr
open Go Go.RowKit Go.Ck Go.Proofs Go.Proofs.Ytjgiaohieadeiaa Fx
attribute [local irreducible] Go.Ck.Sub St Cd Xt Nx DrL LsW
theorem ways_24 {l : Sys} (hR : Right l) (c a : Nm) : ways l c a ≤ 4 ^ 24 :=
  Nat.le_trans (ways_le hR.acyc hR.par_few a c) (Nat.pow_le_pow_right (by omega) (Nat.le_trans (rk_le l c) hR.len))
def sumW (l : Sys) (a : Nm) (ps : List Nm) : Nat := (ps.map fun p => ways l p a).sum
theorem sumW_snoc (l : Sys) (a : Nm) (ps : List Nm) (p : Nm) : sumW l a (ps ++ [p]) = sumW l a ps + ways l p a := by simp [sumW]
theorem sumW_le {l : Sys} (hR : Right l) (a : Nm) (ps : List Nm) : sumW l a ps ≤ ps.length * 4 ^ 24 := sum_le fun p _ => ways_24 hR p a
section
variable {S : Res} {v : Value} {l : Sys}
set_option maxRecDepth 100000 in
theorem heirCounts_ct (hv : sysR S v l) {i j : Nat} (hi : i ≤ 255) (hj : j ≤ 255) : Ct Try.prog 5 #[v, .int .u8 (i : Int), .int .u8 (j : Int)] [S] fun u h' => u = .bool true ∧ h' = [S] := by
  obtain ⟨la, cap, rfl, _⟩ := id hv
  refine ct_of (n := 100) Try.func5 rfl rfl (len rfl) fun hr w0 => ?_
  refine cd_seq (cd_region (st_v (v_assign rfl) (st_nil (nx_then (cd_seq (cd_seq (cd_region (st_v (v_move rfl) (st_clr rfl rfl en29 rfl (rightR hv) ?_)))))))))
  refine st_v (v_not rfl) (st_nil (nx_kp [0, 1, 2, 6, 17] rfl (nx_then (cd_cond rfl (fun hrg => ?_) (fun hrg => ?_)))))
  · skip
    refine cd_seq (cd_region (st_clr rfl rfl en15 rfl (sanityR) ?_))
    refine st_v (v_assign rfl) (st_nil (nx_kp [6] rfl (nx_then (cd_ret (xt_ret_then (xt_law rfl ?_))))))
    refine Sub.sel (by repeat (first | exact Sel.here | apply Sel.there)) ?_
    repeat apply Sub.cons
    exact Sub.refl _
  · skip
    have hrg : rightB l = true := by simpa using hrg
    obtain ⟨hR, h0⟩ := rightB_iff.1 hrg
    have hFl := hR.len
    have hlt := Nat.mod_lt i h0
    obtain ⟨b, o, cap2, d, f, pa, pc, c2, fa, fc, j2, hv2, hrd, hP, hone⟩ := sys_at hv (clAt_get h0 i)
    have hxm := clAt_mem h0 i
    have hxC := nmAt_isC h0 i
    have hpar := hR.par_eq hxm
    have hpf := hR.few _ hxm
    have hpall := hR.all _ hxm
    unfold nmAt at hxC
    refine cd_skip (xt_then (cd_seq (cd_region (st_v (v_move rfl) (st_v (v_conv rfl Try.underlying5 Try.underlying3 (wrap_small hi)) (st_v (v_move rfl) (st_v (v_len rfl Try.underlying22) (st_v (v_rem rfl rfl (by omega) (by rw [tmod_nat]; exact I64.wrap (by unfold I64; omega))) ?_))))))))
    rw [tmod_nat]
    refine st_v (v_assign rfl) (st_nil (nx_kp [0, 2, 6, 7] rfl (nx_then (cd_seq (cd_region (st_v (v_move rfl) (st_v (v_move rfl) (st_clr rfl rfl en30 rfl (name_ct hv h0 (by omega) hj) ?_))))))))
    refine st_v (v_assign rfl) (st_nil (nx_kp [0, 6, 7, 8] rfl (nx_then (cd_seq (cd_region (st_v (v_move rfl) (st_v (v_move rfl) (st_v (v_move rfl) ?_))))))))
    have haC := nmAt_isC h0 j
    generalize clAt l i = x at *
    generalize nmAt l j = a at *
    refine st_v (v_indexAddr (k := i % l.length) (congrArg some hv2) rfl sl22 rfl hlt rfl) (st_v (v_fieldAddr rfl fa61_0 rfl) (st_v (v_ldy rfl ld9) ?_))
    refine st_v (v_move rfl) (st_cl rfl rfl en31 rfl (Ways_ct hv x.name a) ?_)
    rintro u h' ⟨rfl, rfl⟩
    rw [right2 hR hxC haC]
    simp only [List.cons_append, List.nil_append]
    rw [show okN 0 (ways l x.name a) = (ways l x.name a : Int) from rfl]
    refine st_v (v_move rfl) (st_v (v_extract rfl rfl) (st_v (v_extract rfl rfl) (st_v (v_assign rfl) (st_v (v_assign rfl) (st_nil (nx_kp [0, 6, 7, 8, 9, 10] rfl (nx_then (cd_seq (cd_region (st_v (v_assign rfl) (st_nil (nx_then (cd_seq (cd_seq (cd_region (st_v (v_assign rfl) ?_))))))))))))))))
    refine st_nil (nx_then (cd_block (cd_lq (σ := Nat) (fun p => [(0, .slice la l.length cap), (7, .int .i64 ((i % l.length : Nat) : Int)), (8, sv a), (9, .int .i64 (ways l x.name a : Int)), (10, .int .i64 0), (11, .int .i64 ((sumW l a (x.parents.take p) : Nat) : Int)), (12, .int .i64 (p : Nat))]) (fun _ => S :: hr) (fun p => p ≤ x.parents.length) (fun p => x.parents.length - p) 0 (Nat.zero_le _) ?_)))
    rintro p hp
    refine cd_seq (cd_seq (cd_region (st_v (v_move rfl) (st_v (v_move rfl) (st_v (v_move rfl) (st_v (v_indexAddr (k := i % l.length) (congrArg some hv2) rfl sl22 rfl hlt rfl) (st_v (v_fieldAddr rfl fa61_3 rfl) (st_v (v_ldy rfl ld57) ?_))))))))
    refine st_v (v_len rfl Try.underlying57) (st_v (v_lss rfl rfl) (st_nil (nx_kp [0, 7, 8, 9, 10, 11, 12, 45] rfl (nx_then (cd_cond rfl (fun hd => ?_) (fun hd => ?_))))))
    · skip
      have hplt : p < x.parents.length := by simpa using hd
      have hpi := List.getElem?_eq_getElem hplt
      obtain ⟨pb, po, pcap, q1, q2, q3, q4, q5, hpv, hprd, hpone⟩ := par_at hP hpi
      have hpC := hpall _ (List.getElem_mem hplt)
      have hsn := sumW_snoc l a (x.parents.take p) x.parents[p]
      rw [← List.take_succ_eq_append_getElem hplt] at hsn
      have hb1 := sumW_le hR a (x.parents.take p)
      have hb2 := ways_24 hR x.parents[p] a
      rw [List.length_take] at hb1
      have hb3 : min p x.parents.length * 4 ^ 24 ≤ 4 * 4 ^ 24 := Nat.mul_le_mul_right _ (by omega)
      generalize x.parents[p] = z at *
      refine cd_skip (xt_then (cd_seq (cd_block (cd_seq (cd_region (st_v (v_move rfl) (st_v (v_move rfl) (st_v (v_move rfl) (st_v (v_indexAddr (k := i % l.length) (congrArg some hv2) rfl sl22 rfl hlt rfl) (st_v (v_fieldAddr rfl fa61_3 rfl) (st_v (v_ldy rfl ld57) ?_)))))))))))
      refine st_v (v_move rfl) (st_v (v_indexAddr (k := p) (congrArg some hpv) rfl sl57 rfl hplt rfl) (st_v (v_fieldAddr rfl fa65_0 rfl) (st_v (v_ldy rfl ld9) ?_)))
      refine st_v (v_move rfl) (st_cl rfl rfl en31 rfl (Ways_ct hv z a) ?_)
      rintro u h' ⟨rfl, rfl⟩
      rw [right2 hR hpC haC]
      simp only [List.cons_append, List.nil_append]
      rw [show okN 0 (ways l z a) = (ways l z a : Int) from rfl]
      refine st_v (v_move rfl) (st_v (v_extract rfl rfl) (st_v (v_extract rfl rfl) (st_v (v_assign rfl) (st_v (v_assign rfl) (st_nil (nx_kp [0, 7, 8, 9, 10, 11, 12, 13, 14] rfl (nx_then (cd_seq (cd_seq (cd_region (st_v (v_move rfl) (st_v (v_neq rfl rfl) (st_nil (nx_kp [0, 7, 8, 9, 10, 11, 12, 13, 64] rfl (nx_then (cd_false rfl ?_))))))))))))))))
      refine cd_skip (xt_then (cd_region (st_v (v_move rfl) (st_v (v_move rfl) (st_v (v_add rfl rfl (by unfold I64 at *; omega)) (st_v (v_assign rfl) (st_nil (nx_kp [0, 7, 8, 9, 10, 11, 12] rfl (nx_xt (xt_normal_block (xt_then (cd_region (st_v (v_move rfl) (st_v (v_add rfl rfl (by unfold I64 at *; omega)) (st_v (v_assign rfl) ?_)))))))))))))))
      refine st_nil (nx_kp [0, 7, 8, 9, 10, 11, 12] rfl (nx_xt ?_))
      rw [show ((sumW l a (x.parents.take p) : Nat) : Int) + (ways l z a : Int) = ((sumW l a (x.parents.take (p + 1)) : Nat) : Int) by rw [hsn]; omega]
      refine xt_aq (p + 1) hplt (by show _ - _ < _ - _; omega)
    · skip
      have hpe : p = x.parents.length := by have : ¬ p < x.parents.length := by simpa using hd
                                            omega
      subst hpe
      rw [List.take_length]
      have hwr : ways l x.name a = (if x.name = a then 1 else 0) + sumW l a x.parents := by rw [ways_rec hR.acyc, hpar]; rfl
      have hgt : decide ((0 : Int) < (ways l x.name a : Int)) = has l x.name a := by
        rw [Bool.eq_iff_iff, decide_eq_true_eq, ← ways_pos hR.acyc]
        omega
      have hb1 := sumW_le hR a x.parents
      have hb3 : x.parents.length * 4 ^ 24 ≤ 4 * 4 ^ 24 := Nat.mul_le_mul_right _ hpf
      refine cd_exit (xt_exit_then (xt_exit_then (xt_exit_block (xt_then (cd_seq (cd_seq (cd_region (st_v (v_move rfl) (st_v (v_move rfl) (st_v (v_indexAddr (k := i % l.length) (congrArg some hv2) rfl sl22 rfl hlt rfl) (st_v (v_fieldAddr rfl fa61_0 rfl) (st_v (v_ldy rfl ld9) ?_))))))))))))
      refine st_v (v_move rfl) (st_v (v_seql rfl rfl) (st_nil (nx_kp [0, 7, 8, 9, 10, 11, 74] rfl (nx_then ?_))))
      by_cases hxa : x.name = a
      · skip
        rw [if_pos hxa] at hwr
        rw [show (x.name == a) = true from beq_iff_eq.2 hxa]
        refine cd_true rfl ?_
        refine cd_region (st_v (v_move rfl) (st_v (v_add rfl rfl (by unfold I64 at *; omega)) (st_v (v_assign rfl) (st_nil (nx_kp [0, 7, 8, 9, 10, 11] rfl (nx_then (cd_seq (cd_region ?_))))))))
        rw [show ((sumW l a x.parents : Nat) : Int) + 1 = (ways l x.name a : Int) by rw [hwr]; omega]
        refine st_clr rfl rfl en15 rfl (sanityR) ?_
        refine st_v (v_move rfl) (st_vg rfl rfl (v_move rfl) (st_vg rfl rfl (v_eql rfl rfl) (st_v (v_pick_true rfl rfl) (st_v (v_move rfl) (st_vg rfl rfl (v_move rfl) (st_vg rfl rfl (v_move rfl) (st_vg rfl rfl (v_eql rfl rfl) (st_v (v_pick_true rfl rfl) (st_v (v_move rfl) ?_)))))))))
        rw [beq_self_eq_true]
        refine st_vg rfl rfl (v_move rfl) (st_vg rfl rfl (v_gtr rfl rfl) (st_vg rfl rfl (v_move rfl) (st_vg rfl rfl (v_move rfl) (st_vg rfl rfl (v_move rfl) (st_vg rfl rfl (v_indexAddr (k := i % l.length) (congrArg some hv2) rfl sl22 rfl hlt rfl) (st_vg rfl rfl (v_fieldAddr rfl fa61_0 rfl) (st_vg rfl rfl (v_ldy rfl ld9) ?_)))))))
        refine st_vg rfl rfl (v_move rfl) (st_clrg rfl rfl rfl rfl en32 rfl (is_ct hv hR hxC haC) ?_)
        rw [hgt]
        refine st_vg rfl rfl (v_eql_bool Try.underlying4 rfl rfl) (st_v (v_pick_true rfl rfl) (st_v (v_assign rfl) (st_nil (nx_kp [6] rfl (nx_then (cd_ret ?_))))))
        rw [beq_self_eq_true]
        refine xt_law rfl ?_
        refine Sub.sel (by repeat (first | exact Sel.here | apply Sel.there)) ?_
        repeat apply Sub.cons
        exact Sub.refl _
      · skip
        rw [if_neg hxa, Nat.zero_add] at hwr
        rw [show (x.name == a) = false from beq_eq_false_iff_ne.2 hxa]
        refine cd_false rfl ?_
        refine cd_skip (xt_then (cd_seq (cd_region ?_)))
        rw [← hwr]
        refine st_clr rfl rfl en15 rfl (sanityR) ?_
        refine st_v (v_move rfl) (st_vg rfl rfl (v_move rfl) (st_vg rfl rfl (v_eql rfl rfl) (st_v (v_pick_true rfl rfl) (st_v (v_move rfl) (st_vg rfl rfl (v_move rfl) (st_vg rfl rfl (v_move rfl) (st_vg rfl rfl (v_eql rfl rfl) (st_v (v_pick_true rfl rfl) (st_v (v_move rfl) ?_)))))))))
        rw [beq_self_eq_true]
        refine st_vg rfl rfl (v_move rfl) (st_vg rfl rfl (v_gtr rfl rfl) (st_vg rfl rfl (v_move rfl) (st_vg rfl rfl (v_move rfl) (st_vg rfl rfl (v_move rfl) (st_vg rfl rfl (v_indexAddr (k := i % l.length) (congrArg some hv2) rfl sl22 rfl hlt rfl) (st_vg rfl rfl (v_fieldAddr rfl fa61_0 rfl) (st_vg rfl rfl (v_ldy rfl ld9) ?_)))))))
        refine st_vg rfl rfl (v_move rfl) (st_clrg rfl rfl rfl rfl en32 rfl (is_ct hv hR hxC haC) ?_)
        rw [hgt]
        refine st_vg rfl rfl (v_eql_bool Try.underlying4 rfl rfl) (st_v (v_pick_true rfl rfl) (st_v (v_assign rfl) (st_nil (nx_kp [6] rfl (nx_then (cd_ret ?_))))))
        rw [beq_self_eq_true]
        refine xt_law rfl ?_
        refine Sub.sel (by repeat (first | exact Sel.here | apply Sel.there)) ?_
        repeat apply Sub.cons
        exact Sub.refl _
end
end Go.Hr
