/-
  HeirIsOrder. Conditions: what is read.
  HeirMeets. Conditions: what is read.
-/
import Derived.Test.YtjgiaohieadeiaaM8
set_option linter.unusedVariables false
set_option linter.unusedSimpArgs false
namespace Go.Hr
open Go Go.RowKit Go.Ck Go.Proofs Go.Proofs.Ytjgiaohieadeiaa Fx
attribute [local irreducible] Go.Ck.Sub St Cd Xt Nx DrL LsW
theorem rightR {S : Res} {v : Value} {l : Sys} (hv : sysR S v l) : Reads Try.prog 29 #[v] [S] (.bool (rightB l)) := rightL_ct hv
theorem below_at {l : Sys} {a b : Nm} (hb : isC l b = true) : decide (0 ≤ ixS (below l a) b) = has l b a := by
  rw [ixS_has, Bool.eq_iff_iff, List.contains_iff_mem, mem_below]
  exact ⟨fun h => h.2, fun h => ⟨isC_iff.1 hb, h⟩⟩
theorem and_trans {l : Sys} {a b c : Nm} : ((has l a b && has l b c) && !has l a c) = false := by
  cases h1 : has l a b <;> cases h2 : has l b c <;> simp
  exact has_trans h1 h2
theorem and_anti {l : Sys} (hR : Right l) {a b : Nm} : (((a != b) && has l a b) && has l b a) = false := by
  cases h1 : has l a b <;> cases h2 : has l b a <;> simp
  exact has_antisymm hR.acyc h1 h2
section
variable {S : Res} {v : Value} {l : Sys}
set_option maxRecDepth 100000 in
theorem heirIsOrder_ct (hv : sysR S v l) {i j k : Nat} (hi : i ≤ 255) (hj : j ≤ 255) (hk : k ≤ 255) : Ct Try.prog 11 #[v, .int .u8 (i : Int), .int .u8 (j : Int), .int .u8 (k : Int)] [S] fun u h' => u = .bool true ∧ h' = [S] := by
  obtain ⟨la, cap, rfl, _⟩ := id hv
  refine ct_of (n := 90) Try.func11 rfl rfl (len rfl) fun hr w0 => ?_
  refine cd_seq (cd_region (st_v (v_assign rfl) (st_nil (nx_then (cd_seq (cd_seq (cd_region (st_v (v_move rfl) (st_clr rfl rfl en29 rfl (rightR hv) ?_)))))))))
  refine st_v (v_not rfl) (st_nil (nx_kp [0, 1, 2, 3, 8, 16] rfl (nx_then (cd_cond rfl (fun hr => ?_) (fun hr => ?_)))))
  · skip
    refine cd_seq (cd_region (st_clr rfl rfl en15 rfl (sanityR) ?_))
    refine st_v (v_assign rfl) (st_nil (nx_kp [8] rfl (nx_then (cd_ret (xt_ret_then (xt_law rfl ?_))))))
    refine Sub.sel (by repeat (first | exact Sel.here | apply Sel.there)) ?_
    repeat apply Sub.cons
    exact Sub.refl _
  · skip
    have hr : rightB l = true := by simpa using hr
    obtain ⟨hR, h0⟩ := rightB_iff.1 hr
    have hFl := hR.len
    refine cd_skip (xt_then (cd_seq (cd_region (st_v (v_move rfl) (st_v (v_move rfl) (st_clr rfl rfl en30 rfl (name_ct hv h0 (by omega) hi) ?_))))))
    refine st_v (v_assign rfl) (st_nil (nx_kp [0, 2, 3, 8, 9] rfl (nx_then (cd_seq (cd_region (st_v (v_move rfl) (st_v (v_move rfl) (st_clr rfl rfl en30 rfl (name_ct hv h0 (by omega) hj) ?_))))))))
    refine st_v (v_assign rfl) (st_nil (nx_kp [0, 3, 8, 9, 10] rfl (nx_then (cd_seq (cd_region (st_v (v_move rfl) (st_v (v_move rfl) (st_clr rfl rfl en30 rfl (name_ct hv h0 (by omega) hk) ?_))))))))
    refine st_v (v_assign rfl) (st_nil (nx_kp [0, 8, 9, 10, 11] rfl (nx_then (cd_seq (cd_region (st_v (v_move rfl) (st_v (v_move rfl) ?_)))))))
    have ha := nmAt_isC h0 i
    have hb := nmAt_isC h0 j
    have hc := nmAt_isC h0 k
    generalize nmAt l i = a at *
    generalize nmAt l j = b at *
    generalize nmAt l k = c at *
    have hbl : (below l a).length ≤ 24 := Nat.le_trans (List.length_filter_le _ _) (by simp [nms]; omega)
    refine st_cl rfl rfl en37 rfl (Below_ct hv a) ?_
    rintro u h' ⟨T, rfl, w, rfl, hw, rfl⟩
    rw [right1 hR ha, okL_eq rfl]
    simp only [List.cons_append, List.nil_append]
    refine st_ok (r := NR w (below l a)) (by repeat (first | exact Sel.here | apply Sel.there)) fun hok => ?_
    refine st_v (v_move rfl) (st_v (v_extract rfl rfl) (st_v (v_extract rfl rfl) (st_v (v_assign rfl) (st_v (v_assign rfl) (st_nil (nx_kp [0, 8, 9, 10, 11, 12, 13] rfl (nx_then (cd_seq (cd_seq (cd_region (st_v (v_move rfl) (st_v (v_neq rfl rfl) (st_v (v_move rfl) (st_vg rfl rfl (v_move rfl) (st_vg rfl rfl (v_move rfl) ?_)))))))))))))))
    refine st_vg rfl rfl (v_move rfl) (st_clrg rfl rfl rfl rfl en32 rfl (is_ct hv hR ha ha) ?_)
    rw [has_refl]
    refine st_vg rfl rfl (v_not rfl) (st_v (v_pick_false rfl rfl) (st_v (v_move rfl) (st_vg rfl rfl (v_move rfl) (st_vg rfl rfl (v_move rfl) (st_vg rfl rfl (v_move rfl) (st_clrg rfl rfl rfl rfl en32 rfl (is_ct hv hR ha hb) ?_))))))
    refine st_vg rfl rfl (v_move rfl) (st_cut (k := 20) (d := 52) (v := .bool (has l a b && has l b c)) (fun hcut => bool_want (b := has l a b) true (fun hg => ?_) (fun hg => ?_)) ?_)
    · refine st_sk rfl rfl hg ?_
      refine st_sk rfl rfl hg ?_
      refine st_sk rfl rfl hg ?_
      refine st_sk rfl rfl hg ?_
      refine st_vg rfl rfl (v_pick_false (bool_ev rfl hg) rfl) ?_
      exact hcut _ (ssub_head (by first | rfl | (rw [hg]; rfl) | simp_all) (ssub_skip rfl (ssub_skip rfl (ssub_skip rfl (ssub_skip rfl (ssub_refl))))))
    · skip
      refine st_vg rfl (bool_get rfl hg) (v_move rfl) (st_vg rfl (bool_get rfl hg) (v_move rfl) (st_vg rfl (bool_get rfl hg) (v_move rfl) (st_clrg rfl (bool_get rfl hg) rfl rfl en32 rfl (is_ct hv hR hb hc) ?_)))
      refine st_vg rfl rfl (v_pick_true (bool_ev rfl hg) rfl) ?_
      exact hcut _ (ssub_head (by first | rfl | (rw [hg]; rfl) | simp_all) (ssub_skip rfl (ssub_skip rfl (ssub_skip rfl (ssub_skip rfl (ssub_refl))))))
    refine st_vg rfl rfl (v_move rfl) (st_cut (k := 27) (d := 59) (v := .bool ((has l a b && has l b c) && !has l a c)) (fun hcut => bool_want (b := (has l a b && has l b c)) true (fun hg => ?_) (fun hg => ?_)) ?_)
    · refine st_sk rfl rfl hg ?_
      refine st_sk rfl rfl hg ?_
      refine st_sk rfl rfl hg ?_
      refine st_sk rfl rfl hg ?_
      refine st_sk rfl rfl hg ?_
      refine st_vg rfl rfl (v_pick_false (bool_ev rfl hg) rfl) ?_
      exact hcut _ (ssub_head (by first | rfl | (rw [hg]; rfl) | simp_all) (ssub_skip rfl (ssub_skip rfl (ssub_skip rfl (ssub_skip rfl (ssub_skip rfl (ssub_refl)))))))
    · skip
      refine st_vg rfl (bool_get rfl hg) (v_move rfl) (st_vg rfl (bool_get rfl hg) (v_move rfl) (st_vg rfl (bool_get rfl hg) (v_move rfl) (st_clrg rfl (bool_get rfl hg) rfl rfl en32 rfl (is_ct hv hR ha hc) ?_)))
      refine st_vg rfl (bool_get rfl hg) (v_not rfl) (st_vg rfl rfl (v_pick_true (bool_ev rfl hg) rfl) ?_)
      exact hcut _ (ssub_head (by first | rfl | (rw [hg]; rfl) | simp_all) (ssub_skip rfl (ssub_skip rfl (ssub_skip rfl (ssub_skip rfl (ssub_skip rfl (ssub_refl)))))))
    refine st_v (v_pick_false rfl rfl) (st_v (v_move rfl) ?_)
    rw [and_trans]
    refine st_vg rfl rfl (v_move rfl) (st_vg rfl rfl (v_move rfl) (st_vg rfl rfl (v_sneq rfl rfl) (st_vg rfl rfl (v_move rfl) (st_cut (k := 38) (d := 70) (v := .bool ((a != b) && has l a b)) (fun hcut => bool_want (b := (a != b)) true (fun hg => ?_) (fun hg => ?_)) ?_))))
    · refine st_sk rfl rfl hg ?_
      refine st_sk rfl rfl hg ?_
      refine st_sk rfl rfl hg ?_
      refine st_sk rfl rfl hg ?_
      refine st_vg rfl rfl (v_pick_false (bool_ev rfl hg) rfl) ?_
      exact hcut _ (ssub_head (by first | rfl | (rw [hg]; rfl) | simp_all) (ssub_skip rfl (ssub_skip rfl (ssub_skip rfl (ssub_skip rfl (ssub_refl))))))
    · skip
      refine st_vg rfl (bool_get rfl hg) (v_move rfl) (st_vg rfl (bool_get rfl hg) (v_move rfl) (st_vg rfl (bool_get rfl hg) (v_move rfl) (st_clrg rfl (bool_get rfl hg) rfl rfl en32 rfl (is_ct hv hR ha hb) ?_)))
      refine st_vg rfl rfl (v_pick_true (bool_ev rfl hg) rfl) ?_
      exact hcut _ (ssub_head (by first | rfl | (rw [hg]; rfl) | simp_all) (ssub_skip rfl (ssub_skip rfl (ssub_skip rfl (ssub_skip rfl (ssub_refl))))))
    refine st_vg rfl rfl (v_move rfl) (st_cut (k := 44) (d := 76) (v := .bool (((a != b) && has l a b) && has l b a)) (fun hcut => bool_want (b := ((a != b) && has l a b)) true (fun hg => ?_) (fun hg => ?_)) ?_)
    · refine st_sk rfl rfl hg ?_
      refine st_sk rfl rfl hg ?_
      refine st_sk rfl rfl hg ?_
      refine st_sk rfl rfl hg ?_
      refine st_vg rfl rfl (v_pick_false (bool_ev rfl hg) rfl) ?_
      exact hcut _ (ssub_head (by first | rfl | (rw [hg]; rfl) | simp_all) (ssub_skip rfl (ssub_skip rfl (ssub_skip rfl (ssub_skip rfl (ssub_refl))))))
    · skip
      refine st_vg rfl (bool_get rfl hg) (v_move rfl) (st_vg rfl (bool_get rfl hg) (v_move rfl) (st_vg rfl (bool_get rfl hg) (v_move rfl) (st_clrg rfl (bool_get rfl hg) rfl rfl en32 rfl (is_ct hv hR hb ha) ?_)))
      refine st_vg rfl rfl (v_pick_true (bool_ev rfl hg) rfl) ?_
      exact hcut _ (ssub_head (by first | rfl | (rw [hg]; rfl) | simp_all) (ssub_skip rfl (ssub_skip rfl (ssub_skip rfl (ssub_skip rfl (ssub_refl))))))
    refine st_v (v_pick_false rfl rfl) (st_nil (nx_kp [0, 8, 9, 10, 12, 77] rfl (nx_then ?_)))
    rw [and_anti hR]
    refine cd_false rfl ?_
    refine cd_skip (xt_then (cd_seq (cd_region (st_clr rfl rfl en15 rfl (sanityR) ?_))))
    refine st_v (v_move rfl) (st_vg rfl rfl (v_move rfl) (st_vg rfl rfl (v_move rfl) (st_clrg rfl rfl rfl rfl en34 rfl (at_ct (nms_own hok) b (by omega)) ?_)))
    refine st_vg rfl rfl (v_geq rfl rfl) (st_vg rfl rfl (v_move rfl) (st_vg rfl rfl (v_move rfl) (st_vg rfl rfl (v_move rfl) (st_clrg rfl rfl rfl rfl en32 rfl (is_ct hv hR hb ha) ?_))))
    rw [below_at hb]
    refine st_vg rfl rfl (v_eql_bool Try.underlying4 rfl rfl) (st_v (v_pick_true rfl rfl) (st_v (v_assign rfl) (st_nil (nx_kp [8] rfl (nx_then (cd_ret ?_))))))
    rw [beq_self_eq_true]
    refine xt_law rfl ?_
    refine Sub.sel (by repeat (first | exact Sel.here | apply Sel.there)) ?_
    repeat apply Sub.cons
    exact Sub.refl _
end
end Go.Hr
namespace Go.Hr
open Go Go.RowKit Go.Ck Go.Proofs Go.Proofs.Ytjgiaohieadeiaa Fx
attribute [local irreducible] Go.Ck.Sub St Cd Xt Nx DrL LsW
theorem least_any {l : Sys} (hR : Right l) {a b c : Nm} : ((least l a b).any fun d => has l d c) = (has l a c && has l b c) := by
  rw [Bool.eq_iff_iff, List.any_eq_true, Bool.and_eq_true]
  constructor
  · rintro ⟨d, hd, h⟩
    obtain ⟨⟨h1, h2⟩, _⟩ := (least_iff hR.acyc).1 hd
    exact ⟨has_trans h1 h, has_trans h2 h⟩
  · rintro ⟨h1, h2⟩
    obtain ⟨x, h3, h4⟩ := least_under hR.acyc _ c rfl h1 h2
    exact ⟨x, h3, h4⟩
theorem least_apart {l : Sys} (hR : Right l) {a b : Nm} {x y : Nat} (hx : x < (least l a b).length) (hy : y < (least l a b).length) (hne : x ≠ y) : has l (least l a b)[x] (least l a b)[y] = false := by
  have hn : (least l a b).Nodup := (srt_spec _).1.nodup
  cases hh : has l (least l a b)[x] (least l a b)[y] with
  | false => rfl
  | true =>
    obtain ⟨⟨h1, h2⟩, _⟩ := (least_iff hR.acyc).1 (List.getElem_mem hx)
    obtain ⟨_, h3⟩ := (least_iff hR.acyc).1 (List.getElem_mem hy)
    have he := h3 _ h1 h2 hh
    have hp := List.pairwise_iff_getElem.1 (List.nodup_iff_pairwise_ne.1 hn)
    rcases Nat.lt_or_gt_of_ne hne with h | h
    · exact absurd he (hp x y hx hy h)
    · exact absurd he.symm (hp y x hy hx h)
section
variable {S : Res} {v : Value} {l : Sys}
set_option maxHeartbeats 1000000 in
set_option maxRecDepth 100000 in
theorem heirMeets_ct (hv : sysR S v l) {i j k : Nat} (hi : i ≤ 255) (hj : j ≤ 255) (hk : k ≤ 255) : Ct Try.prog 7 #[v, .int .u8 (i : Int), .int .u8 (j : Int), .int .u8 (k : Int)] [S] fun u h' => u = .bool true ∧ h' = [S] := by
  obtain ⟨la, cap, rfl, _⟩ := id hv
  refine ct_of (n := 108) Try.func7 rfl rfl (len rfl) fun hr w0 => ?_
  refine cd_seq (cd_region (st_v (v_assign rfl) (st_nil (nx_then (cd_seq (cd_seq (cd_region (st_v (v_move rfl) (st_clr rfl rfl en29 rfl (rightR hv) ?_)))))))))
  refine st_v (v_not rfl) (st_nil (nx_kp [0, 1, 2, 3, 8, 19] rfl (nx_then (cd_cond rfl (fun hrg => ?_) (fun hrg => ?_)))))
  · skip
    refine cd_seq (cd_region (st_clr rfl rfl en15 rfl (sanityR) ?_))
    refine st_v (v_assign rfl) (st_nil (nx_kp [8] rfl (nx_then (cd_ret (xt_ret_then (xt_law rfl ?_))))))
    refine Sub.sel (by repeat (first | exact Sel.here | apply Sel.there)) ?_
    repeat apply Sub.cons
    exact Sub.refl _
  · skip
    have hrg : rightB l = true := by simpa using hrg
    obtain ⟨hR, h0⟩ := rightB_iff.1 hrg
    have hFl := hR.len
    refine cd_skip (xt_then (cd_seq (cd_region (st_v (v_move rfl) (st_v (v_move rfl) (st_clr rfl rfl en30 rfl (name_ct hv h0 (by omega) hi) ?_))))))
    refine st_v (v_assign rfl) (st_nil (nx_kp [0, 2, 3, 8, 9] rfl (nx_then (cd_seq (cd_region (st_v (v_move rfl) (st_v (v_move rfl) (st_clr rfl rfl en30 rfl (name_ct hv h0 (by omega) hj) ?_))))))))
    refine st_v (v_assign rfl) (st_nil (nx_kp [0, 3, 8, 9, 10] rfl (nx_then (cd_seq (cd_region (st_v (v_move rfl) (st_v (v_move rfl) (st_clr rfl rfl en30 rfl (name_ct hv h0 (by omega) hk) ?_))))))))
    refine st_v (v_assign rfl) (st_nil (nx_kp [0, 8, 9, 10, 11] rfl (nx_then (cd_seq (cd_region (st_v (v_move rfl) (st_v (v_move rfl) (st_v (v_move rfl) ?_))))))))
    have ha := nmAt_isC h0 i
    have hb := nmAt_isC h0 j
    have hc := nmAt_isC h0 k
    generalize nmAt l i = a at *
    generalize nmAt l j = b at *
    generalize nmAt l k = c at *
    have hml : (least l a b).length ≤ 24 := by
      have h1 := length_le_of_nodup (a := least l a b) (b := nms l) (srt_spec _).1.nodup fun x hx => isC_iff.1 (has_isC ha ((least_iff hR.acyc).1 hx).1.1)
      simp only [nms, List.length_map] at h1
      omega
    have hmC : ∀ x ∈ least l a b, isC l x = true := fun x hx => has_isC ha ((least_iff hR.acyc).1 hx).1.1
    have hap := fun x y => @least_apart l hR a b x y
    have hof := fun h => @least_of l hR.acyc a b h
    have hany := least_any hR (a := a) (b := b) (c := c)
    refine st_cl rfl rfl en20 rfl (Least_ct hv a b) ?_
    rintro u h' ⟨T, rfl, w, rfl, hw, rfl⟩
    rw [right2 hR ha hb, okL_eq rfl]
    simp only [List.cons_append, List.nil_append]
    generalize least l a b = m at *
    refine st_ok (r := NR w m) (by repeat (first | exact Sel.here | apply Sel.there)) fun hok => ?_
    have hno := nms_own hok
    obtain ⟨wa, wcp, rfl, _⟩ := id hno
    refine st_v (v_move rfl) (st_v (v_extract rfl rfl) (st_v (v_extract rfl rfl) (st_v (v_assign rfl) (st_v (v_assign rfl) (st_nil (nx_kp [0, 8, 9, 10, 11, 12, 13] rfl (nx_then (cd_seq (cd_seq (cd_region (st_v (v_move rfl) (st_v (v_neq rfl rfl) (st_nil (nx_kp [0, 8, 9, 10, 11, 12, 38] rfl (nx_then (cd_false rfl ?_))))))))))))))))
    refine cd_skip (xt_then (cd_seq (cd_region (st_v (v_assign rfl) (st_nil (nx_kp [0, 8, 9, 10, 11, 12, 14] rfl (nx_then (cd_seq (cd_seq (cd_region (st_v (v_assign rfl) (st_nil (nx_then (cd_block (cd_lq (σ := Nat) (fun x => [(0, .slice la l.length cap), (9, sv a), (10, sv b), (11, sv c), (12, .slice wa m.length wcp), (14, .bool ((m.take x).any fun d => has l d c)), (15, .int .i64 (x : Nat))]) (fun _ => NR (.slice wa m.length wcp) m :: S :: hr) (fun x => x ≤ m.length) (fun x => m.length - x) 0 (Nat.zero_le _) ?_)))))))))))))))
    rintro x hx
    refine cd_seq (cd_seq (cd_region (st_v (v_move rfl) (st_v (v_move rfl) (st_v (v_len rfl Try.underlying25) (st_v (v_lss rfl rfl) (st_nil (nx_kp [0, 9, 10, 11, 12, 14, 15, 42] rfl (nx_then (cd_cond rfl (fun hd => ?_) (fun hd => ?_)))))))))))
    · skip
      have hxl : x < m.length := by simpa using hd
      obtain ⟨tb, to, tcap, htv, htrd⟩ := nms_at hno (List.getElem?_eq_getElem hxl)
      have hxC := hmC _ (List.getElem_mem hxl)
      have hsome : (m.take (x + 1)).any (fun d => has l d c) = ((m.take x).any (fun d => has l d c) || has l m[x] c) := by
        rw [List.take_succ_eq_append_getElem hxl, List.any_append]; simp
      refine cd_skip (xt_then (cd_seq (cd_block (cd_seq (cd_region (st_v (v_move rfl) (st_v (v_move rfl) (st_cut (k := 10) (d := 54) (v := .bool (((m.take x).any fun d => has l d c) || has l m[x] c)) (fun hcut => bool_want (b := ((m.take x).any fun d => has l d c)) false (fun hg => ?_) (fun hg => ?_)) ?_))))))))
      · refine st_sk rfl rfl hg ?_
        refine st_sk rfl rfl hg ?_
        refine st_sk rfl rfl hg ?_
        refine st_sk rfl rfl hg ?_
        refine st_sk rfl rfl hg ?_
        refine st_sk rfl rfl hg ?_
        refine st_sk rfl rfl hg ?_
        refine st_v (v_pick_true (bool_ev rfl hg) rfl) ?_
        exact hcut _ (ssub_head (by first | rfl | (rw [hg]; rfl) | simp_all) (ssub_skip rfl (ssub_skip rfl (ssub_skip rfl (ssub_skip rfl (ssub_skip rfl (ssub_skip rfl (ssub_skip rfl (ssub_refl)))))))))
      · skip
        refine st_vg rfl (bool_get rfl hg) (v_move rfl) (st_vg rfl (bool_get rfl hg) (v_move rfl) (st_vg rfl (bool_get rfl hg) (v_move rfl) (st_vg rfl (bool_get rfl hg) (v_indexAddr (k := x) (congrArg some htv) rfl sl25 rfl hxl rfl) (st_vg rfl (bool_get rfl hg) (v_ldy rfl ld9) ?_))))
        refine st_vg rfl (bool_get rfl hg) (v_move rfl) (st_clrg rfl (bool_get rfl hg) rfl rfl en32 rfl (is_ct hv hR hxC hc) ?_)
        refine st_v (v_pick_false (bool_ev rfl hg) rfl) ?_
        exact hcut _ (ssub_head (by first | rfl | (rw [hg]; rfl) | simp_all) (ssub_skip rfl (ssub_skip rfl (ssub_skip rfl (ssub_skip rfl (ssub_skip rfl (ssub_skip rfl (ssub_skip rfl (ssub_refl)))))))))
      rw [← hsome]
      refine st_v (v_assign rfl) (st_nil (nx_kp [0, 9, 10, 11, 12, 14, 15] rfl (nx_then (cd_seq (cd_region (st_v (v_assign rfl) (st_nil (nx_then (cd_block (cd_lq (σ := Nat) (fun y => [(0, .slice la l.length cap), (9, sv a), (10, sv b), (11, sv c), (12, .slice wa m.length wcp), (14, .bool ((m.take (x + 1)).any fun d => has l d c)), (15, .int .i64 (x : Nat)), (16, .int .i64 (y : Nat))]) (fun _ => NR (.slice wa m.length wcp) m :: S :: hr) (fun y => y ≤ m.length) (fun y => m.length - y) 0 (Nat.zero_le _) ?_))))))))))
      rintro y hy
      refine cd_seq (cd_seq (cd_region (st_v (v_move rfl) (st_v (v_move rfl) (st_v (v_len rfl Try.underlying25) (st_v (v_lss rfl rfl) (st_nil (nx_kp [0, 9, 10, 11, 12, 14, 15, 16, 58] rfl (nx_then (cd_cond rfl (fun hd2 => ?_) (fun hd2 => ?_)))))))))))
      · skip
        have hyl : y < m.length := by simpa using hd2
        obtain ⟨ub, uo, ucap, huv, hurd⟩ := nms_at hno (List.getElem?_eq_getElem hyl)
        have hyC := hmC _ (List.getElem_mem hyl)
        have hno2 : (((x : Int) != (y : Int)) && has l m[x] m[y]) = false := by
          by_cases he : x = y
          · rw [show ((x : Int) != (y : Int)) = false by rw [bne_eq_false_iff_eq]; omega]; rfl
          · rw [hap x y hxl hyl he]; simp
        refine cd_skip (xt_then (cd_seq (cd_block (cd_seq (cd_drawh (ork [(0, 2), (1, 2), (2, 2), (3, 2), (4, 2), (5, 2), (6, 2), (7, 2), (8, 1), (9, 2), (10, 2), (11, 2), (12, 1), (13, 1), (14, 2)] .nil) (fun _ => true) mixed (by kernel_rfl) ?_)))))
        refine dp_v rfl (v_move rfl) (dp_v rfl (v_move rfl) (dp_v rfl (v_neq rfl rfl) (dp_v rfl (v_move rfl) (dr_cut (k := 11) (d := 75) (v := .bool (((x : Int) != (y : Int)) && has l m[x] m[y])) (fun hcut => bool_want (b := ((x : Int) != (y : Int))) true (fun hg => ?_) (fun hg => ?_)) ?_))))
        · refine dp_sk rfl rfl rfl hg ?_
          refine dp_sk rfl rfl rfl hg ?_
          refine dp_sk rfl rfl rfl hg ?_
          refine dp_sk rfl rfl rfl hg ?_
          refine dr_sk rfl rfl rfl hg ?_
          refine dp_sk rfl rfl rfl hg ?_
          refine dp_sk rfl rfl rfl hg ?_
          refine dp_sk rfl rfl rfl hg ?_
          refine dr_sk rfl rfl rfl hg ?_
          refine dr_sk rfl rfl rfl hg ?_
          refine dp_v rfl (v_pick_false (bool_ev rfl hg) rfl) ?_
          exact hcut _ (ssub_head (by first | rfl | (rw [hg]; rfl) | simp_all) (ssub_skip rfl (ssub_skip rfl (ssub_skip rfl (ssub_skip rfl (ssub_skip rfl (ssub_skip rfl (ssub_skip rfl (ssub_skip rfl (ssub_skip rfl (ssub_skip rfl (ssub_refl))))))))))))
        · skip
          refine dp_vg rfl rfl (bool_get rfl hg) (v_move rfl) (dp_vg rfl rfl (bool_get rfl hg) (v_move rfl) (dp_vg rfl rfl (bool_get rfl hg) (v_move rfl) (dp_vg rfl rfl (bool_get rfl hg) (v_indexAddr (k := x) (congrArg some htv) rfl sl25 rfl hxl rfl) (dr_vg rfl rfl (bool_get rfl hg) (v_ldy rfl ld9) ?_))))
          refine dp_vg rfl rfl (bool_get rfl hg) (v_move rfl) (dp_vg rfl rfl (bool_get rfl hg) (v_move rfl) (dp_vg rfl rfl (bool_get rfl hg) (v_indexAddr (k := y) (congrArg some huv) rfl sl25 rfl hyl rfl) (dr_vg rfl rfl (bool_get rfl hg) (v_ldy rfl ld9) ?_)))
          refine dr_clrg rfl rfl (bool_get rfl hg) rfl rfl en32 rfl (is_ct hv hR hxC hyC) ?_
          refine dp_v rfl (v_pick_true (bool_ev rfl hg) rfl) ?_
          exact hcut _ (ssub_head (by first | rfl | (rw [hg]; rfl) | simp_all) (ssub_skip rfl (ssub_skip rfl (ssub_skip rfl (ssub_skip rfl (ssub_skip rfl (ssub_skip rfl (ssub_skip rfl (ssub_skip rfl (ssub_skip rfl (ssub_skip rfl (ssub_refl))))))))))))
        rw [hno2]
        refine dr_nil (nx_kp [0, 9, 10, 11, 12, 14, 15, 16, 75] rfl (nx_then (cd_false rfl ?_)))
        refine cd_skip (xt_normal_block (xt_then (cd_region (st_v (v_move rfl) (st_v (v_add rfl rfl (by unfold I64 at *; omega)) (st_v (v_assign rfl) (st_nil (nx_kp [0, 9, 10, 11, 12, 14, 15, 16] rfl (nx_xt ?_)))))))))
        refine xt_aq (y + 1) hyl (by show _ - _ < _ - _; omega)
      · skip
        refine cd_exit (xt_exit_then (xt_exit_then (xt_exit_block (xt_normal_block (xt_then (cd_region (st_v (v_move rfl) (st_v (v_add rfl rfl (by unfold I64 at *; omega)) (st_v (v_assign rfl) (st_nil (nx_kp [0, 9, 10, 11, 12, 14, 15] rfl (nx_xt ?_))))))))))))
        refine xt_aq (x + 1) hxl (by show _ - _ < _ - _; omega)
    · skip
      have hxe : x = m.length := by have : ¬ x < m.length := by simpa using hd
                                    omega
      subst hxe
      rw [List.take_length, hany]
      refine cd_exit (xt_exit_then (xt_exit_then (xt_exit_block (xt_then (cd_seq (cd_seq (cd_region (st_v (v_move rfl) (st_v (v_move rfl) (st_v (v_move rfl) (st_v (v_move rfl) (st_clr rfl rfl en32 rfl (is_ct hv hR ha hc) ?_))))))))))))
      refine st_v (v_move rfl) (st_cut (k := 11) (d := 86) (v := .bool (has l a c && has l b c)) (fun hcut => bool_want (b := has l a c) true (fun hg => ?_) (fun hg => ?_)) ?_)
      · refine st_sk rfl rfl hg ?_
        refine st_sk rfl rfl hg ?_
        refine st_sk rfl rfl hg ?_
        refine st_sk rfl rfl hg ?_
        refine st_v (v_pick_false (bool_ev rfl hg) rfl) ?_
        exact hcut _ (ssub_head (by first | rfl | (rw [hg]; rfl) | simp_all) (ssub_skip rfl (ssub_skip rfl (ssub_skip rfl (ssub_skip rfl (ssub_refl))))))
      · skip
        refine st_vg rfl (bool_get rfl hg) (v_move rfl) (st_vg rfl (bool_get rfl hg) (v_move rfl) (st_vg rfl (bool_get rfl hg) (v_move rfl) (st_clrg rfl (bool_get rfl hg) rfl rfl en32 rfl (is_ct hv hR hb hc) ?_)))
        refine st_v (v_pick_true (bool_ev rfl hg) rfl) ?_
        exact hcut _ (ssub_head (by first | rfl | (rw [hg]; rfl) | simp_all) (ssub_skip rfl (ssub_skip rfl (ssub_skip rfl (ssub_skip rfl (ssub_refl))))))
      refine st_v (v_neq_bool Try.underlying4 rfl rfl) (st_nil (nx_kp [0, 9, 10, 12, 87] rfl (nx_then ?_)))
      rw [beq_self_eq_true]
      refine cd_false rfl ?_
      refine cd_skip (xt_then (cd_seq (cd_region (st_clr rfl rfl en15 rfl (sanityR) ?_))))
      refine st_v (v_move rfl) (st_vg rfl rfl (v_move rfl) (st_vg rfl rfl (v_move rfl) (st_vg rfl rfl (v_move rfl) (st_clrg rfl rfl rfl rfl en32 rfl (is_ct hv hR ha hb) ?_))))
      refine st_vg rfl rfl (v_not rfl) (st_vg rfl rfl (v_move rfl) ?_)
      cases hab : has l a b
      · skip
        refine st_sk rfl rfl rfl ?_
        refine st_sk rfl rfl rfl ?_
        refine st_sk rfl rfl rfl ?_
        refine st_sk rfl rfl rfl ?_
        refine st_sku rfl rfl ?_
        refine st_sku rfl rfl ?_
        refine st_sku rfl rfl ?_
        refine st_sku rfl rfl ?_
        refine st_sku rfl rfl ?_
        refine st_sk rfl rfl rfl ?_
        refine st_vg rfl rfl (v_pick_true rfl rfl) (st_v (v_pick_true rfl rfl) (st_v (v_assign rfl) (st_nil (nx_kp [8] rfl (nx_then (cd_ret (xt_law rfl ?_)))))))
        refine Sub.sel (by repeat (first | exact Sel.here | apply Sel.there)) ?_
        repeat apply Sub.cons
        exact Sub.refl _
      · skip
        have hm1 := hof hab
        subst hm1
        obtain ⟨tb, to, tcap, htv, htrd⟩ := nms_at hno (show [b][0]? = some b from rfl)
        refine st_vg rfl rfl (v_move rfl) (st_vg rfl rfl (v_len rfl Try.underlying25) (st_vg rfl rfl (v_eql rfl rfl) (st_vg rfl rfl (v_move rfl) (st_vg rfl rfl (v_move rfl) (st_vg rfl rfl (v_indexAddr (k := 0) (congrArg some htv) rfl sl25 rfl (by simp) rfl) ?_)))))
        refine st_vg rfl rfl (v_ldy rfl ld9) ?_
        refine st_vg rfl rfl (v_move rfl) (st_vg rfl rfl (v_seql rfl rfl) (st_vg rfl rfl (v_pick_true rfl rfl) (st_vg rfl rfl (v_pick_false rfl rfl) (st_v (v_pick_true rfl rfl) (st_v (v_assign rfl) (st_nil (nx_kp [8] rfl (nx_then (cd_ret ?_)))))))))
        rw [beq_self_eq_true]
        refine xt_law rfl ?_
        refine Sub.sel (by repeat (first | exact Sel.here | apply Sel.there)) ?_
        repeat apply Sub.cons
        exact Sub.refl _
end
end Go.Hr
