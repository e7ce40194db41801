/-
  The specification: Levels. Conditions: what is read.
  HeirOrders. Conditions: what is read.
  What the arguments of the laws read as: systems of classes, names. No condition.
  HeirOrders: for every input the law answers true, and the input reads as it did. No condition.
-/
import Derived.Test.YtjgiaohieadeiaaM12
import Derived.Test.YtjgiaohieadeiaaM10
import Derived.Test.YtjgiaohieadeiaaM11
import Derived.Test.YtjgiaohieadeiaaM5
import Derived.Test.YtjgiaohieadeiaaM4
import Derived.JoinedCond
import Derived.Test.YtjgiaohieadeiaaRows
set_option linter.unusedVariables false
set_option linter.unusedSimpArgs false
namespace Go.Hr
open Go Go.RowKit Go.Ck Go.Proofs Go.Proofs.Ytjgiaohieadeiaa Fx
attribute [local irreducible] Go.Ck.Sub St Cd Xt Nx DrL LsW
def rowT (l : Sys) (n i : Nat) : List Nm := srt (((nms l).take i).filter fun c => lv l c == n)
theorem rowT_all (l : Sys) (n : Nat) : rowT l n l.length = srt (row l (nms l) n) := by
  unfold rowT row
  rw [List.take_of_length_le (by simp [nms])]
theorem rowT_yes {l : Sys} {n i : Nat} (hi : i < l.length) (h : lv l (l[i]).name = n) : rowT l n (i + 1) = put (rowT l n i) (l[i]).name := by
  unfold rowT
  rw [nms_take hi, List.filter_append, List.filter_cons, if_pos (by simpa using h), ← srt_snoc]; rfl
theorem rowT_no {l : Sys} {n i : Nat} (hi : i < l.length) (h : lv l (l[i]).name ≠ n) : rowT l n (i + 1) = rowT l n i := by
  unfold rowT
  rw [nms_take hi, List.filter_append, List.filter_cons, if_neg (by simpa using h)]; simp
theorem rowT_len (l : Sys) (n i : Nat) : (rowT l n i).length ≤ l.length := by
  have h1 := srt_le (((nms l).take i).filter fun c => lv l c == n)
  have h2 := List.length_filter_le (fun c => lv l c == n) ((nms l).take i)
  have h3 : ((nms l).take i).length ≤ l.length := by rw [List.length_take]; simp [nms]; omega
  unfold rowT
  omega
def levT (l : Sys) (n : Nat) : List (List Nm) := ((List.range n).map fun n => srt (row l (nms l) n)).filter fun r => !r.isEmpty
theorem levT_succ (l : Sys) (n : Nat) : levT l (n + 1) = levT l n ++ (if (srt (row l (nms l) n)).length = 0 then [] else [srt (row l (nms l) n)]) := by
  unfold levT
  rw [List.range_succ, List.map_append, List.filter_append]
  congr 1
  rw [List.map_cons, List.map_nil, List.filter_cons]
  cases srt (row l (nms l) n) <;> simp
theorem levT_len (l : Sys) (n : Nat) : (levT l n).length ≤ n := by
  unfold levT
  exact Nat.le_trans (List.length_filter_le _ _) (by simp)
section
variable {S N : Res} {v nv : Value} {l : Sys} {ns : List Nm}
set_option maxHeartbeats 1000000 in
set_option maxRecDepth 100000 in
theorem LevelsS_ct (hv : sysR S v l) (hl : l.length ≤ 1000000) : CtN Try.prog 19 #[v] [S] fun u T => ∃ w, u = .agg #[w, .int .i64 (rightE l [])] ∧ w.oneCell' = true ∧ llR T w (okL (rightE l []) (levels l)) := by
  obtain ⟨a, cap, rfl, _⟩ := id hv
  rw [rightE_nil]
  refine ct_of (n := 53) Try.func19 rfl rfl (len rfl) fun hr w0 => ?_
  refine cd_seq (cd_region (st_alc al36 fun b2 => ?_))
  refine st_nil (nx_then (cd_seq (cd_region (st_v (v_move rfl) (st_cl rfl rfl en56 rfl (CheckS_ct hv hl) ?_)))))
  rintro u h' ⟨n, rfl, rfl⟩
  simp only [List.cons_append, List.nil_append]
  refine st_alc al106 fun b3 => ?_
  refine st_stoW rfl rfl sz106 rfl rfl ?_
  refine st_nil (nx_kp [0, 2, 3] rfl (nx_then (cd_seq (cd_seq (cd_region (st_v (v_fieldAddr rfl fa106_0 rfl) (st_v (v_ldy rfl ld26) ?_)))))))
  refine st_v (v_neq rfl rfl) (st_nil (nx_kp [0, 2, 3, 12] rfl (nx_then (cd_cond rfl (fun he => ?_) (fun he => ?_)))))
  · skip
    have he : ¬ (check l).1 = 0 := by simpa using he
    rw [okL_ne he]
    refine cd_seq (cd_region (st_v (v_fieldAddr rfl fa106_0 rfl) (st_v (v_ldy rfl ld26) ?_)))
    refine st_v (v_build (cells := [.slice none 0 0, .int .i64 (check l).1]) rfl (fun _ => by kernel_rfl)) ?_
    refine st_stoW rfl rfl sz36 rfl rfl ?_
    refine st_nil (nx_kp [2] rfl (nx_then (cd_ret (xt_ret_then (xt_vw (vw_unstar (L := [])) ?_)))))
    exact xt_retV (.cellN rfl ld36 rfl (by repeat (first | exact Sel.here | apply Sel.there)) .nil) ⟨Res.star [], rfl, _, rfl, rfl, Row.nil⟩ (by repeat (first | exact Sub.refl _ | exact Sub.nil _ | refine Sub.sel (by repeat (first | exact Sel.here | apply Sel.there)) ?_ | apply Sub.cons))
  · skip
    have he : (check l).1 = 0 := by simpa using he
    have hR := check_zero.1 he
    have hFl := hR.len
    rw [he, okL_eq rfl]
    refine cd_skip (xt_then (cd_seq (cd_region (st_v (v_assign rfl) (st_nil (nx_kp [0, 2, 4] rfl (nx_then (cd_seq (cd_seq (cd_region (st_v (v_assign rfl) (st_nil (nx_then (cd_block (cd_vw (vw_unstar (L := [])) (cd_vw (vw_nil 25 1) ?_))))))))))))))))
    refine cd_lq (σ := (Value × List (List Value)) × Res × Nat) (fun q => [(0, .slice a l.length cap), (2, .pointer (some ⟨b2, 0, none⟩)), (4, q.1.1), (5, .int .i64 (q.2.2 : Nat))]) (fun q => VR q.1.1 25 1 q.1.2 :: q.2.1 :: pt b2 (cl [.slice none 0 0, .int .i64 0] 36) :: S :: hr) (fun q => q.1.1.oneCell' = true ∧ q.2.2 ≤ l.length ∧ Cor (llC q.2.1) q.1.2 (levT l q.2.2)) (fun q => l.length - q.2.2) ((.slice none 0 0, []), Res.star [], 0) ⟨rfl, Nat.zero_le _, Cor.nil⟩ ?_
    rintro ⟨⟨w, rows⟩, T, n⟩ ⟨hw, hn, hcor⟩
    simp only at hw hn hcor
    dsimp only
    have hll := levT_len l n
    have hrl := hcor.1
    refine cd_seq (cd_seq (cd_region (st_v (v_move rfl) (st_v (v_move rfl) (st_v (v_len rfl Try.underlying22) (st_v (v_lss rfl rfl) (st_nil (nx_kp [0, 2, 4, 5, 19] rfl (nx_then (cd_cond rfl (fun hd => ?_) (fun hd => ?_)))))))))))
    · skip
      have hlt : n < l.length := by simpa using hd
      have hsu := levT_succ l n
      refine cd_skip (xt_then (cd_seq (cd_block (cd_seq (cd_region (st_v (v_assign rfl) (st_nil (nx_kp [0, 2, 4, 5, 6] rfl (nx_then (cd_seq (cd_seq (cd_region (st_v (v_assign rfl) (st_nil (nx_then (cd_block ?_))))))))))))))))
      refine cd_vw (vw_unstar (L := [])) (cd_lq (σ := Value × Res × Nat) (fun q => [(0, .slice a l.length cap), (2, .pointer (some ⟨b2, 0, none⟩)), (4, w), (5, .int .i64 (n : Nat)), (6, q.1), (7, .int .i64 (q.2.2 : Nat))]) (fun q => q.2.1 :: VR w 25 1 rows :: T :: pt b2 (cl [.slice none 0 0, .int .i64 0] 36) :: S :: hr) (fun q => q.2.2 ≤ l.length ∧ nmsR q.2.1 q.1 (rowT l n q.2.2)) (fun q => l.length - q.2.2) (.slice none 0 0, Res.star [], 0) ⟨Nat.zero_le _, by show nmsR (Res.star []) (.slice none 0 0) (rowT l n 0); rw [show rowT l n 0 = [] by simp [rowT, srt]]; exact Row.nil⟩ ?_)
      rintro ⟨rv, R, i⟩ ⟨hi, hrn⟩
      simp only at hi hrn
      dsimp only
      have hrtl := rowT_len l n i
      refine cd_seq (cd_seq (cd_region (st_v (v_move rfl) (st_v (v_move rfl) (st_v (v_len rfl Try.underlying22) (st_v (v_lss rfl rfl) (st_nil (nx_kp [0, 2, 4, 5, 6, 7, 25] rfl (nx_then (cd_cond rfl (fun hd2 => ?_) (fun hd2 => ?_)))))))))))
      · skip
        have hilt : i < l.length := by simpa using hd2
        obtain ⟨b, o, cap2, d, f, pa, pc, c2, fa, fc, j2, hv2, hrd, hP, hone⟩ := sys_at hv (List.getElem?_eq_getElem hilt)
        have hyes := rowT_yes (n := n) hilt
        have hno := rowT_no (n := n) hilt
        generalize (l[i]).name = c at *
        refine cd_skip (xt_then (cd_seq (cd_block (cd_seq (cd_region (st_v (v_move rfl) (st_v (v_move rfl) (st_v (v_move rfl) (st_v (v_indexAddr (k := i) (congrArg some hv2) rfl sl22 rfl hilt rfl) (st_v (v_fieldAddr rfl fa61_0 rfl) (st_v (v_ldy rfl ld9) ?_)))))))))))
        refine st_clr rfl rfl en62 rfl (levelS_ct hv hR c) ?_
        refine st_v (v_move rfl) (st_v (v_eql rfl rfl) (st_nil (nx_kp [0, 2, 4, 5, 6, 7, 36] rfl (nx_then (cd_cond rfl (fun he2 => ?_) (fun he2 => ?_))))))
        · skip
          have he2 : lv l c = n := by have : (lv l c : Int) = n := by simpa using he2
                                      omega
          have hyes := hyes he2
          refine cd_region (st_v (v_move rfl) (st_v (v_move rfl) (st_v (v_move rfl) (st_v (v_indexAddr (k := i) (congrArg some hv2) rfl sl22 rfl hilt rfl) (st_v (v_fieldAddr rfl fa61_0 rfl) (st_v (v_ldy rfl ld9) ?_))))))
          refine st_cl rfl rfl en63 rfl (put_ct hrn (by omega) c) ?_
          rintro u2 h' ⟨T2, rfl, hu2, hT2⟩
          simp only [List.cons_append, List.nil_append]
          rw [← hyes] at hT2
          refine st_v (v_assign rfl) (st_nil (nx_kp [0, 2, 4, 5, 6, 7] rfl (nx_xt (xt_normal_block (xt_then (cd_region (st_v (v_move rfl) (st_v (v_add rfl rfl (by unfold I64 at *; omega)) (st_v (v_assign rfl) (st_nil (nx_kp [0, 2, 4, 5, 6, 7] rfl (nx_xt ?_))))))))))))
          refine xt_aq (u2, T2, i + 1) ⟨hilt, hT2⟩ (Nat.sub_lt_sub_left hilt (Nat.lt_succ_self i))
        · skip
          have he2 : lv l c ≠ n := by
            intro e
            rw [e] at he2; simp at he2
          have hno := hno he2
          refine cd_skip (xt_normal_block (xt_then (cd_region (st_v (v_move rfl) (st_v (v_add rfl rfl (by unfold I64 at *; omega)) (st_v (v_assign rfl) (st_nil (nx_kp [0, 2, 4, 5, 6, 7] rfl (nx_xt ?_)))))))))
          refine xt_aq (rv, R, i + 1) ⟨hilt, by rw [hno]; exact hrn⟩ (Nat.sub_lt_sub_left hilt (Nat.lt_succ_self i))
      · skip
        have hie : i = l.length := by have : ¬ i < l.length := by simpa using hd2
                                      omega
        subst hie
        rw [rowT_all] at hrn
        obtain ⟨ra, rcap, rfl, _⟩ := id hrn
        generalize srt (row l (nms l) n) = r at *
        refine cd_exit (xt_exit_then (xt_exit_then (xt_exit_block (xt_then (cd_seq (cd_region (st_v (v_move rfl) (st_v (v_len rfl Try.underlying25) (st_v (v_gtr rfl rfl) (st_nil (nx_kp [0, 2, 4, 5, 6, 46] rfl (nx_then (cd_cond rfl (fun hr0 => ?_) (fun hr0 => ?_))))))))))))))
        · skip
          have hr0 : ¬ r.length = 0 := by have : (0 : Int) < r.length := by simpa using hr0
                                          omega
          rw [if_neg hr0] at hsu
          refine cd_region (st_v (v_move rfl) (st_v (v_move rfl) (st_buildSlice (cells := [.slice ra r.length rcap]) rfl Try.underlying32 inf25 rfl rfl (by kernel_rfl) (ltn rfl) fun b49 => ?_)))
          refine st_ok (r := VR w 25 1 rows) (by repeat (first | exact Sel.here | apply Sel.there)) fun hokw => ?_
          refine st_app [[.slice ra r.length rcap]] rfl rfl Try.underlying32 inf25 rfl (by decide) (show Sel _ (VR w 25 1 rows) _ from (by repeat (first | exact Sel.here | apply Sel.there))) (by simp) rfl (fun j u2 hu2 => at_here (rd_cl (by simpa using hu2))) (by simp [Value.oneCell']) (by omega) (by omega) (ltn rfl) fun w3 hw3 _ => ?_
          refine st_v (v_assign rfl) (st_nil (nx_kp [0, 2, 4, 5] rfl (nx_xt (xt_normal_block (xt_then (cd_region (st_v (v_move rfl) (st_v (v_add rfl rfl (by unfold I64 at *; omega)) (st_v (v_assign rfl) (st_nil (nx_kp [0, 2, 4, 5] rfl (nx_xt (xt_pv (pv_pack (L := [R, T])) ?_)))))))))))))
          simp only [List.cons_append, List.nil_append]
          refine xt_aq ((w3, rows ++ [[.slice ra r.length rcap]]), Res.star [R, T], n + 1) ⟨hw3, hlt, by show Cor _ _ (levT l (n + 1)); rw [hsu]; exact (hcor.mono fun us x h => h.mono (rd_in (by repeat (first | exact Sel.here | apply Sel.there)))).app (Cor.one ⟨_, rfl, hrn.mono (rd_in (by repeat (first | exact Sel.here | apply Sel.there)))⟩)⟩ (Nat.sub_lt_sub_left hlt (Nat.lt_succ_self n))
        · skip
          have hr0 : r.length = 0 := by have : ¬ (0 : Int) < r.length := by simpa using hr0
                                        omega
          rw [if_pos hr0, List.append_nil] at hsu
          refine cd_skip (xt_normal_block (xt_then (cd_region (st_v (v_move rfl) (st_v (v_add rfl rfl (by unfold I64 at *; omega)) (st_v (v_assign rfl) (st_nil (nx_kp [0, 2, 4, 5] rfl (nx_xt ?_)))))))))
          refine xt_aq ((w, rows), T, n + 1) ⟨hw, hlt, by show Cor _ _ (levT l (n + 1)); rw [hsu]; exact hcor⟩ (Nat.sub_lt_sub_left hlt (Nat.lt_succ_self n))
    · skip
      have hie : n = l.length := by have : ¬ n < l.length := by simpa using hd
                                    omega
      subst hie
      rw [show levT l l.length = levels l from (levels_eq hR.acyc).symm] at hcor
      refine cd_ok (r := VR w 25 1 rows) (by repeat (first | exact Sel.here | apply Sel.there)) fun hok => ?_
      refine cd_pv (pv_pack (L := [VR w 25 1 rows, T])) ?_
      simp only [List.cons_append, List.nil_append]
      have hkl : llR (Res.star [VR w 25 1 rows, T]) w (levels l) := row_vr hok hcor.1 (rd_in (by repeat (first | exact Sel.here | apply Sel.there))) (hcor.mono fun us x h => h.mono (rd_in (by repeat (first | exact Sel.here | apply Sel.there)))).2
      obtain ⟨wa, wcap, rfl, _⟩ := id hkl
      refine cd_exit (xt_exit_then (xt_exit_then (xt_exit_block (xt_then (cd_seq (cd_region (st_v (v_move rfl) (st_v (v_build (cells := [.slice wa (levels l).length wcap, .int .i64 0]) rfl (fun _ => by kernel_rfl)) ?_))))))))
      refine st_stoW rfl rfl sz36 rfl rfl ?_
      refine st_nil (nx_kp [2] rfl (nx_then (cd_ret ?_)))
      exact xt_retV (.cellN rfl ld36 rfl (by repeat (first | exact Sel.here | apply Sel.there)) .nil) ⟨_, rfl, _, rfl, rfl, hkl⟩ (by repeat (first | exact Sub.refl _ | exact Sub.nil _ | refine Sub.sel (by repeat (first | exact Sel.here | apply Sel.there)) ?_ | apply Sub.cons))
end
end Go.Hr
namespace Go.Hr
open Go Go.RowKit Go.Ck Go.Proofs Go.Proofs.Ytjgiaohieadeiaa Fx
attribute [local irreducible] Go.Ck.Sub St Cd Xt Nx DrL LsW
theorem okO_len {l : Sys} (hl : l.length ≤ 40) : (okL (rightE l []) (order l)).length ≤ 1099511627776 :=
  okL_len (by show (ordN l l.length).length ≤ _; rw [ordN_len]; omega)
theorem okV_len {l : Sys} (hl : l.length ≤ 40) : (okL (rightE l []) (levels l)).length ≤ 1099511627776 ∧ ∀ x ∈ okL (rightE l []) (levels l), x.length ≤ 1099511627776 := by
  unfold okL
  split
  · rename_i h
    have hR := (rightE_zero.1 h).1
    rw [levels_eq hR.acyc]
    constructor
    · exact Nat.le_trans (levT_len l l.length) (by omega)
    · intro x hx
      obtain ⟨n, _, rfl⟩ := List.mem_map.1 (List.mem_filter.1 hx).1
      have := rowT_len l n l.length
      rw [rowT_all] at this
      omega
  · simp
theorem okE_len {l : Sys} {x y : Nm} : (okL (rightE l [x, y]) (least l x y)).length ≤ 1099511627776 := by
  unfold okL
  split
  · rename_i h
    have hR := (rightE_zero.1 h).1
    rw [← least_srt]
    have h1 := comT_len hR x y (above l x).length
    rw [comT_all] at h1
    have h2 := List.length_filter_le (lowest l (common l x y)) (srt (common l x y))
    omega
  · simp
section
variable {S N : Res} {v nv : Value} {l : Sys} {ns : List Nm}
set_option maxHeartbeats 1000000 in
set_option maxRecDepth 100000 in
theorem heirOrders_ct (hv : sysR S v l) (x y : Nm) : Ct Try.prog 3 #[v, sv x, sv y] [S] fun u h' => u = .bool true ∧ h' = [S] := by
  obtain ⟨la, cap, rfl, _⟩ := id hv
  refine ct_of (n := 82) Try.func3 rfl rfl (len rfl) fun hr w0 => ?_
  refine cd_seq (cd_region (st_v (v_assign rfl) (st_nil (nx_then (cd_seq (cd_seq (cd_region (st_v (v_move rfl) (st_clr rfl rfl en14 rfl (fewS_ct hv) ?_)))))))))
  refine st_v (v_not rfl) (st_nil (nx_kp [0, 1, 2, 6, 18] rfl (nx_then (cd_cond rfl (fun hrg => ?_) (fun hrg => ?_)))))
  · skip
    refine cd_seq (cd_region (st_clr rfl rfl en15 rfl (sanityR) ?_))
    refine st_v (v_assign rfl) (st_nil (nx_kp [6] rfl (nx_then (cd_ret (xt_ret_then (xt_law rfl ?_))))))
    refine Sub.sel (by repeat (first | exact Sel.here | apply Sel.there)) ?_
    repeat apply Sub.cons
    exact Sub.refl _
  · skip
    obtain ⟨h40, hp8⟩ := few_40 (show fewL l = true by simpa using hrg)
    refine cd_skip (xt_then (cd_seq (cd_region (st_v (v_move rfl) (st_cl rfl rfl en16 rfl (Order_ct hv) ?_)))))
    rintro u h' ⟨T, rfl, w, rfl, hw, rfl⟩
    simp only [List.cons_append, List.nil_append]
    refine st_ok (r := NR w (okL (rightE l []) (order l))) (by repeat (first | exact Sel.here | apply Sel.there)) fun hok => ?_
    have hxl := okO_len h40
    have hno := nms_own hok
    generalize NR w (okL (rightE l []) (order l)) = T1 at *
    refine st_v (v_move rfl) (st_v (v_extract rfl rfl) (st_v (v_extract rfl rfl) (st_v (v_assign rfl) (st_v (v_assign rfl) (st_nil (nx_kp [0, 1, 2, 6, 7, 8] rfl (nx_then (cd_seq (cd_region (st_v (v_move rfl) (st_cl rfl rfl en17 rfl (OrderS_ct hv (by omega)) ?_)))))))))))
    rintro u h' ⟨T2, rfl, w2, rfl, hw2, hno2⟩
    simp only [List.cons_append, List.nil_append]
    generalize okL (rightE l []) (order l) = xs at *
    obtain ⟨wa2, wcap2, rfl, _⟩ := id hno2
    refine st_alc al30 fun b9 => ?_
    refine st_stoW rfl rfl sz30 rfl rfl ?_
    refine st_nil (nx_kp [0, 1, 2, 6, 7, 8, 9] rfl (nx_then (cd_seq (cd_region (st_v (v_move rfl) (st_cl rfl rfl en18 rfl (Levels_ct hv) ?_))))))
    rintro u h' ⟨w, vals, rfl, hw, hvl, rfl⟩
    simp only [List.cons_append, List.nil_append]
    refine st_ok (r := LR w vals (okL (rightE l []) (levels l))) (by repeat (first | exact Sel.here | apply Sel.there)) fun hok3 => ?_
    obtain ⟨hyl, hyl2⟩ := okV_len h40
    have hno3 := ll_own hok3 hvl
    generalize LR w vals (okL (rightE l []) (levels l)) = T3 at *
    refine st_v (v_move rfl) (st_v (v_extract rfl rfl) (st_v (v_extract rfl rfl) (st_v (v_assign rfl) (st_v (v_assign rfl) (st_nil (nx_kp [0, 1, 2, 6, 7, 8, 9, 10, 11] rfl (nx_then (cd_seq (cd_region (st_v (v_move rfl) (st_cl rfl rfl en19 rfl (LevelsS_ct hv (by omega)) ?_)))))))))))
    rintro u h' ⟨T4, rfl, w4, rfl, hw4, hno4⟩
    simp only [List.cons_append, List.nil_append]
    generalize okL (rightE l []) (levels l) = ys at *
    obtain ⟨wa4, wcap4, rfl, _⟩ := id hno4
    refine st_alc al36 fun b12 => ?_
    refine st_stoW rfl rfl sz36 rfl rfl ?_
    refine st_nil (nx_kp [0, 1, 2, 6, 7, 8, 9, 10, 11, 12] rfl (nx_then (cd_seq (cd_region (st_v (v_move rfl) (st_v (v_move rfl) (st_v (v_move rfl) (st_cl rfl rfl en20 rfl (Least_ct hv x y) ?_))))))))
    rintro u h' ⟨T, rfl, w, rfl, hw, rfl⟩
    simp only [List.cons_append, List.nil_append]
    refine st_ok (r := NR w (okL (rightE l [x, y]) (least l x y))) (by repeat (first | exact Sel.here | apply Sel.there)) fun hok5 => ?_
    have hzl := okE_len (l := l) (x := x) (y := y)
    have hno5 := nms_own hok5
    generalize NR w (okL (rightE l [x, y]) (least l x y)) = T5 at *
    refine st_v (v_move rfl) (st_v (v_extract rfl rfl) (st_v (v_extract rfl rfl) (st_v (v_assign rfl) (st_v (v_assign rfl) (st_nil (nx_kp [0, 1, 2, 6, 7, 8, 9, 10, 11, 12, 13, 14] rfl (nx_then (cd_seq (cd_region (st_v (v_move rfl) (st_v (v_move rfl) (st_v (v_move rfl) (st_cl rfl rfl en21 rfl (LeastS_ct hv (by omega) x y) ?_)))))))))))))
    rintro u h' ⟨T6, rfl, w6, rfl, hw6, hno6⟩
    simp only [List.cons_append, List.nil_append]
    generalize okL (rightE l [x, y]) (least l x y) = zs at *
    obtain ⟨wa6, wcap6, rfl, _⟩ := id hno6
    refine st_alc al30 fun b15 => ?_
    refine st_stoW rfl rfl sz30 rfl rfl ?_
    refine st_nil (nx_kp [6, 7, 8, 9, 10, 11, 12, 13, 14, 15] rfl (nx_then (cd_seq (cd_region (st_clr rfl rfl en15 rfl (sanityR) ?_)))))
    refine st_v (v_move rfl) (st_vg rfl rfl (v_move rfl) (st_vg rfl rfl (v_fieldAddr rfl fa30_0 rfl) (st_vg rfl rfl (v_ldy rfl ld25) ?_)))
    refine st_clrg rfl rfl rfl rfl en22 rfl (SameNames_ct hno hno2 hxl) ?_
    rw [beq_self_eq_true]
    refine st_v (v_pick_true rfl rfl) (st_v (v_move rfl) (st_vg rfl rfl (v_move rfl) (st_vg rfl rfl (v_fieldAddr rfl fa30_1 rfl) (st_vg rfl rfl (v_ldy rfl ld26) ?_))))
    refine st_vg rfl rfl (v_eql rfl rfl) (st_v (v_pick_true rfl rfl) (st_v (v_move rfl) ?_))
    rw [beq_self_eq_true]
    refine st_vg rfl rfl (v_move rfl) (st_vg rfl rfl (v_fieldAddr rfl fa36_0 rfl) (st_vg rfl rfl (v_ldy rfl ld32) ?_))
    refine st_clrg rfl rfl rfl rfl en23 rfl (SameLists_ct hno3 hno4 hyl hyl2) ?_
    rw [beq_self_eq_true]
    refine st_v (v_pick_true rfl rfl) (st_v (v_move rfl) (st_vg rfl rfl (v_move rfl) (st_vg rfl rfl (v_fieldAddr rfl fa36_1 rfl) (st_vg rfl rfl (v_ldy rfl ld26) ?_))))
    refine st_vg rfl rfl (v_eql rfl rfl) (st_v (v_pick_true rfl rfl) (st_v (v_move rfl) ?_))
    rw [beq_self_eq_true]
    refine st_vg rfl rfl (v_move rfl) (st_vg rfl rfl (v_fieldAddr rfl fa30_0 rfl) (st_vg rfl rfl (v_ldy rfl ld25) ?_))
    refine st_clrg rfl rfl rfl rfl en22 rfl (SameNames_ct hno5 hno6 hzl) ?_
    rw [beq_self_eq_true]
    refine st_v (v_pick_true rfl rfl) (st_v (v_move rfl) (st_vg rfl rfl (v_move rfl) (st_vg rfl rfl (v_fieldAddr rfl fa30_1 rfl) (st_vg rfl rfl (v_ldy rfl ld26) ?_))))
    refine st_vg rfl rfl (v_eql rfl rfl) (st_v (v_pick_true rfl rfl) (st_v (v_assign rfl) (st_nil (nx_kp [6] rfl (nx_then (cd_ret ?_))))))
    rw [beq_self_eq_true]
    refine xt_law rfl ?_
    refine Sub.sel (by repeat (first | exact Sel.here | apply Sel.there)) ?_
    repeat apply Sub.cons
    exact Sub.refl _
end
end Go.Hr
namespace Go.Ck
open Go Go.RowKit Go.ChangeShapes Go.WideShapes
theorem cells_one {v : Value} (h : v.oneCell' = true) : v.cells.toList = [v] := by
  cases v <;> first | rfl | (simp [Value.oneCell'] at h)
/-- An argument of one cell. -/
theorem arg_one {H : Type} {enc : TypeId × Value → H} {P : Program} {W : World} {ty : Ty} {t : TypeId} {v : Value} {d : DataW H} {ps : List MemPlace} {b : Nat} (hf : fitB P ty t = true)
    (hs : (match P.underlying t with | some (.struct _) | some (.array _ _) => false | some _ => true | none => false) = true) (hv : Value.okWide P W .any b t v) (h : DataW.Trod enc P W 0 (fun _ => true) true t v d ps) : ∃ y, Rep (old W) ty [v] y := by
  have := arg_rep hf h
  rwa [cells_one (okWide_one hs hv)] at this
theorem rep_kind {k : IntKind} {r : Res} {v : Value} {n : Int} (h : Rep r (.int k) [v] n) : v = .int k n ∧ (Lit.int k n).wf = true := by
  simp only [Rep] at h
  exact ⟨by simpa using h.1, h.2⟩
theorem wf_I64 {n : Int} (h : (Lit.int .i64 n).wf = true) : I64 n := by
  unfold Lit.wf at h
  simp [IntKind.min, IntKind.max, IntKind.signed, IntKind.bits] at h
  unfold I64; omega
theorem wf_u8 {n : Int} (h : (Lit.int .u8 n).wf = true) : 0 ≤ n ∧ n < 256 := by
  unfold Lit.wf at h
  simp [IntKind.min, IntKind.max, IntKind.signed, IntKind.bits] at h
  omega
/-- A slice is a row. -/
theorem row_of {α : Type} {r : Res} {t : Ty} {v : Value} (f : t.D → α) (X : List Value → α → Prop) (hX : ∀ us x, Rep r t us x → X us (f x)) {y : (Ty.slice t).D} (h : Rep r (.slice t) [v] y) : Row r t.sz X v ((show List t.D from y).map f) := by
  unfold Rep at h
  obtain ⟨a, cap, h1, hl, hm, hn, h2⟩ := h
  refine ⟨a, cap, by rw [List.length_map]; exact (List.cons.inj h1).1, by rw [List.length_map]; exact hl, hm, hn, fun i x hi => ?_⟩
  rw [List.getElem?_map] at hi
  cases hy : (show List t.D from y)[i]? with
  | none => rw [hy] at hi; cases hi
  | some z =>
    rw [hy] at hi
    obtain rfl := Option.some.inj hi
    rcases h2 with h0 | ⟨b, o, h3, h4⟩
    · rw [show (show List t.D from y) = [] from h0] at hy; simp at hy
    · obtain ⟨us, h5, h6, h7⟩ := h4 i z hy
      exact ⟨b, o, us, h3, h5, h6, hX _ _ h7⟩
theorem row_all {r : Res} {t : Ty} {v : Value} {φ : t.D → Prop} (hX : ∀ us x, Rep r t us x → φ x) {y : (Ty.slice t).D} (h : Rep r (.slice t) [v] y) : ∀ x ∈ (show List t.D from y), φ x := fun x hx => by
  unfold Rep at h
  obtain ⟨a, cap, h1, hl, hm, hn, h2⟩ := h
  obtain ⟨i, hi⟩ := List.getElem?_of_mem hx
  rcases h2 with h0 | ⟨b, o, h3, h4⟩
  · rw [show (show List t.D from y) = [] from h0] at hi; simp at hi
  · obtain ⟨us, h5, h6, h7⟩ := h4 i x hi
    exact hX _ _ h7
theorem one_cell {us : List Value} (h : us.length = 1) : ∃ u, us = [u] := by
  match us, h with
  | [u], _ => exact ⟨u, rfl⟩
end Go.Ck
namespace Go.Hr
open Go Go.RowKit Go.ChangeShapes Go.WideShapes Go.Ck
/-- The types that the parts that nobody looks at are made of. -/
def partL : List TypeId := [3, 4, 9, 25, 59, 62, 185, 186, 188, 189, 191, 192, 194, 196, 198, 201, 203]
def parTy : Ty := .struct [.str, .slice (.any 5 partL), .slice (.any 2 partL), .slice .str, .slice .str, .slice .str]
def clsTy : Ty := .struct [.str, .bool, .slice (.any 2 partL), .slice parTy, .slice .str, .slice (.any 15 partL), .slice (.any 5 partL)]
def nmOf (s : ByteArray) : Nm := s.data.toList
def parOf (x : parTy.D) : Nm := nmOf (show ByteArray from x.1)
def clsOf (x : clsTy.D) : Cls := ⟨nmOf (show ByteArray from x.1), (show List parTy.D from x.2.2.2.1).map parOf, (show List Unit from x.2.2.2.2.2.1).length⟩
def sysOf (y : (Ty.slice clsTy).D) : Sys := (show List clsTy.D from y).map clsOf
theorem slice_val {r : Res} {t : Ty} {a : Value} {y : List t.D} (h : ∃ (ad : Option Addr) (cap : Nat), [a] = [Value.slice ad (List.length y) cap] ∧ List.length y ≤ cap ∧ cap ≤ maxLen ∧ (ad = none → cap = 0) ∧
      (y = ([] : List t.D) ∨ ∃ b o, ad = some ⟨b, o, none⟩ ∧ ∀ (i : Nat) (x : t.D), @getElem? (List t.D) Nat t.D _ _ y i = some x → ∃ us : List Value, us.length = t.sz ∧ Rds r b (o + i * t.sz) us ∧ Rep r t us x)) : ∃ (ad : Option Addr) (cap : Nat), a = Value.slice ad (List.length y) cap := by
  obtain ⟨ad, cap, h1, _⟩ := h
  exact ⟨ad, cap, (List.cons.inj h1).1⟩
theorem str_val {r : Res} {us : List Value} {x : ByteArray} (h : us = [Value.string x] ∧ x.size ≤ maxLen) : us = [sv (nmOf x)] := h.1
theorem parC_of {r : Res} {us : List Value} {x : parTy.D} (h : Rep r parTy us x) : parC us (parOf x) := by
  obtain ⟨x1, x2, x3, x4, x5, x6, x7⟩ := x
  simp only [parTy, Rep, Reps] at h
  obtain ⟨u1, us1, e1, l1, r1, h⟩ := h
  obtain ⟨u2, us2, e2, l2, r2, h⟩ := h
  obtain ⟨u3, us3, e3, l3, r3, h⟩ := h
  obtain ⟨u4, us4, e4, l4, r4, h⟩ := h
  obtain ⟨u5, us5, e5, l5, r5, h⟩ := h
  obtain ⟨u6, us6, e6, l6, r6, h⟩ := h
  have r1 := r1.1
  obtain ⟨a2, c2, g2, _⟩ := r2
  obtain ⟨a3, c3, g3, _⟩ := r3
  obtain ⟨a4, c4, g4, _⟩ := r4
  obtain ⟨a5, c5, g5, _⟩ := r5
  obtain ⟨a6, c6, g6, _⟩ := r6
  subst h r1 g2 g3 g4 g5 g6 e6 e5 e4 e3 e2
  exact ⟨_, _, _, _, _, e1, rfl⟩
theorem cls_of {r : Res} {us : List Value} {x : clsTy.D} (h : Rep r clsTy us x) : clsC r us (clsOf x) := by
  obtain ⟨x1, x2, x3, x4, x5, x6, x7, x8⟩ := x
  simp only [clsTy, Rep, Reps] at h
  obtain ⟨u1, us1, e1, l1, r1, h⟩ := h
  obtain ⟨u2, us2, e2, l2, r2, h⟩ := h
  obtain ⟨u3, us3, e3, l3, r3, h⟩ := h
  obtain ⟨u4, us4, e4, l4, r4, h⟩ := h
  obtain ⟨u5, us5, e5, l5, r5, h⟩ := h
  obtain ⟨u6, us6, e6, l6, r6, h⟩ := h
  obtain ⟨u7, us7, e7, l7, r7, h⟩ := h
  obtain ⟨p4, rfl⟩ := one_cell l4
  have s4 : Rep r (.slice parTy) [p4] x4 := by simp only [Rep]; exact r4
  have r1 := r1.1
  obtain ⟨a3, c3, g3, _⟩ := r3
  obtain ⟨a4, c4, g4, _⟩ := r4
  obtain ⟨a5, c5, g5, _⟩ := r5
  obtain ⟨a6, c6, g6, _⟩ := r6
  obtain ⟨a7, c7, g7, _⟩ := r7
  have g4 := (List.cons.inj g4).1
  subst h r1 r2 g3 g4 g5 g6 g7 e7 e6 e5 e4 e3 e2
  exact ⟨_, _, _, _, _, _, _, e1, rfl, row_of parOf parC (fun _ _ h => parC_of h) s4⟩
theorem sys_of {r : Res} {v : Value} {y : (Ty.slice clsTy).D} (h : Rep r (.slice clsTy) [v] y) : sysR r v (sysOf y) := row_of clsOf (clsC r) (fun _ _ h => cls_of h) h
def nmsOf (y : (Ty.slice .str).D) : List Nm := (show List ByteArray from y).map nmOf
theorem names_of {r : Res} {v : Value} {y : (Ty.slice .str).D} (h : Rep r (.slice .str) [v] y) : nmsR r v (nmsOf y) := row_of (t := .str) nmOf strC (fun us x h => by
  simp only [Rep] at h
  exact h.1) h
theorem str_of {r : Res} {v : Value} {y : Ty.str.D} (h : Rep r .str [v] y) : v = sv (nmOf y) := by
  simp only [Rep] at h
  exact (List.cons.inj h.1).1
end Go.Hr
namespace Go.Proofs.Ytjgiaohieadeiaa
open Go Go.RowKit Go.ChangeShapes Go.WideShapes Go.Ck Go.Hr
set_option maxRecDepth 100000 in
theorem heirOrders_lifted (os : Os) (started : os.Started) (H : Type) (enc : TypeId × Value → H) :
    ReturnsInHanded {} Try.checked os 3 .any (Rows.heirOrdersSpec.pre6 enc Try.prog Try.f3 Rows.heirOrdersRow.domain false) (Rows.heirOrdersSpec.post enc Try.prog Try.f3 false true false false) := by
  refine returnsInHanded_of_change (C := Try.checked) (show ownKnob Try.prog.godebug = none by kernel_rfl) started (by kernel_rfl) Try.func3
    (ChangeSpec.witness6 (enc := enc) (C := Try.checked) false ⟨#[], #[.slice none 0 0, .string ⟨#[]⟩, .string ⟨#[]⟩], []⟩ 8 (by kernel_rfl) (by kernel_rfl) (by kernel_rfl) (by kernel_rfl)) ?_
  intro W base args ds gs before hval0 hW hcnd _
  have hval : ∀ (j : Nat) t v, Try.f3.params[j]? = some t → args[j]? = some v → Value.okWide Try.prog W .any base t v := hval0
  have hW' := hW
  obtain ⟨p, q, hA0, hV, rfl, hfz, hnd⟩ := hW
  have hA : DataW.TrodAll enc Try.prog W 0 (fun _ => true) true Try.f3.params.toList args.toList ds p := hA0
  rw [Try.params3] at hA hval
  obtain ⟨v0, vs0, d0, ds0, p0, q0, hargs, rfl, rfl, h0, r0⟩ := trodAll_cons hA
  obtain ⟨v1, vs1, d1, ds1, p1, q1, rfl, rfl, rfl, h1, r1⟩ := trodAll_cons r0
  obtain ⟨v2, vs2, d2, ds2, p2, q2, rfl, rfl, rfl, h2, r2⟩ := trodAll_cons r1
  obtain ⟨rfl, rfl, rfl⟩ := trodAll_nil r2
  obtain rfl : args = #[v0, v1, v2] := by cases args; simp_all
  obtain ⟨rfl, rfl⟩ := trodVars_none hV
  obtain ⟨y0, e0⟩ := arg_one (ty := .slice clsTy) (by kernel_rfl) (by kernel_rfl) (hval 0 22 v0 rfl rfl) h0
  obtain ⟨y1, e1⟩ := arg_one (ty := .str) (by kernel_rfl) (by kernel_rfl) (hval 1 9 v1 rfl rfl) h1
  obtain ⟨y2, e2⟩ := arg_one (ty := .str) (by kernel_rfl) (by kernel_rfl) (hval 2 9 v2 rfl rfl) h2
  have s0 := sys_of e0
  obtain rfl := str_of e1
  obtain rfl := str_of e2
  refine (ct_calls (heirOrders_ct s0 (nmOf y1) (nmOf y2)) fun v h' h => ⟨h.1, by rw [h.2]; exact .refl _⟩).mono fun e W' ⟨he, hk⟩ => ⟨_, he, ?_⟩
  exact law_post (tys := [.slice clsTy, .str, .str]) hW' rfl (by kernel_rfl) Try.underlying4 (by rw [Try.params3]; kernel_rfl) rfl hk
theorem heirOrders_holds : Rows.HeirOrdersSaid :=
  OpenClaim.holds_of_wide 3 Try.f3 rfl rfl rfl rfl rfl rfl rfl ⟨rfl, rfl, rfl, rfl, rfl⟩ rfl rfl rfl rfl rfl (by kernel_rfl) Try.func3 (by kernel_rfl)
    (of_decide_eq_true (by kernel_rfl)) (by unfold Func.isWrapper; first | (rw [if_pos (by decide +kernel)]; kernel_rfl) | (rw [if_neg (by decide +kernel)]; exact ⟨rfl, rfl⟩))
    (fun os started H enc _ => heirOrders_lifted os started H enc)
end Go.Proofs.Ytjgiaohieadeiaa
