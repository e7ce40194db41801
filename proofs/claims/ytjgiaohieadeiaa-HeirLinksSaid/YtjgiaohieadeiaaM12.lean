/-
  The specification: under, Below, Touched. Conditions: what is read.
  The specification: Needless. Conditions: what is read.
  HeirLinks. Conditions: what is read.
  What the arguments of the laws read as: systems of classes, names. No condition.
  HeirLinks: for every input the law answers true, and the input reads as it did. No condition.
-/
import Derived.Test.YtjgiaohieadeiaaM11
import Derived.Test.YtjgiaohieadeiaaM8
import Derived.Test.YtjgiaohieadeiaaM5
import Derived.Test.YtjgiaohieadeiaaM4
import Derived.JoinedCond
import Derived.Test.YtjgiaohieadeiaaRows
set_option linter.unusedVariables false
set_option linter.unusedSimpArgs false
namespace Go.Hr
open Go Go.RowKit Go.Ck Go.Proofs Go.Proofs.Ytjgiaohieadeiaa Fx
attribute [local irreducible] Go.Ck.Sub St Cd Xt Nx DrL LsW
theorem anyA_above {l : Sys} (hR : Right l) (c : Nm) (ns : List Nm) : ((above l c).any fun x => ns.contains x) = ns.any fun a => has l c a := by
  rw [Bool.eq_iff_iff, List.any_eq_true, List.any_eq_true]
  constructor
  · rintro ⟨x, h1, h2⟩
    exact ⟨x, List.contains_iff_mem.1 h2, ((above_spec hR.acyc c).2 x).1 h1⟩
  · rintro ⟨x, h1, h2⟩
    exact ⟨x, ((above_spec hR.acyc c).2 x).2 h2, List.contains_iff_mem.2 h1⟩
theorem rightE_nil (l : Sys) : rightE l [] = (check l).1 := by
  unfold rightE
  split
  · rename_i h; rw [h]; rfl
  · rfl
def touF (l : Sys) (ns : List Nm) (i : Nat) : List Nm := ((nms l).take i).filter fun c => ns.any fun a => has l c a
theorem nms_take {l : Sys} {i : Nat} (h : i < l.length) : (nms l).take (i + 1) = (nms l).take i ++ [(l[i]).name] := by
  rw [List.take_succ_eq_append_getElem (by simpa [nms] using h)]
  simp [nms]
theorem touF_succ {l : Sys} {ns : List Nm} {i : Nat} (h : i < l.length) : touF l ns (i + 1) = touF l ns i ++ (if ns.any (fun a => has l (l[i]).name a) then [(l[i]).name] else []) := by
  unfold touF
  rw [nms_take h, List.filter_append, List.filter_cons]
  rfl
theorem touF_all (l : Sys) (ns : List Nm) : touF l ns l.length = touched l ns := by
  unfold touF touched
  rw [List.take_of_length_le (by simp [nms])]
theorem touF_len (l : Sys) (ns : List Nm) (i : Nat) : (touF l ns i).length ≤ l.length := by
  unfold touF
  have h1 := List.length_filter_le (fun c => ns.any fun a => has l c a) ((nms l).take i)
  have h2 : ((nms l).take i).length ≤ l.length := by rw [List.length_take]; simp [nms]; omega
  omega
section
variable {S N : Res} {v nv : Value} {l : Sys} {ns : List Nm}
set_option maxRecDepth 100000 in
theorem under_ct (hv : sysR S v l) (hR : Right l) (hn : nmsR S nv ns) (hnl : ns.length ≤ 1099511627776) : CtN Try.prog 77 #[v, nv] [S] fun u T => u.oneCell' = true ∧ T = NR u (touched l ns) ∧ nmsR T u (touched l ns) := by
  obtain ⟨a, cap, rfl, _⟩ := id hv
  have hFl := hR.len
  refine ct_of (n := 50) Try.func77 rfl rfl (len rfl) fun hr w0 => ?_
  refine cd_seq (cd_region (st_v (v_assign rfl) (st_nil (nx_then (cd_seq (cd_region (st_v (v_assign rfl) (st_nil (nx_then (cd_seq (cd_seq (cd_region (st_v (v_assign rfl) (st_nil (nx_then (cd_block ?_))))))))))))))))
  refine cd_vw (vw_nil 9 1) (cd_lq (σ := Value × Nat) (fun q => [(0, .slice a l.length cap), (1, nv), (5, q.1), (6, .int .i64 (q.2 : Nat))]) (fun q => VR q.1 9 1 ((touF l ns q.2).map nC) :: S :: hr) (fun q => q.1.oneCell' = true ∧ q.2 ≤ l.length) (fun q => l.length - q.2) (.slice none 0 0, 0) ⟨rfl, Nat.zero_le _⟩ ?_)
  rintro ⟨w, i⟩ ⟨hw, hi⟩
  simp only at hw hi
  dsimp only
  refine cd_seq (cd_seq (cd_region (st_v (v_move rfl) (st_v (v_move rfl) (st_v (v_len rfl Try.underlying22) (st_v (v_lss rfl rfl) (st_nil (nx_kp [0, 1, 5, 6, 14] rfl (nx_then (cd_cond rfl (fun hd => ?_) (fun hd => ?_)))))))))))
  · skip
    have hlt : i < l.length := by simpa using hd
    obtain ⟨b, o, cap2, d, f, pa, pc, c2, fa, fc, j2, hv2, hrd, hP, hone⟩ := sys_at hv (List.getElem?_eq_getElem hlt)
    have hsu := touF_succ (ns := ns) hlt
    have hfl := touF_len l ns i
    rw [← anyA_above hR] at hsu
    generalize (l[i]).name = c at *
    have hal := aboveC_len hR c
    refine cd_skip (xt_then (cd_seq (cd_block (cd_seq (cd_region (st_v (v_move rfl) (st_v (v_move rfl) (st_v (v_move rfl) (st_v (v_indexAddr (k := i) (congrArg some hv2) rfl sl22 rfl hlt rfl) (st_v (v_fieldAddr rfl fa61_0 rfl) (st_v (v_ldy rfl ld9) ?_)))))))))))
    refine st_cl rfl rfl en73 rfl (aboveT_ct hv hR c) ?_
    rintro u h' ⟨T, rfl, hu1, rfl, hu⟩
    simp only [List.cons_append, List.nil_append]
    generalize above l c = xs at *
    obtain ⟨ua, ucap, rfl, _⟩ := id hu
    refine st_v (v_assign rfl) (st_nil (nx_kp [0, 1, 5, 6, 7] rfl (nx_then (cd_seq (cd_region (st_v (v_assign rfl) (st_nil (nx_then (cd_seq (cd_seq (cd_region (st_v (v_assign rfl) (st_nil (nx_then (cd_block (cd_lq (σ := Nat) (fun k => [(0, .slice a l.length cap), (1, nv), (5, w), (6, .int .i64 (i : Nat)), (7, .slice ua xs.length ucap), (8, .bool ((xs.take k).any fun x => ns.contains x)), (9, .int .i64 (k : Nat))]) (fun _ => NR (.slice ua xs.length ucap) xs :: VR w 9 1 ((touF l ns i).map nC) :: S :: hr) (fun k => k ≤ xs.length) (fun k => xs.length - k) 0 (Nat.zero_le _) ?_))))))))))))))))
    rintro k hk
    refine cd_seq (cd_seq (cd_region (st_v (v_move rfl) (st_v (v_move rfl) (st_v (v_len rfl Try.underlying25) (st_v (v_lss rfl rfl) (st_nil (nx_kp [0, 1, 5, 6, 7, 8, 9, 27] rfl (nx_then (cd_cond rfl (fun hd2 => ?_) (fun hd2 => ?_)))))))))))
    · skip
      have hklt : k < xs.length := by simpa using hd2
      obtain ⟨ab, ao, acap2, hav2, hard⟩ := nms_at hu (List.getElem?_eq_getElem hklt)
      have htk : ((xs.take (k + 1)).any fun x => ns.contains x) = (((xs.take k).any fun x => ns.contains x) || ns.contains xs[k]) := by
        rw [List.take_succ_eq_append_getElem hklt, List.any_append]; simp
      generalize xs[k] = x at *
      refine cd_skip (xt_then (cd_seq (cd_block (cd_seq (cd_region (st_v (v_move rfl) (st_v (v_move rfl) (st_v (v_move rfl) (st_v (v_indexAddr (k := k) (congrArg some hav2) rfl sl25 rfl hklt rfl) (st_v (v_ldy rfl ld9) ?_))))))))))
      refine st_clr rfl rfl en57 rfl (Has_ct hn x hnl) ?_
      refine st_v (v_assign rfl) (st_nil (nx_kp [0, 1, 5, 6, 7, 8, 9, 10] rfl (nx_then (cd_region (st_v (v_move rfl) (st_v (v_move rfl) (st_cut (k := 4) (d := 39) (v := .bool (((xs.take k).any fun x => ns.contains x) || ns.contains x)) (fun hcut => bool_want (b := ((xs.take k).any fun x => ns.contains x)) false (fun hg => ?_) (fun hg => ?_)) ?_)))))))
      · refine st_sk rfl rfl hg ?_
        refine st_v (v_pick_true (bool_ev rfl hg) rfl) ?_
        exact hcut _ (ssub_head (by first | rfl | (rw [hg]; rfl) | simp_all) (ssub_skip rfl (ssub_refl)))
      · skip
        refine st_vg rfl (bool_get rfl hg) (v_move rfl) (st_v (v_pick_false (bool_ev rfl hg) rfl) ?_)
        exact hcut _ (ssub_head (by first | rfl | (rw [hg]; rfl) | simp_all) (ssub_skip rfl (ssub_refl)))
      rw [← htk]
      refine st_v (v_assign rfl) (st_nil (nx_kp [0, 1, 5, 6, 7, 8, 9] rfl (nx_xt (xt_normal_block (xt_then (cd_region (st_v (v_move rfl) (st_v (v_add rfl rfl (by unfold I64 at *; omega)) (st_v (v_assign rfl) (st_nil (nx_kp [0, 1, 5, 6, 7, 8, 9] rfl (nx_xt ?_))))))))))))
      refine xt_aq (k + 1) hklt (Nat.sub_lt_sub_left hklt (Nat.lt_succ_self k))
    · skip
      have hke : k = xs.length := by have : ¬ k < xs.length := by simpa using hd2
                                     omega
      subst hke
      rw [List.take_length]
      refine cd_exit (xt_exit_then (xt_exit_then (xt_exit_block (xt_then (cd_seq (cd_region (st_v (v_move rfl) (st_nil (nx_kp [0, 1, 5, 6, 40] rfl (nx_then (cd_cond rfl (fun hb => ?_) (fun hb => ?_))))))))))))
      · skip
        rw [if_pos hb] at hsu
        refine cd_region (st_v (v_move rfl) (st_v (v_move rfl) (st_v (v_move rfl) (st_v (v_indexAddr (k := i) (congrArg some hv2) rfl sl22 rfl hlt rfl) (st_v (v_fieldAddr rfl fa61_0 rfl) (st_v (v_ldy rfl ld9) ?_))))))
        refine st_buildSlice (cells := [sv c]) rfl Try.underlying25 inf9 rfl rfl (by kernel_rfl) (ltn rfl) fun b47 => ?_
        refine st_app [nC c] rfl rfl Try.underlying25 inf9 rfl (by decide) (show Sel _ (VR w 9 1 ((touF l ns i).map nC)) _ from (by repeat (first | exact Sel.here | apply Sel.there))) (by simp [nC]) rfl (fun j u2 hu2 => at_here (rd_cl (by simpa [nC] using hu2))) (by simp [nC, Value.oneCell']) (by simp; omega) (by simp; omega) (ltn rfl) fun v' hv' _ => ?_
        rw [show (touF l ns i).map nC ++ [nC c] = (touF l ns (i + 1)).map nC by rw [hsu, List.map_append]; rfl]
        refine st_v (v_assign rfl) (st_nil (nx_kp [0, 1, 5, 6] rfl (nx_xt (xt_normal_block (xt_then (cd_region (st_v (v_move rfl) (st_v (v_add rfl rfl (by unfold I64 at *; omega)) (st_v (v_assign rfl) (st_nil (nx_kp [0, 1, 5, 6] rfl (nx_xt ?_))))))))))))
        refine xt_aq (v', i + 1) ⟨hv', hlt⟩ (Nat.sub_lt_sub_left hlt (Nat.lt_succ_self i))
      · skip
        rw [if_neg (by rw [hb]; decide), List.append_nil] at hsu
        rw [← hsu]
        refine cd_skip (xt_normal_block (xt_then (cd_region (st_v (v_move rfl) (st_v (v_add rfl rfl (by unfold I64 at *; omega)) (st_v (v_assign rfl) (st_nil (nx_kp [0, 1, 5, 6] rfl (nx_xt ?_)))))))))
        refine xt_aq (w, i + 1) ⟨hw, hlt⟩ (Nat.sub_lt_sub_left hlt (Nat.lt_succ_self i))
  · skip
    have hil : i = l.length := by have : ¬ i < l.length := by simpa using hd
                                  omega
    subst hil
    rw [touF_all]
    refine cd_exit (xt_exit_then (xt_exit_then (xt_exit_block (xt_then (cd_seq (cd_region (st_v (v_move rfl) (st_v (v_assign rfl) (st_nil (nx_kp [4] rfl (nx_then (cd_ret (xt_ok (r := NR w (touched l ns)) (by repeat (first | exact Sel.here | apply Sel.there)) fun hok => ?_)))))))))))))
    exact xt_rt rfl ⟨NR w (touched l ns), rfl, hw, rfl, nms_own hok⟩ (by (repeat (refine Sub.sel (by repeat (first | exact Sel.here | apply Sel.there)) ?_)); (repeat apply Sub.cons); first | exact Sub.refl _ | exact Sub.nil _)
set_option maxRecDepth 100000 in
theorem under2_ct (hv : sysR S v l) (hR : Right l) (hn : nmsR N nv ns) (hnl : ns.length ≤ 1099511627776) : CtN Try.prog 77 #[v, nv] [S, N] fun u T => u.oneCell' = true ∧ T = NR u (touched l ns) ∧ nmsR T u (touched l ns) :=
  ctn_star (under_ct (hv.mono (rd_in Sel.here)) hR (hn.mono (rd_in (Sel.there Sel.here))) hnl)
theorem touched_one (l : Sys) (c : Nm) : touched l [c] = below l c := by unfold touched below; congr 1; funext x; simp
set_option maxRecDepth 100000 in
theorem BelowS_ct (hv : sysR S v l) (hl : l.length ≤ 1000000) (c : Nm) : CtN Try.prog 38 #[v, sv c] [S] fun u T => ∃ w, u = .agg #[w, .int .i64 (rightE l [c])] ∧ w.oneCell' = true ∧ nmsR T w (okL (rightE l [c]) (below l c)) := by
  obtain ⟨a, cap, rfl, _⟩ := id hv
  refine ct_of (n := 19) Try.func38 rfl rfl (len rfl) fun hr w0 => ?_
  refine cd_seq (cd_region (st_alc al30 fun b4 => ?_))
  refine st_nil (nx_then (cd_seq (cd_region (st_v (v_move rfl) (st_v (v_move rfl) (st_buildSlice (cells := [sv c]) rfl Try.underlying25 inf9 rfl rfl (by kernel_rfl) (ltn rfl) fun b8 => ?_))))))
  refine st_pv (pv_of (b := b8) (n := 1) (sz := 1) (E := 9) [nC c] rfl (by simp [nC]) rfl (by decide)) ?_
  simp only [List.cons_append, List.nil_append]
  refine st_ok (r := NR (.slice (some ⟨b8, 0, none⟩) 1 1) [c]) (by repeat (first | exact Sel.here | apply Sel.there)) fun hok => ?_
  refine st_clr rfl rfl en71 rfl (asked_ct hv hl (nms_own hok) (by simp)) ?_
  refine st_v (v_assign rfl) (st_nil (nx_kp [0, 1, 4, 5] rfl (nx_then (cd_seq (cd_seq (cd_region (st_v (v_move rfl) (st_v (v_neq rfl rfl) (st_nil (nx_kp [0, 1, 4, 5, 11] rfl (nx_then (cd_cond rfl (fun he => ?_) (fun he => ?_)))))))))))))
  · skip
    have he : ¬ rightE l [c] = 0 := by simpa using he
    rw [okL_ne he]
    refine cd_seq (cd_region (st_v (v_move rfl) (st_v (v_build (cells := [.slice none 0 0, .int .i64 (rightE l [c])]) rfl (fun _ => by kernel_rfl)) ?_)))
    refine st_stoW rfl rfl sz30 rfl rfl ?_
    refine st_nil (nx_kp [4] rfl (nx_then (cd_ret (xt_ret_then (xt_vw (vw_unstar (L := [])) ?_)))))
    exact xt_retV (.cellN rfl ld30 rfl (by repeat (first | exact Sel.here | apply Sel.there)) .nil) ⟨Res.star [], rfl, _, rfl, rfl, Row.nil⟩ (by repeat (first | exact Sub.refl _ | exact Sub.nil _ | refine Sub.sel (by repeat (first | exact Sel.here | apply Sel.there)) ?_ | apply Sub.cons))
  · skip
    have he : rightE l [c] = 0 := by simpa using he
    obtain ⟨hR, hm⟩ := rightE_zero.1 he
    rw [he, okL_eq rfl, ← touched_one]
    refine cd_skip (xt_then (cd_seq (cd_region (st_v (v_move rfl) (st_v (v_move rfl) (st_buildSlice (cells := [sv c]) rfl Try.underlying25 inf9 rfl rfl (by kernel_rfl) (ltn rfl) fun b16 => ?_))))))
    refine st_pv (pv_of (b := b16) (n := 1) (sz := 1) (E := 9) [nC c] rfl (by simp [nC]) rfl (by decide)) ?_
    simp only [List.cons_append, List.nil_append]
    refine st_ok (r := NR (.slice (some ⟨b16, 0, none⟩) 1 1) [c]) (by repeat (first | exact Sel.here | apply Sel.there)) fun hok2 => ?_
    refine st_cl rfl rfl en77 rfl (under2_ct hv hR (nms_own hok2) (by simp)) ?_
    rintro u h' ⟨T, rfl, hu1, rfl, hu⟩
    simp only [List.cons_append, List.nil_append]
    obtain ⟨ua, ucap, rfl, _⟩ := id hu
    refine st_v (v_build (cells := [.slice ua (touched l [c]).length ucap, .int .i64 0]) rfl (fun _ => by kernel_rfl)) ?_
    refine st_stoW rfl rfl sz30 rfl rfl ?_
    refine st_nil (nx_kp [4] rfl (nx_then (cd_ret ?_)))
    exact xt_retV (.cellN rfl ld30 rfl (by repeat (first | exact Sel.here | apply Sel.there)) .nil) ⟨_, rfl, _, rfl, rfl, hu⟩ (by repeat (first | exact Sub.refl _ | exact Sub.nil _ | refine Sub.sel (by repeat (first | exact Sel.here | apply Sel.there)) ?_ | apply Sub.cons))
set_option maxRecDepth 100000 in
theorem TouchedS_ct (hv : sysR S v l) (hl : l.length ≤ 1000000) (hn : nmsR S nv ns) : CtN Try.prog 27 #[v, nv] [S] fun u T => ∃ w, u = .agg #[w, .int .i64 (touchE l ns)] ∧ w.oneCell' = true ∧ nmsR T w (okL (touchE l ns) (touched l ns)) := by
  obtain ⟨a, cap, rfl, _⟩ := id hv
  obtain ⟨na, ncap, rfl, _⟩ := id hn
  refine ct_of (n := 22) Try.func27 rfl rfl (len rfl) fun hr w0 => ?_
  refine cd_seq (cd_region (st_alc al30 fun b4 => ?_))
  refine st_nil (nx_then (cd_seq (cd_seq (cd_region (st_v (v_move rfl) (st_v (v_len rfl Try.underlying25) (st_v (v_gtr rfl rfl) (st_nil (nx_kp [0, 1, 4, 8] rfl (nx_then (cd_cond rfl (fun h48 => ?_) (fun h48 => ?_))))))))))))
  · skip
    have h48 : 48 < ns.length := by have : (48 : Int) < ns.length := by simpa using h48
                                    omega
    rw [show touchE l ns = 3 by unfold touchE; rw [if_pos h48], okL_ne (by decide)]
    refine cd_seq (cd_region (st_v (v_build (cells := [.slice none 0 0, .int .i64 3]) rfl (fun _ => by kernel_rfl)) ?_))
    refine st_stoW rfl rfl sz30 rfl rfl ?_
    refine st_nil (nx_kp [4] rfl (nx_then (cd_ret (xt_ret_then (xt_vw (vw_unstar (L := [])) ?_)))))
    exact xt_retV (.cellN rfl ld30 rfl (by repeat (first | exact Sel.here | apply Sel.there)) .nil) ⟨Res.star [], rfl, _, rfl, rfl, Row.nil⟩ (by repeat (first | exact Sub.refl _ | exact Sub.nil _ | refine Sub.sel (by repeat (first | exact Sel.here | apply Sel.there)) ?_ | apply Sub.cons))
  · skip
    have h48 : ¬ 48 < ns.length := by have : ¬ (48 : Int) < ns.length := by simpa using h48
                                      omega
    have hte : touchE l ns = (check l).1 := by unfold touchE; rw [if_neg h48, rightE_nil]
    rw [hte]
    refine cd_skip (xt_then (cd_seq (cd_region (st_v (v_move rfl) (st_cl rfl rfl en56 rfl (CheckS_ct hv hl) ?_)))))
    rintro u h' ⟨n, rfl, rfl⟩
    simp only [List.cons_append, List.nil_append]
    refine st_alc al106 fun b5 => ?_
    refine st_stoW rfl rfl sz106 rfl rfl ?_
    refine st_nil (nx_kp [0, 1, 4, 5] rfl (nx_then (cd_seq (cd_seq (cd_region (st_v (v_fieldAddr rfl fa106_0 rfl) (st_v (v_ldy rfl ld26) ?_)))))))
    refine st_v (v_neq rfl rfl) (st_nil (nx_kp [0, 1, 4, 5, 14] rfl (nx_then (cd_cond rfl (fun he => ?_) (fun he => ?_)))))
    · skip
      have he : ¬ (check l).1 = 0 := by simpa using he
      rw [okL_ne he]
      refine cd_seq (cd_region (st_v (v_fieldAddr rfl fa106_0 rfl) (st_v (v_ldy rfl ld26) ?_)))
      refine st_v (v_build (cells := [.slice none 0 0, .int .i64 (check l).1]) rfl (fun _ => by kernel_rfl)) ?_
      refine st_stoW rfl rfl sz30 rfl rfl ?_
      refine st_nil (nx_kp [4] rfl (nx_then (cd_ret (xt_ret_then (xt_vw (vw_unstar (L := [])) ?_)))))
      exact xt_retV (.cellN rfl ld30 rfl (by repeat (first | exact Sel.here | apply Sel.there)) .nil) ⟨Res.star [], rfl, _, rfl, rfl, Row.nil⟩ (by repeat (first | exact Sub.refl _ | exact Sub.nil _ | refine Sub.sel (by repeat (first | exact Sel.here | apply Sel.there)) ?_ | apply Sub.cons))
    · skip
      have he : (check l).1 = 0 := by simpa using he
      have hR := check_zero.1 he
      rw [he, okL_eq rfl]
      refine cd_skip (xt_then (cd_seq (cd_region (st_v (v_move rfl) (st_v (v_move rfl) (st_cl rfl rfl en77 rfl (under_ct hv hR hn (by omega)) ?_))))))
      rintro u h' ⟨T, rfl, hu1, rfl, hu⟩
      simp only [List.cons_append, List.nil_append]
      obtain ⟨ua, ucap, rfl, _⟩ := id hu
      refine st_v (v_build (cells := [.slice ua (touched l ns).length ucap, .int .i64 0]) rfl (fun _ => by kernel_rfl)) ?_
      refine st_stoW rfl rfl sz30 rfl rfl ?_
      refine st_nil (nx_kp [4] rfl (nx_then (cd_ret ?_)))
      exact xt_retV (.cellN rfl ld30 rfl (by repeat (first | exact Sel.here | apply Sel.there)) .nil) ⟨_, rfl, _, rfl, rfl, hu⟩ (by repeat (first | exact Sub.refl _ | exact Sub.nil _ | refine Sub.sel (by repeat (first | exact Sel.here | apply Sel.there)) ?_ | apply Sub.cons))
end
end Go.Hr
namespace Go.Hr
open Go Go.RowKit Go.Ck Go.Proofs Go.Proofs.Ytjgiaohieadeiaa Fx
attribute [local irreducible] Go.Ck.Sub St Cd Xt Nx DrL LsW
theorem spare_at {l : Sys} (hR : Right l) {c : Nm} {k : Nat} (hk : k < (par l c).length) {bv : Bool} (h : bv = true ↔ ∃ (m : Nat) (hm : m < (par l c).length), m ≠ k ∧ has l (par l c)[m] (par l c)[k] = true) : spare l c (par l c)[k] = bv := by
  rw [Bool.eq_iff_iff, h, spare_iff]
  constructor
  · rintro ⟨q, h1, h2, h3⟩
    obtain ⟨m, hm, rfl⟩ := List.getElem_of_mem h1
    exact ⟨m, hm, fun e => h2 (by subst e; rfl), h3⟩
  · rintro ⟨m, hm, h1, h2⟩
    exact ⟨_, List.getElem_mem hm, fun e => h1 ((List.getElem_inj (hR.par_nodup c)).1 e), h2⟩
def midN (l : Sys) (c : Nm) (out : List (Nm × Nm)) (k : Nat) : List (Nm × Nm) := out ++ (((par l c).take k).filter (spare l c)).map fun p => (c, p)
theorem midN_len {l : Sys} (hR : Right l) {c : Nm} {out : List (Nm × Nm)} {k : Nat} : (midN l c out k).length ≤ out.length + 4 := by
  unfold midN
  have h1 := List.length_filter_le (spare l c) ((par l c).take k)
  have h2 := hR.par_few c
  simp only [List.length_append, List.length_map]
  rw [List.length_take] at h1
  omega
theorem midN_yes {l : Sys} {c : Nm} {out : List (Nm × Nm)} {k : Nat} (hk : k < (par l c).length) (h : spare l c (par l c)[k] = true) : midN l c out (k + 1) = midN l c out k ++ [(c, (par l c)[k])] := by
  unfold midN; rw [flt_yes hk h, List.map_append]; simp
theorem midN_no {l : Sys} {c : Nm} {out : List (Nm × Nm)} {k : Nat} (hk : k < (par l c).length) (h : spare l c (par l c)[k] = false) : midN l c out (k + 1) = midN l c out k := by
  unfold midN; rw [flt_no hk h]
section
variable {S N : Res} {v nv : Value} {l : Sys} {ns : List Nm}
set_option maxHeartbeats 1000000 in
set_option maxRecDepth 100000 in
theorem NeedlessS_ct (hv : sysR S v l) (hl : l.length ≤ 1000000) : CtN Try.prog 25 #[v] [S] fun u T => ∃ w, u = .agg #[w, .int .i64 (rightE l [])] ∧ w.oneCell' = true ∧ klR T w (okL (rightE l []) (needless l)) := by
  obtain ⟨a, cap, rfl, _⟩ := id hv
  rw [rightE_nil]
  refine ct_of (n := 77) Try.func25 rfl rfl (len rfl) fun hr w0 => ?_
  refine cd_seq (cd_region (st_alc al47 fun b2 => ?_))
  refine st_nil (nx_then (cd_seq (cd_region (st_v (v_move rfl) (st_cl rfl rfl en56 rfl (CheckS_ct hv hl) ?_)))))
  rintro u h' ⟨n, rfl, rfl⟩
  simp only [List.cons_append, List.nil_append]
  refine st_alc al106 fun b3 => ?_
  refine st_stoW rfl rfl sz106 rfl rfl ?_
  refine st_nil (nx_kp [0, 2, 3] rfl (nx_then (cd_seq (cd_seq (cd_region (st_v (v_fieldAddr rfl fa106_0 rfl) (st_v (v_ldy rfl ld26) ?_)))))))
  refine st_v (v_neq rfl rfl) (st_nil (nx_kp [0, 2, 3, 15] rfl (nx_then (cd_cond rfl (fun he => ?_) (fun he => ?_)))))
  · skip
    have he : ¬ (check l).1 = 0 := by simpa using he
    rw [okL_ne he]
    refine cd_seq (cd_region (st_v (v_fieldAddr rfl fa106_0 rfl) (st_v (v_ldy rfl ld26) ?_)))
    refine st_v (v_build (cells := [.slice none 0 0, .int .i64 (check l).1]) rfl (fun _ => by kernel_rfl)) ?_
    refine st_stoW rfl rfl sz47 rfl rfl ?_
    refine st_nil (nx_kp [2] rfl (nx_then (cd_ret (xt_ret_then (xt_vw (vw_unstar (L := [])) ?_)))))
    exact xt_retV (.cellN rfl ld47 rfl (by repeat (first | exact Sel.here | apply Sel.there)) .nil) ⟨Res.star [], rfl, _, rfl, rfl, Row.nil⟩ (by repeat (first | exact Sub.refl _ | exact Sub.nil _ | refine Sub.sel (by repeat (first | exact Sel.here | apply Sel.there)) ?_ | apply Sub.cons))
  · skip
    have he : (check l).1 = 0 := by simpa using he
    have hR := check_zero.1 he
    have hFl := hR.len
    rw [he, okL_eq rfl]
    refine cd_skip (xt_then (cd_seq (cd_region (st_v (v_assign rfl) (st_nil (nx_kp [0, 2, 4] rfl (nx_then (cd_seq (cd_seq (cd_region (st_v (v_assign rfl) (st_nil (nx_then (cd_block (cd_vw (vw_nil 73 2) (cd_lq (σ := Value × Nat) (fun q => [(0, .slice a l.length cap), (2, .pointer (some ⟨b2, 0, none⟩)), (4, q.1), (5, .int .i64 (q.2 : Nat))]) (fun q => KR q.1 (preN l q.2) :: pt b2 (cl [.slice none 0 0, .int .i64 0] 47) :: S :: hr) (fun q => q.1.oneCell' = true ∧ q.2 ≤ l.length) (fun q => l.length - q.2) (.slice none 0 0, 0) ⟨rfl, Nat.zero_le _⟩ ?_))))))))))))))))
    rintro ⟨w, i⟩ ⟨hw, hi⟩
    simp only at hw hi
    dsimp only
    refine cd_seq (cd_seq (cd_region (st_v (v_move rfl) (st_v (v_move rfl) (st_v (v_len rfl Try.underlying22) (st_v (v_lss rfl rfl) (st_nil (nx_kp [0, 2, 4, 5, 22] rfl (nx_then (cd_cond rfl (fun hd => ?_) (fun hd => ?_)))))))))))
    · skip
      have hlt : i < l.length := by simpa using hd
      obtain ⟨b, o, cap2, d, f, pa, pc, c2, fa, fc, j2, hv2, hrd, hP, hone⟩ := sys_at hv (List.getElem?_eq_getElem hlt)
      have hsucc := preN_succ hlt
      have hpl := preN_len hR i
      generalize hcn : (l[i]).name = c at *
      have hpf := hR.par_few c
      have hsucc : preN l (i + 1) = midN l c (preN l i) (par l c).length := by rw [hsucc]; unfold midN; rw [List.take_length]
      have hm0 : preN l i = midN l c (preN l i) 0 := by simp [midN]
      generalize hout : preN l i = out at *
      refine cd_skip (xt_then (cd_seq (cd_block (cd_seq (cd_region (st_v (v_move rfl) (st_v (v_move rfl) (st_v (v_move rfl) (st_v (v_indexAddr (k := i) (congrArg some hv2) rfl sl22 rfl hlt rfl) (st_v (v_fieldAddr rfl fa61_0 rfl) (st_v (v_ldy rfl ld9) ?_)))))))))))
      refine st_cl rfl rfl en59 rfl (parents_ct hv c (by omega) hR.sel) ?_
      rintro u h' ⟨T, rfl, hu1, rfl, hpn⟩
      simp only [List.cons_append, List.nil_append]
      rw [hR.pars_eq] at *
      obtain ⟨pa2, pcap, rfl, _⟩ := id hpn
      refine st_v (v_assign rfl) (st_nil (nx_kp [0, 2, 4, 5, 6] rfl (nx_then (cd_seq (cd_region (st_v (v_assign rfl) (st_nil (nx_then (cd_block ?_)))))))))
      rw [hm0]
      refine cd_lq (σ := Value × Nat) (fun q => [(0, .slice a l.length cap), (2, .pointer (some ⟨b2, 0, none⟩)), (4, q.1), (5, .int .i64 (i : Nat)), (6, .slice pa2 (par l c).length pcap), (7, .int .i64 (q.2 : Nat))]) (fun q => KR q.1 (midN l c out q.2) :: NR (.slice pa2 (par l c).length pcap) (par l c) :: pt b2 (cl [.slice none 0 0, .int .i64 0] 47) :: S :: hr) (fun q => q.1.oneCell' = true ∧ q.2 ≤ (par l c).length) (fun q => (par l c).length - q.2) (w, 0) ⟨hw, Nat.zero_le _⟩ ?_
      rintro ⟨w2, k⟩ ⟨hw2, hk⟩
      simp only at hw2 hk
      dsimp only
      refine cd_seq (cd_seq (cd_region (st_v (v_move rfl) (st_v (v_move rfl) (st_v (v_len rfl Try.underlying25) (st_v (v_lss rfl rfl) (st_nil (nx_kp [0, 2, 4, 5, 6, 7, 35] rfl (nx_then (cd_cond rfl (fun hd2 => ?_) (fun hd2 => ?_)))))))))))
      · skip
        have hklt : k < (par l c).length := by simpa using hd2
        obtain ⟨kb, ko, kcap, hkv, hkrd⟩ := nms_at hpn (List.getElem?_eq_getElem hklt)
        have hspare : ∀ bv : Bool, _ → _ := fun bv => spare_at (bv := bv) hR hklt
        have hyes := midN_yes (out := out) hklt
        have hno := midN_no (out := out) hklt
        have hml := midN_len hR (c := c) (out := out) (k := k)
        generalize hpk : (par l c)[k] = p at *
        refine cd_skip (xt_then (cd_seq (cd_block (cd_seq (cd_region (st_v (v_assign rfl) (st_nil (nx_kp [0, 2, 4, 5, 6, 7, 8] rfl (nx_then (cd_seq (cd_seq (cd_region (st_v (v_assign rfl) (st_nil (nx_then (cd_block ?_))))))))))))))))
        refine cd_lq (σ := Bool × Nat) (fun q => [(0, .slice a l.length cap), (2, .pointer (some ⟨b2, 0, none⟩)), (4, w2), (5, .int .i64 (i : Nat)), (6, .slice pa2 (par l c).length pcap), (7, .int .i64 (k : Nat)), (8, .bool q.1), (9, .int .i64 (q.2 : Nat))]) (fun _ => KR w2 (midN l c out k) :: NR (.slice pa2 (par l c).length pcap) (par l c) :: pt b2 (cl [.slice none 0 0, .int .i64 0] 47) :: S :: hr) (fun q => q.2 ≤ (par l c).length ∧ (q.1 = true ↔ ∃ (m : Nat) (hm : m < (par l c).length), m < q.2 ∧ m ≠ k ∧ has l (par l c)[m] p = true)) (fun q => (par l c).length - q.2) (false, 0) ⟨Nat.zero_le _, by simp⟩ ?_
        rintro ⟨bv, j⟩ ⟨hj, hbv⟩
        simp only at hj hbv
        dsimp only
        refine cd_seq (cd_seq (cd_region (st_v (v_move rfl) (st_v (v_move rfl) (st_v (v_len rfl Try.underlying25) (st_v (v_lss rfl rfl) (st_nil (nx_kp [0, 2, 4, 5, 6, 7, 8, 9, 41] rfl (nx_then (cd_cond rfl (fun hd3 => ?_) (fun hd3 => ?_)))))))))))
        · skip
          have hjlt : j < (par l c).length := by simpa using hd3
          obtain ⟨jb, jo, jcap, hjv, hjrd⟩ := nms_at hpn (List.getElem?_eq_getElem hjlt)
          have hstep : ∀ b2 : Bool, (b2 = true ↔ bv = true ∨ (j ≠ k ∧ has l (par l c)[j] p = true)) → (b2 = true ↔ ∃ (m : Nat) (hm : m < (par l c).length), m < j + 1 ∧ m ≠ k ∧ has l (par l c)[m] p = true) := by
            intro b2 h
            rw [h, hbv]
            constructor
            · rintro (⟨m, hm, h1, h2⟩ | h1)
              · exact ⟨m, hm, by omega, h2⟩
              · exact ⟨j, hjlt, by omega, h1⟩
            · rintro ⟨m, hm, h1, h2⟩
              by_cases hmj : m = j
              · subst hmj; exact .inr h2
              · exact .inl ⟨m, hm, by omega, h2⟩
          have hal := aboveC_len hR (par l c)[j]
          have hah := aboveC_has hR (par l c)[j] p
          generalize (par l c)[j] = q at *
          refine cd_skip (xt_then (cd_seq (cd_block (cd_seq (cd_drawh (ork [(0, 2), (1, 2), (2, 2), (3, 2), (4, 1), (6, 2), (7, 2), (8, 2), (9, 1), (5, 0), (10, 0), (11, 2)] .nil) (fun i => !(Nat.beq i 10)) mixed (by kernel_rfl) ?_)))))
          refine dp_v rfl (v_move rfl) (dp_v rfl (v_move rfl) (dp_v rfl (v_move rfl) (dp_v rfl (v_indexAddr (k := j) (congrArg some hjv) rfl sl25 rfl hjlt rfl) (dr_v rfl (v_ldy rfl ld9) ?_))))
          refine dp_v rfl (v_move rfl) (dp_v rfl (v_move rfl) (dp_v rfl (v_indexAddr (k := k) (congrArg some hkv) rfl sl25 rfl hklt rfl) (dr_v rfl (v_ldy rfl ld9) ?_)))
          refine dr_eff rfl (st_cl rfl rfl en73 rfl (aboveT_ct hv hR q) ?_)
          rintro u h' ⟨T, rfl, hu1, rfl, hu⟩
          simp only [List.cons_append, List.nil_append]
          refine dr_nx ?_
          refine dr_eff rfl (st_cl rfl rfl en57 rfl (Has_ct hu p (by omega)) ?_)
          rintro u h' ⟨rfl, rfl⟩
          simp only [List.cons_append, List.nil_append]
          rw [hah]
          refine dr_nx ?_
          refine dp_v rfl (v_assign rfl) (dr_nil (nx_kp [0, 2, 4, 5, 6, 7, 8, 9, 10] rfl (nx_then (cd_seq (cd_region (st_v (v_move rfl) (st_v (v_move rfl) (st_v (v_neq rfl rfl) (st_v (v_move rfl) (st_cut (k := 6) (d := 60) (v := .bool (((j : Int) != k) && has l q p)) (fun hcut => bool_want (b := ((j : Int) != k)) true (fun hg => ?_) (fun hg => ?_)) ?_))))))))))
          · refine st_sk rfl rfl hg ?_
            refine st_v (v_pick_false (bool_ev rfl hg) rfl) ?_
            exact hcut _ (ssub_head (by first | rfl | (rw [hg]; rfl) | simp_all) (ssub_skip rfl (ssub_refl)))
          · skip
            refine st_vg rfl (bool_get rfl hg) (v_move rfl) (st_v (v_pick_true (bool_ev rfl hg) rfl) ?_)
            exact hcut _ (ssub_head (by first | rfl | (rw [hg]; rfl) | simp_all) (ssub_skip rfl (ssub_refl)))
          refine st_nil (nx_kp [0, 2, 4, 5, 6, 7, 8, 9, 60] rfl (nx_then (cd_cond rfl (fun hb => ?_) (fun hb => ?_))))
          · skip
            have hb' : j ≠ k ∧ has l q p = true := by
              obtain ⟨h1, h2⟩ := Bool.and_eq_true_iff.1 hb
              exact ⟨fun e => by subst e; simp at h1, h2⟩
            refine cd_region (st_v (v_assign rfl) (st_nil (nx_kp [0, 2, 4, 5, 6, 7, 8, 9] rfl (nx_xt (xt_normal_block (xt_then (cd_region (st_v (v_move rfl) (st_v (v_add rfl rfl (by unfold I64 at *; omega)) (st_v (v_assign rfl) (st_nil (nx_kp [0, 2, 4, 5, 6, 7, 8, 9] rfl (nx_xt ?_)))))))))))))
            refine xt_aq (true, j + 1) ⟨hjlt, hstep true ⟨fun _ => .inr hb', fun _ => rfl⟩⟩ (Nat.sub_lt_sub_left hjlt (Nat.lt_succ_self j))
          · skip
            have hb' : ¬ (j ≠ k ∧ has l q p = true) := by
              rintro ⟨h1, h2⟩
              rw [h2, Bool.and_true] at hb
              have : (j : Int) = k := by simpa using hb
              exact h1 (by omega)
            refine cd_skip (xt_normal_block (xt_then (cd_region (st_v (v_move rfl) (st_v (v_add rfl rfl (by unfold I64 at *; omega)) (st_v (v_assign rfl) (st_nil (nx_kp [0, 2, 4, 5, 6, 7, 8, 9] rfl (nx_xt ?_)))))))))
            refine xt_aq (bv, j + 1) ⟨hjlt, hstep bv ⟨.inl, fun h => h.resolve_right hb'⟩⟩ (Nat.sub_lt_sub_left hjlt (Nat.lt_succ_self j))
        · skip
          have hje : j = (par l c).length := by have : ¬ j < (par l c).length := by simpa using hd3
                                                omega
          subst hje
          have hsp : spare l c p = bv := hspare bv (by
            rw [hbv]
            exact ⟨fun ⟨m, hm, _, h⟩ => ⟨m, hm, h⟩, fun ⟨m, hm, h⟩ => ⟨m, hm, hm, h⟩⟩)
          refine cd_exit (xt_exit_then (xt_exit_then (xt_exit_block (xt_then (cd_seq (cd_region (st_v (v_move rfl) (st_nil (nx_kp [0, 2, 4, 5, 6, 7, 61] rfl (nx_then (cd_cond rfl (fun hb => ?_) (fun hb => ?_))))))))))))
          · skip
            rw [hb] at hsp
            have hyes := hyes hsp
            refine cd_drawh (ork [(0, 2), (1, 2), (2, 2), (3, 2), (4, 2), (5, 1), (6, 2), (7, 2), (8, 2), (9, 1), (10, 2), (11, 0), (12, 0), (13, 2)] .nil) (fun i => !(Nat.beq i 11 || Nat.beq i 12)) mixed (by kernel_rfl) ?_
            refine dp_v rfl (v_move rfl) (dp_v rfl (v_move rfl) (dp_v rfl (v_move rfl) (dp_v rfl (v_indexAddr (k := i) (congrArg some hv2) rfl sl22 rfl hlt rfl) (dp_v rfl (v_fieldAddr rfl fa61_0 rfl) (dr_v rfl (v_ldy rfl ld9) ?_)))))
            refine dp_v rfl (v_move rfl) (dp_v rfl (v_move rfl) (dp_v rfl (v_indexAddr (k := k) (congrArg some hkv) rfl sl25 rfl hklt rfl) (dr_v rfl (v_ldy rfl ld9) ?_)))
            refine dp_v rfl (v_build (cells := [sv c, sv p]) rfl (fun _ => by kernel_rfl)) ?_
            refine dr_eff rfl (st_buildSlice (cells := [sv c, sv p]) rfl Try.underlying43 inf73 rfl rfl (by kernel_rfl) (ltn rfl) fun b73 => dr_nx ?_)
            refine dr_eff rfl (st_app [lkC (c, p)] rfl rfl Try.underlying43 inf73 rfl (by decide) (show Sel _ (KR w2 (midN l c out k)) _ from (by repeat (first | exact Sel.here | apply Sel.there))) (by simp [lkC]) rfl (fun j u2 hu2 => by repeat (first | exact at_here (rd_cl (by simpa [lkC] using hu2)) | apply at_there)) (by simp [lkC, Value.oneCell']) (by rw [List.length_map]; omega) (by rw [List.length_map]; omega) (ltn rfl) fun w3 hw3 _ => ?_)
            rw [show (midN l c out k).map lkC ++ [lkC (c, p)] = (midN l c out (k + 1)).map lkC by rw [hyes, List.map_append]; rfl]
            refine dr_nx ?_
            refine dp_v rfl (v_assign rfl) (dr_nil (nx_kp [0, 2, 4, 5, 6, 7] rfl (nx_xt (xt_normal_block (xt_then (cd_region (st_v (v_move rfl) (st_v (v_add rfl rfl (by unfold I64 at *; omega)) (st_v (v_assign rfl) (st_nil (nx_kp [0, 2, 4, 5, 6, 7] rfl (nx_xt ?_))))))))))))
            refine xt_aq (w3, k + 1) ⟨hw3, hklt⟩ (Nat.sub_lt_sub_left hklt (Nat.lt_succ_self k))
          · skip
            rw [hb] at hsp
            have hno := hno hsp
            rw [← hno]
            refine cd_skip (xt_normal_block (xt_then (cd_region (st_v (v_move rfl) (st_v (v_add rfl rfl (by unfold I64 at *; omega)) (st_v (v_assign rfl) (st_nil (nx_kp [0, 2, 4, 5, 6, 7] rfl (nx_xt ?_)))))))))
            refine xt_aq (w2, k + 1) ⟨hw2, hklt⟩ (Nat.sub_lt_sub_left hklt (Nat.lt_succ_self k))
      · skip
        have hke : k = (par l c).length := by have : ¬ k < (par l c).length := by simpa using hd2
                                              omega
        subst hke
        rw [← hsucc]
        refine cd_exit (xt_exit_then (xt_exit_then (xt_exit_block (xt_normal_block (xt_then (cd_region (st_v (v_move rfl) (st_v (v_add rfl rfl (by unfold I64 at *; omega)) (st_v (v_assign rfl) (st_nil (nx_kp [0, 2, 4, 5] rfl (nx_xt ?_))))))))))))
        refine xt_aq (w2, i + 1) ⟨hw2, hlt⟩ (Nat.sub_lt_sub_left hlt (Nat.lt_succ_self i))
    · skip
      have hil : i = l.length := by have : ¬ i < l.length := by simpa using hd
                                    omega
      subst hil
      rw [preN_all]
      refine cd_ok (r := KR w (needless l)) (by repeat (first | exact Sel.here | apply Sel.there)) fun hok => ?_
      have hkl := kl_own hok
      obtain ⟨wa, wcap, rfl, _⟩ := id hkl
      refine cd_exit (xt_exit_then (xt_exit_then (xt_exit_block (xt_then (cd_seq (cd_region (st_v (v_move rfl) (st_v (v_build (cells := [.slice wa (needless l).length wcap, .int .i64 0]) rfl (fun _ => by kernel_rfl)) ?_))))))))
      refine st_stoW rfl rfl sz47 rfl rfl ?_
      refine st_nil (nx_kp [2] rfl (nx_then (cd_ret ?_)))
      exact xt_retV (.cellN rfl ld47 rfl (by repeat (first | exact Sel.here | apply Sel.there)) .nil) ⟨_, rfl, _, rfl, rfl, hkl⟩ (by repeat (first | exact Sub.refl _ | exact Sub.nil _ | refine Sub.sel (by repeat (first | exact Sel.here | apply Sel.there)) ?_ | apply Sub.cons))
end
end Go.Hr
namespace Go.Hr
open Go Go.RowKit Go.Ck Go.Proofs Go.Proofs.Ytjgiaohieadeiaa Fx
attribute [local irreducible] Go.Ck.Sub St Cd Xt Nx DrL LsW
theorem okK_len {l : Sys} : (okL (rightE l []) (needless l)).length ≤ 1099511627776 := by
  unfold okL
  split
  · rename_i h
    have hR := (rightE_zero.1 h).1
    have h1 := preN_len hR l.length
    rw [preN_all] at h1
    have := hR.len
    omega
  · simp
theorem okT_len {l : Sys} {ns : List Nm} (hl : l.length ≤ 40) : (okL (touchE l ns) (touched l ns)).length ≤ 1099511627776 :=
  okL_len (Nat.le_trans (List.length_filter_le _ _) (by simp [nms]; omega))
section
variable {S N : Res} {v nv : Value} {l : Sys} {ns : List Nm}
set_option maxRecDepth 100000 in
theorem heirLinks_ct (hv : sysR S v l) (hn : nmsR S nv ns) : Ct Try.prog 4 #[v, nv] [S] fun u h' => u = .bool true ∧ h' = [S] := by
  obtain ⟨la, cap, rfl, _⟩ := id hv
  obtain ⟨na, ncap, rfl, hncl, _⟩ := id hn
  refine ct_of (n := 61) Try.func4 rfl rfl (len rfl) fun hr w0 => ?_
  refine cd_seq (cd_region (st_v (v_assign rfl) (st_nil (nx_then (cd_seq (cd_seq (cd_region (st_v (v_move rfl) (st_clr rfl rfl en14 rfl (fewS_ct hv) ?_)))))))))
  refine st_v (v_not rfl) (st_v (v_move rfl) (st_cut (k := 8) (d := 18) (v := .bool ((!fewL l) || decide (60 < (ns.length : Int)))) (fun hcut => bool_want (b := (!fewL l)) false (fun hg => ?_) (fun hg => ?_)) ?_))
  · refine st_sk rfl rfl hg ?_
    refine st_sk rfl rfl hg ?_
    refine st_sk rfl rfl hg ?_
    refine st_v (v_pick_true (bool_ev rfl hg) rfl) ?_
    exact hcut _ (ssub_head (by first | rfl | (rw [hg]; rfl) | simp_all) (ssub_skip rfl (ssub_skip rfl (ssub_skip rfl (ssub_refl)))))
  · skip
    refine st_vg rfl (bool_get rfl hg) (v_move rfl) (st_vg rfl (bool_get rfl hg) (v_len rfl Try.underlying25) (st_vg rfl (bool_get rfl hg) (v_gtr rfl rfl) (st_v (v_pick_false (bool_ev rfl hg) rfl) ?_)))
    exact hcut _ (ssub_head (by first | rfl | (rw [hg]; rfl) | simp_all) (ssub_skip rfl (ssub_skip rfl (ssub_skip rfl (ssub_refl)))))
  refine st_nil (nx_kp [0, 1, 4, 18] rfl (nx_then (cd_cond rfl (fun hrg => ?_) (fun hrg => ?_))))
  · skip
    refine cd_seq (cd_region (st_clr rfl rfl en15 rfl (sanityR) ?_))
    refine st_v (v_assign rfl) (st_nil (nx_kp [4] rfl (nx_then (cd_ret (xt_ret_then (xt_law rfl ?_))))))
    refine Sub.sel (by repeat (first | exact Sel.here | apply Sel.there)) ?_
    repeat apply Sub.cons
    exact Sub.refl _
  · skip
    obtain ⟨hr1, hr2⟩ := Bool.or_eq_false_iff.1 hrg
    obtain ⟨h40, hp8⟩ := few_40 (show fewL l = true by simpa using hr1)
    refine cd_skip (xt_then (cd_seq (cd_region (st_v (v_move rfl) (st_cl rfl rfl en24 rfl (Needless_ct hv) ?_)))))
    rintro u h' ⟨T, rfl, w, rfl, hw, rfl⟩
    simp only [List.cons_append, List.nil_append]
    refine st_ok (r := KR w (okL (rightE l []) (needless l))) (by repeat (first | exact Sel.here | apply Sel.there)) fun hok => ?_
    have hxl := okK_len (l := l)
    have hno := kl_own hok
    generalize KR w (okL (rightE l []) (needless l)) = T1 at *
    refine st_v (v_move rfl) (st_v (v_extract rfl rfl) (st_v (v_extract rfl rfl) (st_v (v_assign rfl) (st_v (v_assign rfl) (st_nil (nx_kp [0, 1, 4, 5, 6] rfl (nx_then (cd_seq (cd_region (st_v (v_move rfl) (st_cl rfl rfl en25 rfl (NeedlessS_ct hv (by omega)) ?_)))))))))))
    rintro u h' ⟨T2, rfl, w2, rfl, hw2, hno2⟩
    simp only [List.cons_append, List.nil_append]
    generalize okL (rightE l []) (needless l) = xs at *
    obtain ⟨wa2, wcap2, rfl, _⟩ := id hno2
    refine st_alc al47 fun b7 => ?_
    refine st_stoW rfl rfl sz47 rfl rfl ?_
    refine st_nil (nx_kp [0, 1, 4, 5, 6, 7] rfl (nx_then (cd_seq (cd_region (st_v (v_move rfl) (st_v (v_move rfl) (st_cl rfl rfl en26 rfl (Touched1_ct hv hn) ?_)))))))
    rintro u h' ⟨T, rfl, w, rfl, hw, rfl⟩
    simp only [List.cons_append, List.nil_append]
    refine st_ok (r := NR w (okL (touchE l ns) (touched l ns))) (by repeat (first | exact Sel.here | apply Sel.there)) fun hok3 => ?_
    have hyl := okT_len (ns := ns) h40
    have hno3 := nms_own hok3
    generalize NR w (okL (touchE l ns) (touched l ns)) = T3 at *
    refine st_v (v_move rfl) (st_v (v_extract rfl rfl) (st_v (v_extract rfl rfl) (st_v (v_assign rfl) (st_v (v_assign rfl) (st_nil (nx_kp [0, 1, 4, 5, 6, 7, 8, 9] rfl (nx_then (cd_seq (cd_region (st_v (v_move rfl) (st_v (v_move rfl) (st_cl rfl rfl en27 rfl (TouchedS_ct hv (by omega) hn) ?_))))))))))))
    rintro u h' ⟨T4, rfl, w4, rfl, hw4, hno4⟩
    simp only [List.cons_append, List.nil_append]
    generalize okL (touchE l ns) (touched l ns) = ys at *
    obtain ⟨wa4, wcap4, rfl, _⟩ := id hno4
    refine st_alc al30 fun b10 => ?_
    refine st_stoW rfl rfl sz30 rfl rfl ?_
    refine st_nil (nx_kp [4, 5, 6, 7, 8, 9, 10] rfl (nx_then (cd_seq (cd_region (st_clr rfl rfl en15 rfl (sanityR) ?_)))))
    refine st_v (v_move rfl) (st_vg rfl rfl (v_move rfl) (st_vg rfl rfl (v_fieldAddr rfl fa47_0 rfl) (st_vg rfl rfl (v_ldy rfl ld43) ?_)))
    refine st_clrg rfl rfl rfl rfl en28 rfl (SameLinks_ct hno hno2 hxl) ?_
    rw [beq_self_eq_true]
    refine st_v (v_pick_true rfl rfl) (st_v (v_move rfl) (st_vg rfl rfl (v_move rfl) (st_vg rfl rfl (v_fieldAddr rfl fa47_1 rfl) (st_vg rfl rfl (v_ldy rfl ld26) ?_))))
    refine st_vg rfl rfl (v_eql rfl rfl) (st_v (v_pick_true rfl rfl) (st_v (v_move rfl) ?_))
    rw [beq_self_eq_true]
    refine st_vg rfl rfl (v_move rfl) (st_vg rfl rfl (v_fieldAddr rfl fa30_0 rfl) (st_vg rfl rfl (v_ldy rfl ld25) ?_))
    refine st_clrg rfl rfl rfl rfl en22 rfl (SameNames_ct hno3 hno4 hyl) ?_
    rw [beq_self_eq_true]
    refine st_v (v_pick_true rfl rfl) (st_v (v_move rfl) (st_vg rfl rfl (v_move rfl) (st_vg rfl rfl (v_fieldAddr rfl fa30_1 rfl) (st_vg rfl rfl (v_ldy rfl ld26) ?_))))
    refine st_vg rfl rfl (v_eql rfl rfl) (st_v (v_pick_true rfl rfl) (st_v (v_assign rfl) (st_nil (nx_kp [4] rfl (nx_then (cd_ret ?_))))))
    rw [beq_self_eq_true]
    refine xt_law rfl ?_
    refine Sub.sel (by repeat (first | exact Sel.here | apply Sel.there)) ?_
    repeat apply Sub.cons
    exact Sub.refl _
end
end Go.Hr
namespace Go.Ck
open Go Go.RowKit Go.ChangeShapes Go.WideShapes
theorem cells_one {v : Value} (h : v.oneCell' = true) : v.cells.toList = [v] := by
  cases v <;> first | rfl | (simp [Value.oneCell'] at h)
/-- An argument of one cell. -/
theorem arg_one {H : Type} {enc : TypeId × Value → H} {P : Program} {W : World} {ty : Ty} {t : TypeId} {v : Value} {d : DataW H} {ps : List MemPlace} {b : Nat} (hf : fitB P ty t = true)
    (hs : (match P.underlying t with | some (.struct _) | some (.array _ _) => false | some _ => true | none => false) = true) (hv : Value.okWide P W .any b t v) (h : DataW.Trod enc P W 0 (fun _ => true) true t v d ps) : ∃ y, Rep (old W) ty [v] y := by
  have := arg_rep hf h
  rwa [cells_one (okWide_one hs hv)] at this
theorem rep_kind {k : IntKind} {r : Res} {v : Value} {n : Int} (h : Rep r (.int k) [v] n) : v = .int k n ∧ (Lit.int k n).wf = true := by
  simp only [Rep] at h
  exact ⟨by simpa using h.1, h.2⟩
theorem wf_I64 {n : Int} (h : (Lit.int .i64 n).wf = true) : I64 n := by
  unfold Lit.wf at h
  simp [IntKind.min, IntKind.max, IntKind.signed, IntKind.bits] at h
  unfold I64; omega
theorem wf_u8 {n : Int} (h : (Lit.int .u8 n).wf = true) : 0 ≤ n ∧ n < 256 := by
  unfold Lit.wf at h
  simp [IntKind.min, IntKind.max, IntKind.signed, IntKind.bits] at h
  omega
/-- A slice is a row. -/
theorem row_of {α : Type} {r : Res} {t : Ty} {v : Value} (f : t.D → α) (X : List Value → α → Prop) (hX : ∀ us x, Rep r t us x → X us (f x)) {y : (Ty.slice t).D} (h : Rep r (.slice t) [v] y) : Row r t.sz X v ((show List t.D from y).map f) := by
  unfold Rep at h
  obtain ⟨a, cap, h1, hl, hm, hn, h2⟩ := h
  refine ⟨a, cap, by rw [List.length_map]; exact (List.cons.inj h1).1, by rw [List.length_map]; exact hl, hm, hn, fun i x hi => ?_⟩
  rw [List.getElem?_map] at hi
  cases hy : (show List t.D from y)[i]? with
  | none => rw [hy] at hi; cases hi
  | some z =>
    rw [hy] at hi
    obtain rfl := Option.some.inj hi
    rcases h2 with h0 | ⟨b, o, h3, h4⟩
    · rw [show (show List t.D from y) = [] from h0] at hy; simp at hy
    · obtain ⟨us, h5, h6, h7⟩ := h4 i z hy
      exact ⟨b, o, us, h3, h5, h6, hX _ _ h7⟩
theorem row_all {r : Res} {t : Ty} {v : Value} {φ : t.D → Prop} (hX : ∀ us x, Rep r t us x → φ x) {y : (Ty.slice t).D} (h : Rep r (.slice t) [v] y) : ∀ x ∈ (show List t.D from y), φ x := fun x hx => by
  unfold Rep at h
  obtain ⟨a, cap, h1, hl, hm, hn, h2⟩ := h
  obtain ⟨i, hi⟩ := List.getElem?_of_mem hx
  rcases h2 with h0 | ⟨b, o, h3, h4⟩
  · rw [show (show List t.D from y) = [] from h0] at hi; simp at hi
  · obtain ⟨us, h5, h6, h7⟩ := h4 i x hi
    exact hX _ _ h7
theorem one_cell {us : List Value} (h : us.length = 1) : ∃ u, us = [u] := by
  match us, h with
  | [u], _ => exact ⟨u, rfl⟩
end Go.Ck
namespace Go.Hr
open Go Go.RowKit Go.ChangeShapes Go.WideShapes Go.Ck
/-- The types that the parts that nobody looks at are made of. -/
def partL : List TypeId := [3, 4, 9, 25, 59, 62, 185, 186, 188, 189, 191, 192, 194, 196, 198, 201, 203]
def parTy : Ty := .struct [.str, .slice (.any 5 partL), .slice (.any 2 partL), .slice .str, .slice .str, .slice .str]
def clsTy : Ty := .struct [.str, .bool, .slice (.any 2 partL), .slice parTy, .slice .str, .slice (.any 15 partL), .slice (.any 5 partL)]
def nmOf (s : ByteArray) : Nm := s.data.toList
def parOf (x : parTy.D) : Nm := nmOf (show ByteArray from x.1)
def clsOf (x : clsTy.D) : Cls := ⟨nmOf (show ByteArray from x.1), (show List parTy.D from x.2.2.2.1).map parOf, (show List Unit from x.2.2.2.2.2.1).length⟩
def sysOf (y : (Ty.slice clsTy).D) : Sys := (show List clsTy.D from y).map clsOf
theorem slice_val {r : Res} {t : Ty} {a : Value} {y : List t.D} (h : ∃ (ad : Option Addr) (cap : Nat), [a] = [Value.slice ad (List.length y) cap] ∧ List.length y ≤ cap ∧ cap ≤ maxLen ∧ (ad = none → cap = 0) ∧
      (y = ([] : List t.D) ∨ ∃ b o, ad = some ⟨b, o, none⟩ ∧ ∀ (i : Nat) (x : t.D), @getElem? (List t.D) Nat t.D _ _ y i = some x → ∃ us : List Value, us.length = t.sz ∧ Rds r b (o + i * t.sz) us ∧ Rep r t us x)) : ∃ (ad : Option Addr) (cap : Nat), a = Value.slice ad (List.length y) cap := by
  obtain ⟨ad, cap, h1, _⟩ := h
  exact ⟨ad, cap, (List.cons.inj h1).1⟩
theorem str_val {r : Res} {us : List Value} {x : ByteArray} (h : us = [Value.string x] ∧ x.size ≤ maxLen) : us = [sv (nmOf x)] := h.1
theorem parC_of {r : Res} {us : List Value} {x : parTy.D} (h : Rep r parTy us x) : parC us (parOf x) := by
  obtain ⟨x1, x2, x3, x4, x5, x6, x7⟩ := x
  simp only [parTy, Rep, Reps] at h
  obtain ⟨u1, us1, e1, l1, r1, h⟩ := h
  obtain ⟨u2, us2, e2, l2, r2, h⟩ := h
  obtain ⟨u3, us3, e3, l3, r3, h⟩ := h
  obtain ⟨u4, us4, e4, l4, r4, h⟩ := h
  obtain ⟨u5, us5, e5, l5, r5, h⟩ := h
  obtain ⟨u6, us6, e6, l6, r6, h⟩ := h
  have r1 := r1.1
  obtain ⟨a2, c2, g2, _⟩ := r2
  obtain ⟨a3, c3, g3, _⟩ := r3
  obtain ⟨a4, c4, g4, _⟩ := r4
  obtain ⟨a5, c5, g5, _⟩ := r5
  obtain ⟨a6, c6, g6, _⟩ := r6
  subst h r1 g2 g3 g4 g5 g6 e6 e5 e4 e3 e2
  exact ⟨_, _, _, _, _, e1, rfl⟩
theorem cls_of {r : Res} {us : List Value} {x : clsTy.D} (h : Rep r clsTy us x) : clsC r us (clsOf x) := by
  obtain ⟨x1, x2, x3, x4, x5, x6, x7, x8⟩ := x
  simp only [clsTy, Rep, Reps] at h
  obtain ⟨u1, us1, e1, l1, r1, h⟩ := h
  obtain ⟨u2, us2, e2, l2, r2, h⟩ := h
  obtain ⟨u3, us3, e3, l3, r3, h⟩ := h
  obtain ⟨u4, us4, e4, l4, r4, h⟩ := h
  obtain ⟨u5, us5, e5, l5, r5, h⟩ := h
  obtain ⟨u6, us6, e6, l6, r6, h⟩ := h
  obtain ⟨u7, us7, e7, l7, r7, h⟩ := h
  obtain ⟨p4, rfl⟩ := one_cell l4
  have s4 : Rep r (.slice parTy) [p4] x4 := by simp only [Rep]; exact r4
  have r1 := r1.1
  obtain ⟨a3, c3, g3, _⟩ := r3
  obtain ⟨a4, c4, g4, _⟩ := r4
  obtain ⟨a5, c5, g5, _⟩ := r5
  obtain ⟨a6, c6, g6, _⟩ := r6
  obtain ⟨a7, c7, g7, _⟩ := r7
  have g4 := (List.cons.inj g4).1
  subst h r1 r2 g3 g4 g5 g6 g7 e7 e6 e5 e4 e3 e2
  exact ⟨_, _, _, _, _, _, _, e1, rfl, row_of parOf parC (fun _ _ h => parC_of h) s4⟩
theorem sys_of {r : Res} {v : Value} {y : (Ty.slice clsTy).D} (h : Rep r (.slice clsTy) [v] y) : sysR r v (sysOf y) := row_of clsOf (clsC r) (fun _ _ h => cls_of h) h
def nmsOf (y : (Ty.slice .str).D) : List Nm := (show List ByteArray from y).map nmOf
theorem names_of {r : Res} {v : Value} {y : (Ty.slice .str).D} (h : Rep r (.slice .str) [v] y) : nmsR r v (nmsOf y) := row_of (t := .str) nmOf strC (fun us x h => by
  simp only [Rep] at h
  exact h.1) h
theorem str_of {r : Res} {v : Value} {y : Ty.str.D} (h : Rep r .str [v] y) : v = sv (nmOf y) := by
  simp only [Rep] at h
  exact (List.cons.inj h.1).1
end Go.Hr
namespace Go.Proofs.Ytjgiaohieadeiaa
open Go Go.RowKit Go.ChangeShapes Go.WideShapes Go.Ck Go.Hr
set_option maxRecDepth 100000 in
theorem heirLinks_lifted (os : Os) (started : os.Started) (H : Type) (enc : TypeId × Value → H) :
    ReturnsInHanded {} Try.checked os 4 .any (Rows.heirLinksSpec.pre6 enc Try.prog Try.f4 Rows.heirLinksRow.domain false) (Rows.heirLinksSpec.post enc Try.prog Try.f4 false true false false) := by
  refine returnsInHanded_of_change (C := Try.checked) (show ownKnob Try.prog.godebug = none by kernel_rfl) started (by kernel_rfl) Try.func4
    (ChangeSpec.witness6 (enc := enc) (C := Try.checked) false ⟨#[], #[.slice none 0 0, .slice none 0 0], []⟩ 8 (by kernel_rfl) (by kernel_rfl) (by kernel_rfl) (by kernel_rfl)) ?_
  intro W base args ds gs before hval0 hW hcnd _
  have hval : ∀ (j : Nat) t v, Try.f4.params[j]? = some t → args[j]? = some v → Value.okWide Try.prog W .any base t v := hval0
  have hW' := hW
  obtain ⟨p, q, hA0, hV, rfl, hfz, hnd⟩ := hW
  have hA : DataW.TrodAll enc Try.prog W 0 (fun _ => true) true Try.f4.params.toList args.toList ds p := hA0
  rw [Try.params4] at hA hval
  obtain ⟨v0, vs0, d0, ds0, p0, q0, hargs, rfl, rfl, h0, r0⟩ := trodAll_cons hA
  obtain ⟨v1, vs1, d1, ds1, p1, q1, rfl, rfl, rfl, h1, r1⟩ := trodAll_cons r0
  obtain ⟨rfl, rfl, rfl⟩ := trodAll_nil r1
  obtain rfl : args = #[v0, v1] := by cases args; simp_all
  obtain ⟨rfl, rfl⟩ := trodVars_none hV
  obtain ⟨y0, e0⟩ := arg_one (ty := .slice clsTy) (by kernel_rfl) (by kernel_rfl) (hval 0 22 v0 rfl rfl) h0
  obtain ⟨y1, e1⟩ := arg_one (ty := .slice .str) (by kernel_rfl) (by kernel_rfl) (hval 1 25 v1 rfl rfl) h1
  have s0 := sys_of e0
  have s1 := names_of e1
  refine (ct_calls (heirLinks_ct s0 s1) fun v h' h => ⟨h.1, by rw [h.2]; exact .refl _⟩).mono fun e W' ⟨he, hk⟩ => ⟨_, he, ?_⟩
  exact law_post (tys := [.slice clsTy, .slice .str]) hW' rfl (by kernel_rfl) Try.underlying4 (by rw [Try.params4]; kernel_rfl) rfl hk
theorem heirLinks_holds : Rows.HeirLinksSaid :=
  OpenClaim.holds_of_wide 4 Try.f4 rfl rfl rfl rfl rfl rfl rfl ⟨rfl, rfl, rfl, rfl, rfl⟩ rfl rfl rfl rfl rfl (by kernel_rfl) Try.func4 (by kernel_rfl)
    (of_decide_eq_true (by kernel_rfl)) (by unfold Func.isWrapper; first | (rw [if_pos (by decide +kernel)]; kernel_rfl) | (rw [if_neg (by decide +kernel)]; exact ⟨rfl, rfl⟩))
    (fun os started H enc _ => heirLinks_lifted os started H enc)
end Go.Proofs.Ytjgiaohieadeiaa
