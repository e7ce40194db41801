/-
  The specification: under, Below, Touched. Conditions: what is read.
  Lists of numbers; the specification: ways, Ways. Conditions: what is read.
  The specification: all, Order. Conditions: what is read.
  Slices of slices that may be nil; the specification: put. Conditions: what is read.
  The specification: common, Least. Conditions: what is read.
  The specification: level, Levels. Conditions: what is read.
-/
import Derived.Test.YtjgiaohieadeiaaM11
import Derived.Test.YtjgiaohieadeiaaM9
import Derived.Test.YtjgiaohieadeiaaM8
set_option linter.unusedVariables false
set_option linter.unusedSimpArgs false
namespace Go.Hr
open Go Go.RowKit Go.Ck Go.Proofs Go.Proofs.Ytjgiaohieadeiaa Fx
attribute [local irreducible] Go.Ck.Sub St Cd Xt Nx DrL LsW
theorem anyA_above {l : Sys} (hR : Right l) (c : Nm) (ns : List Nm) : ((above l c).any fun x => ns.contains x) = ns.any fun a => has l c a := by
  rw [Bool.eq_iff_iff, List.any_eq_true, List.any_eq_true]
  constructor
  · rintro ⟨x, h1, h2⟩
    exact ⟨x, List.contains_iff_mem.1 h2, ((above_spec hR.acyc c).2 x).1 h1⟩
  · rintro ⟨x, h1, h2⟩
    exact ⟨x, ((above_spec hR.acyc c).2 x).2 h2, List.contains_iff_mem.2 h1⟩
theorem rightE_nil (l : Sys) : rightE l [] = (check l).1 := by
  unfold rightE
  split
  · rename_i h; rw [h]; rfl
  · rfl
def touF (l : Sys) (ns : List Nm) (i : Nat) : List Nm := ((nms l).take i).filter fun c => ns.any fun a => has l c a
theorem nms_take {l : Sys} {i : Nat} (h : i < l.length) : (nms l).take (i + 1) = (nms l).take i ++ [(l[i]).name] := by
  rw [List.take_succ_eq_append_getElem (by simpa [nms] using h)]
  simp [nms]
theorem touF_succ {l : Sys} {ns : List Nm} {i : Nat} (h : i < l.length) : touF l ns (i + 1) = touF l ns i ++ (if ns.any (fun a => has l (l[i]).name a) then [(l[i]).name] else []) := by
  unfold touF
  rw [nms_take h, List.filter_append, List.filter_cons]
  rfl
theorem touF_all (l : Sys) (ns : List Nm) : touF l ns l.length = touched l ns := by
  unfold touF touched
  rw [List.take_of_length_le (by simp [nms])]
theorem touF_len (l : Sys) (ns : List Nm) (i : Nat) : (touF l ns i).length ≤ l.length := by
  unfold touF
  have h1 := List.length_filter_le (fun c => ns.any fun a => has l c a) ((nms l).take i)
  have h2 : ((nms l).take i).length ≤ l.length := by rw [List.length_take]; simp [nms]; omega
  omega
section
variable {S N : Res} {v nv : Value} {l : Sys} {ns : List Nm}
set_option maxRecDepth 100000 in
theorem under_ct (hv : sysR S v l) (hR : Right l) (hn : nmsR S nv ns) (hnl : ns.length ≤ 1099511627776) : CtN Try.prog 77 #[v, nv] [S] fun u T => u.oneCell' = true ∧ T = NR u (touched l ns) ∧ nmsR T u (touched l ns) := by
  obtain ⟨a, cap, rfl, _⟩ := id hv
  have hFl := hR.len
  refine ct_of (n := 50) Try.func77 rfl rfl (len rfl) fun hr w0 => ?_
  refine cd_seq (cd_region (st_v (v_assign rfl) (st_nil (nx_then (cd_seq (cd_region (st_v (v_assign rfl) (st_nil (nx_then (cd_seq (cd_seq (cd_region (st_v (v_assign rfl) (st_nil (nx_then (cd_block ?_))))))))))))))))
  refine cd_vw (vw_nil 9 1) (cd_lq (σ := Value × Nat) (fun q => [(0, .slice a l.length cap), (1, nv), (5, q.1), (6, .int .i64 (q.2 : Nat))]) (fun q => VR q.1 9 1 ((touF l ns q.2).map nC) :: S :: hr) (fun q => q.1.oneCell' = true ∧ q.2 ≤ l.length) (fun q => l.length - q.2) (.slice none 0 0, 0) ⟨rfl, Nat.zero_le _⟩ ?_)
  rintro ⟨w, i⟩ ⟨hw, hi⟩
  simp only at hw hi
  dsimp only
  refine cd_seq (cd_seq (cd_region (st_v (v_move rfl) (st_v (v_move rfl) (st_v (v_len rfl Try.underlying22) (st_v (v_lss rfl rfl) (st_nil (nx_kp [0, 1, 5, 6, 14] rfl (nx_then (cd_cond rfl (fun hd => ?_) (fun hd => ?_)))))))))))
  · skip
    have hlt : i < l.length := by simpa using hd
    obtain ⟨b, o, cap2, d, f, pa, pc, c2, fa, fc, j2, hv2, hrd, hP, hone⟩ := sys_at hv (List.getElem?_eq_getElem hlt)
    have hsu := touF_succ (ns := ns) hlt
    have hfl := touF_len l ns i
    rw [← anyA_above hR] at hsu
    generalize (l[i]).name = c at *
    have hal := aboveC_len hR c
    refine cd_skip (xt_then (cd_seq (cd_block (cd_seq (cd_region (st_v (v_move rfl) (st_v (v_move rfl) (st_v (v_move rfl) (st_v (v_indexAddr (k := i) (congrArg some hv2) rfl sl22 rfl hlt rfl) (st_v (v_fieldAddr rfl fa61_0 rfl) (st_v (v_ldy rfl ld9) ?_)))))))))))
    refine st_cl rfl rfl en73 rfl (aboveT_ct hv hR c) ?_
    rintro u h' ⟨T, rfl, hu1, rfl, hu⟩
    simp only [List.cons_append, List.nil_append]
    generalize above l c = xs at *
    obtain ⟨ua, ucap, rfl, _⟩ := id hu
    refine st_v (v_assign rfl) (st_nil (nx_kp [0, 1, 5, 6, 7] rfl (nx_then (cd_seq (cd_region (st_v (v_assign rfl) (st_nil (nx_then (cd_seq (cd_seq (cd_region (st_v (v_assign rfl) (st_nil (nx_then (cd_block (cd_lq (σ := Nat) (fun k => [(0, .slice a l.length cap), (1, nv), (5, w), (6, .int .i64 (i : Nat)), (7, .slice ua xs.length ucap), (8, .bool ((xs.take k).any fun x => ns.contains x)), (9, .int .i64 (k : Nat))]) (fun _ => NR (.slice ua xs.length ucap) xs :: VR w 9 1 ((touF l ns i).map nC) :: S :: hr) (fun k => k ≤ xs.length) (fun k => xs.length - k) 0 (Nat.zero_le _) ?_))))))))))))))))
    rintro k hk
    refine cd_seq (cd_seq (cd_region (st_v (v_move rfl) (st_v (v_move rfl) (st_v (v_len rfl Try.underlying25) (st_v (v_lss rfl rfl) (st_nil (nx_kp [0, 1, 5, 6, 7, 8, 9, 27] rfl (nx_then (cd_cond rfl (fun hd2 => ?_) (fun hd2 => ?_)))))))))))
    · skip
      have hklt : k < xs.length := by simpa using hd2
      obtain ⟨ab, ao, acap2, hav2, hard⟩ := nms_at hu (List.getElem?_eq_getElem hklt)
      have htk : ((xs.take (k + 1)).any fun x => ns.contains x) = (((xs.take k).any fun x => ns.contains x) || ns.contains xs[k]) := by
        rw [List.take_succ_eq_append_getElem hklt, List.any_append]; simp
      generalize xs[k] = x at *
      refine cd_skip (xt_then (cd_seq (cd_block (cd_seq (cd_region (st_v (v_move rfl) (st_v (v_move rfl) (st_v (v_move rfl) (st_v (v_indexAddr (k := k) (congrArg some hav2) rfl sl25 rfl hklt rfl) (st_v (v_ldy rfl ld9) ?_))))))))))
      refine st_clr rfl rfl en57 rfl (Has_ct hn x hnl) ?_
      refine st_v (v_assign rfl) (st_nil (nx_kp [0, 1, 5, 6, 7, 8, 9, 10] rfl (nx_then (cd_region (st_v (v_move rfl) (st_v (v_move rfl) (st_cut (k := 4) (d := 39) (v := .bool (((xs.take k).any fun x => ns.contains x) || ns.contains x)) (fun hcut => bool_want (b := ((xs.take k).any fun x => ns.contains x)) false (fun hg => ?_) (fun hg => ?_)) ?_)))))))
      · refine st_sk rfl rfl hg ?_
        refine st_v (v_pick_true (bool_ev rfl hg) rfl) ?_
        exact hcut _ (ssub_head (by first | rfl | (rw [hg]; rfl) | simp_all) (ssub_skip rfl (ssub_refl)))
      · skip
        refine st_vg rfl (bool_get rfl hg) (v_move rfl) (st_v (v_pick_false (bool_ev rfl hg) rfl) ?_)
        exact hcut _ (ssub_head (by first | rfl | (rw [hg]; rfl) | simp_all) (ssub_skip rfl (ssub_refl)))
      rw [← htk]
      refine st_v (v_assign rfl) (st_nil (nx_kp [0, 1, 5, 6, 7, 8, 9] rfl (nx_xt (xt_normal_block (xt_then (cd_region (st_v (v_move rfl) (st_v (v_add rfl rfl (by unfold I64 at *; omega)) (st_v (v_assign rfl) (st_nil (nx_kp [0, 1, 5, 6, 7, 8, 9] rfl (nx_xt ?_))))))))))))
      refine xt_aq (k + 1) hklt (Nat.sub_lt_sub_left hklt (Nat.lt_succ_self k))
    · skip
      have hke : k = xs.length := by have : ¬ k < xs.length := by simpa using hd2
                                     omega
      subst hke
      rw [List.take_length]
      refine cd_exit (xt_exit_then (xt_exit_then (xt_exit_block (xt_then (cd_seq (cd_region (st_v (v_move rfl) (st_nil (nx_kp [0, 1, 5, 6, 40] rfl (nx_then (cd_cond rfl (fun hb => ?_) (fun hb => ?_))))))))))))
      · skip
        rw [if_pos hb] at hsu
        refine cd_region (st_v (v_move rfl) (st_v (v_move rfl) (st_v (v_move rfl) (st_v (v_indexAddr (k := i) (congrArg some hv2) rfl sl22 rfl hlt rfl) (st_v (v_fieldAddr rfl fa61_0 rfl) (st_v (v_ldy rfl ld9) ?_))))))
        refine st_buildSlice (cells := [sv c]) rfl Try.underlying25 inf9 rfl rfl (by kernel_rfl) (ltn rfl) fun b47 => ?_
        refine st_app [nC c] rfl rfl Try.underlying25 inf9 rfl (by decide) (show Sel _ (VR w 9 1 ((touF l ns i).map nC)) _ from (by repeat (first | exact Sel.here | apply Sel.there))) (by simp [nC]) rfl (fun j u2 hu2 => at_here (rd_cl (by simpa [nC] using hu2))) (by simp [nC, Value.oneCell']) (by simp; omega) (by simp; omega) (ltn rfl) fun v' hv' _ => ?_
        rw [show (touF l ns i).map nC ++ [nC c] = (touF l ns (i + 1)).map nC by rw [hsu, List.map_append]; rfl]
        refine st_v (v_assign rfl) (st_nil (nx_kp [0, 1, 5, 6] rfl (nx_xt (xt_normal_block (xt_then (cd_region (st_v (v_move rfl) (st_v (v_add rfl rfl (by unfold I64 at *; omega)) (st_v (v_assign rfl) (st_nil (nx_kp [0, 1, 5, 6] rfl (nx_xt ?_))))))))))))
        refine xt_aq (v', i + 1) ⟨hv', hlt⟩ (Nat.sub_lt_sub_left hlt (Nat.lt_succ_self i))
      · skip
        rw [if_neg (by rw [hb]; decide), List.append_nil] at hsu
        rw [← hsu]
        refine cd_skip (xt_normal_block (xt_then (cd_region (st_v (v_move rfl) (st_v (v_add rfl rfl (by unfold I64 at *; omega)) (st_v (v_assign rfl) (st_nil (nx_kp [0, 1, 5, 6] rfl (nx_xt ?_)))))))))
        refine xt_aq (w, i + 1) ⟨hw, hlt⟩ (Nat.sub_lt_sub_left hlt (Nat.lt_succ_self i))
  · skip
    have hil : i = l.length := by have : ¬ i < l.length := by simpa using hd
                                  omega
    subst hil
    rw [touF_all]
    refine cd_exit (xt_exit_then (xt_exit_then (xt_exit_block (xt_then (cd_seq (cd_region (st_v (v_move rfl) (st_v (v_assign rfl) (st_nil (nx_kp [4] rfl (nx_then (cd_ret (xt_ok (r := NR w (touched l ns)) (by repeat (first | exact Sel.here | apply Sel.there)) fun hok => ?_)))))))))))))
    exact xt_rt rfl ⟨NR w (touched l ns), rfl, hw, rfl, nms_own hok⟩ (by (repeat (refine Sub.sel (by repeat (first | exact Sel.here | apply Sel.there)) ?_)); (repeat apply Sub.cons); first | exact Sub.refl _ | exact Sub.nil _)
set_option maxRecDepth 100000 in
theorem under2_ct (hv : sysR S v l) (hR : Right l) (hn : nmsR N nv ns) (hnl : ns.length ≤ 1099511627776) : CtN Try.prog 77 #[v, nv] [S, N] fun u T => u.oneCell' = true ∧ T = NR u (touched l ns) ∧ nmsR T u (touched l ns) :=
  ctn_star (under_ct (hv.mono (rd_in Sel.here)) hR (hn.mono (rd_in (Sel.there Sel.here))) hnl)
theorem touched_one (l : Sys) (c : Nm) : touched l [c] = below l c := by unfold touched below; congr 1; funext x; simp
set_option maxRecDepth 100000 in
theorem BelowS_ct (hv : sysR S v l) (hl : l.length ≤ 1000000) (c : Nm) : CtN Try.prog 38 #[v, sv c] [S] fun u T => ∃ w, u = .agg #[w, .int .i64 (rightE l [c])] ∧ w.oneCell' = true ∧ nmsR T w (okL (rightE l [c]) (below l c)) := by
  obtain ⟨a, cap, rfl, _⟩ := id hv
  refine ct_of (n := 19) Try.func38 rfl rfl (len rfl) fun hr w0 => ?_
  refine cd_seq (cd_region (st_alc al30 fun b4 => ?_))
  refine st_nil (nx_then (cd_seq (cd_region (st_v (v_move rfl) (st_v (v_move rfl) (st_buildSlice (cells := [sv c]) rfl Try.underlying25 inf9 rfl rfl (by kernel_rfl) (ltn rfl) fun b8 => ?_))))))
  refine st_pv (pv_of (b := b8) (n := 1) (sz := 1) (E := 9) [nC c] rfl (by simp [nC]) rfl (by decide)) ?_
  simp only [List.cons_append, List.nil_append]
  refine st_ok (r := NR (.slice (some ⟨b8, 0, none⟩) 1 1) [c]) (by repeat (first | exact Sel.here | apply Sel.there)) fun hok => ?_
  refine st_clr rfl rfl en71 rfl (asked_ct hv hl (nms_own hok) (by simp)) ?_
  refine st_v (v_assign rfl) (st_nil (nx_kp [0, 1, 4, 5] rfl (nx_then (cd_seq (cd_seq (cd_region (st_v (v_move rfl) (st_v (v_neq rfl rfl) (st_nil (nx_kp [0, 1, 4, 5, 11] rfl (nx_then (cd_cond rfl (fun he => ?_) (fun he => ?_)))))))))))))
  · skip
    have he : ¬ rightE l [c] = 0 := by simpa using he
    rw [okL_ne he]
    refine cd_seq (cd_region (st_v (v_move rfl) (st_v (v_build (cells := [.slice none 0 0, .int .i64 (rightE l [c])]) rfl (fun _ => by kernel_rfl)) ?_)))
    refine st_stoW rfl rfl sz30 rfl rfl ?_
    refine st_nil (nx_kp [4] rfl (nx_then (cd_ret (xt_ret_then (xt_vw (vw_unstar (L := [])) ?_)))))
    exact xt_retV (.cellN rfl ld30 rfl (by repeat (first | exact Sel.here | apply Sel.there)) .nil) ⟨Res.star [], rfl, _, rfl, rfl, Row.nil⟩ (by repeat (first | exact Sub.refl _ | exact Sub.nil _ | refine Sub.sel (by repeat (first | exact Sel.here | apply Sel.there)) ?_ | apply Sub.cons))
  · skip
    have he : rightE l [c] = 0 := by simpa using he
    obtain ⟨hR, hm⟩ := rightE_zero.1 he
    rw [he, okL_eq rfl, ← touched_one]
    refine cd_skip (xt_then (cd_seq (cd_region (st_v (v_move rfl) (st_v (v_move rfl) (st_buildSlice (cells := [sv c]) rfl Try.underlying25 inf9 rfl rfl (by kernel_rfl) (ltn rfl) fun b16 => ?_))))))
    refine st_pv (pv_of (b := b16) (n := 1) (sz := 1) (E := 9) [nC c] rfl (by simp [nC]) rfl (by decide)) ?_
    simp only [List.cons_append, List.nil_append]
    refine st_ok (r := NR (.slice (some ⟨b16, 0, none⟩) 1 1) [c]) (by repeat (first | exact Sel.here | apply Sel.there)) fun hok2 => ?_
    refine st_cl rfl rfl en77 rfl (under2_ct hv hR (nms_own hok2) (by simp)) ?_
    rintro u h' ⟨T, rfl, hu1, rfl, hu⟩
    simp only [List.cons_append, List.nil_append]
    obtain ⟨ua, ucap, rfl, _⟩ := id hu
    refine st_v (v_build (cells := [.slice ua (touched l [c]).length ucap, .int .i64 0]) rfl (fun _ => by kernel_rfl)) ?_
    refine st_stoW rfl rfl sz30 rfl rfl ?_
    refine st_nil (nx_kp [4] rfl (nx_then (cd_ret ?_)))
    exact xt_retV (.cellN rfl ld30 rfl (by repeat (first | exact Sel.here | apply Sel.there)) .nil) ⟨_, rfl, _, rfl, rfl, hu⟩ (by repeat (first | exact Sub.refl _ | exact Sub.nil _ | refine Sub.sel (by repeat (first | exact Sel.here | apply Sel.there)) ?_ | apply Sub.cons))
set_option maxRecDepth 100000 in
theorem TouchedS_ct (hv : sysR S v l) (hl : l.length ≤ 1000000) (hn : nmsR S nv ns) : CtN Try.prog 27 #[v, nv] [S] fun u T => ∃ w, u = .agg #[w, .int .i64 (touchE l ns)] ∧ w.oneCell' = true ∧ nmsR T w (okL (touchE l ns) (touched l ns)) := by
  obtain ⟨a, cap, rfl, _⟩ := id hv
  obtain ⟨na, ncap, rfl, _⟩ := id hn
  refine ct_of (n := 22) Try.func27 rfl rfl (len rfl) fun hr w0 => ?_
  refine cd_seq (cd_region (st_alc al30 fun b4 => ?_))
  refine st_nil (nx_then (cd_seq (cd_seq (cd_region (st_v (v_move rfl) (st_v (v_len rfl Try.underlying25) (st_v (v_gtr rfl rfl) (st_nil (nx_kp [0, 1, 4, 8] rfl (nx_then (cd_cond rfl (fun h48 => ?_) (fun h48 => ?_))))))))))))
  · skip
    have h48 : 48 < ns.length := by have : (48 : Int) < ns.length := by simpa using h48
                                    omega
    rw [show touchE l ns = 3 by unfold touchE; rw [if_pos h48], okL_ne (by decide)]
    refine cd_seq (cd_region (st_v (v_build (cells := [.slice none 0 0, .int .i64 3]) rfl (fun _ => by kernel_rfl)) ?_))
    refine st_stoW rfl rfl sz30 rfl rfl ?_
    refine st_nil (nx_kp [4] rfl (nx_then (cd_ret (xt_ret_then (xt_vw (vw_unstar (L := [])) ?_)))))
    exact xt_retV (.cellN rfl ld30 rfl (by repeat (first | exact Sel.here | apply Sel.there)) .nil) ⟨Res.star [], rfl, _, rfl, rfl, Row.nil⟩ (by repeat (first | exact Sub.refl _ | exact Sub.nil _ | refine Sub.sel (by repeat (first | exact Sel.here | apply Sel.there)) ?_ | apply Sub.cons))
  · skip
    have h48 : ¬ 48 < ns.length := by have : ¬ (48 : Int) < ns.length := by simpa using h48
                                      omega
    have hte : touchE l ns = (check l).1 := by unfold touchE; rw [if_neg h48, rightE_nil]
    rw [hte]
    refine cd_skip (xt_then (cd_seq (cd_region (st_v (v_move rfl) (st_cl rfl rfl en56 rfl (CheckS_ct hv hl) ?_)))))
    rintro u h' ⟨n, rfl, rfl⟩
    simp only [List.cons_append, List.nil_append]
    refine st_alc al106 fun b5 => ?_
    refine st_stoW rfl rfl sz106 rfl rfl ?_
    refine st_nil (nx_kp [0, 1, 4, 5] rfl (nx_then (cd_seq (cd_seq (cd_region (st_v (v_fieldAddr rfl fa106_0 rfl) (st_v (v_ldy rfl ld26) ?_)))))))
    refine st_v (v_neq rfl rfl) (st_nil (nx_kp [0, 1, 4, 5, 14] rfl (nx_then (cd_cond rfl (fun he => ?_) (fun he => ?_)))))
    · skip
      have he : ¬ (check l).1 = 0 := by simpa using he
      rw [okL_ne he]
      refine cd_seq (cd_region (st_v (v_fieldAddr rfl fa106_0 rfl) (st_v (v_ldy rfl ld26) ?_)))
      refine st_v (v_build (cells := [.slice none 0 0, .int .i64 (check l).1]) rfl (fun _ => by kernel_rfl)) ?_
      refine st_stoW rfl rfl sz30 rfl rfl ?_
      refine st_nil (nx_kp [4] rfl (nx_then (cd_ret (xt_ret_then (xt_vw (vw_unstar (L := [])) ?_)))))
      exact xt_retV (.cellN rfl ld30 rfl (by repeat (first | exact Sel.here | apply Sel.there)) .nil) ⟨Res.star [], rfl, _, rfl, rfl, Row.nil⟩ (by repeat (first | exact Sub.refl _ | exact Sub.nil _ | refine Sub.sel (by repeat (first | exact Sel.here | apply Sel.there)) ?_ | apply Sub.cons))
    · skip
      have he : (check l).1 = 0 := by simpa using he
      have hR := check_zero.1 he
      rw [he, okL_eq rfl]
      refine cd_skip (xt_then (cd_seq (cd_region (st_v (v_move rfl) (st_v (v_move rfl) (st_cl rfl rfl en77 rfl (under_ct hv hR hn (by omega)) ?_))))))
      rintro u h' ⟨T, rfl, hu1, rfl, hu⟩
      simp only [List.cons_append, List.nil_append]
      obtain ⟨ua, ucap, rfl, _⟩ := id hu
      refine st_v (v_build (cells := [.slice ua (touched l ns).length ucap, .int .i64 0]) rfl (fun _ => by kernel_rfl)) ?_
      refine st_stoW rfl rfl sz30 rfl rfl ?_
      refine st_nil (nx_kp [4] rfl (nx_then (cd_ret ?_)))
      exact xt_retV (.cellN rfl ld30 rfl (by repeat (first | exact Sel.here | apply Sel.there)) .nil) ⟨_, rfl, _, rfl, rfl, hu⟩ (by repeat (first | exact Sub.refl _ | exact Sub.nil _ | refine Sub.sel (by repeat (first | exact Sel.here | apply Sel.there)) ?_ | apply Sub.cons))
end
end Go.Hr
namespace Go.Hr
open Go Go.RowKit Go.Ck Go.Proofs Go.Proofs.Ytjgiaohieadeiaa Fx
attribute [local irreducible] Go.Ck.Sub St Cd Xt Nx DrL LsW
def iC (n : Nat) : List Value := [.int .i64 n]
def IR (v : Value) (xs : List Nat) : Res := VR v 3 1 (xs.map iC)
def intsR (S : Res) (v : Value) (xs : List Nat) : Prop := Row S 1 (fun us n => us = iC n) v xs
theorem ints_own {v : Value} {xs : List Nat} (hok : ∃ f, (IR v xs).ok f) : intsR (IR v xs) v xs :=
  row_vr hok (by simp) (fun _ _ h => h) fun i us x h1 h2 => by
    rw [List.getElem?_map, h2] at h1
    simp only [Option.map_some, Option.some.injEq] at h1
    exact h1.symm
theorem ints_at {S : Res} {v : Value} {xs : List Nat} (h : intsR S v xs) {i : Nat} {x : Nat} (hi : xs[i]? = some x) : ∃ b o cap, v = .slice (some ⟨b, o, none⟩) xs.length cap ∧ Rd S ⟨b, o + i * 1, none⟩ (.int .i64 x) := by
  obtain ⟨b, o, cap, u, h1, h2, h3⟩ := Row.at1 h hi
  unfold iC at h3
  simp only [List.cons.injEq, and_true] at h3
  subst h3
  exact ⟨b, o, cap, h1, h2⟩
theorem sel_perm {l : Sys} (hR : Right l) {o : List Nm} (hT : Tp l o) {i : Nat} (hi : i < o.length) : ((o.take i).filter fun x => (par l o[i]).contains x).Perm (par l o[i]) := by
  obtain ⟨h1, h2⟩ := tp_at hR.acyc hT hi
  refine (List.perm_ext_iff_of_nodup ((List.Sublist.nodup (List.take_sublist i o) hT.nodup).filter _) (hR.par_nodup _)).2 fun x => ?_
  rw [List.mem_filter, List.contains_iff_mem]
  exact ⟨fun h => h.2, fun h => ⟨h2 x h, h⟩⟩
def sumI (l : Sys) (a : Nm) (o ps : List Nm) (k : Nat) : Nat := (((o.take k).filter fun x => ps.contains x).map fun x => ways l x a).sum
theorem sumI_succ {l : Sys} {a : Nm} {o ps : List Nm} {k : Nat} (h : k < o.length) : sumI l a o ps (k + 1) = sumI l a o ps k + (if ps.contains o[k] then ways l o[k] a else 0) := by
  unfold sumI
  rw [List.take_succ_eq_append_getElem h, List.filter_append, List.map_append, List.sum_append, List.filter_cons]
  congr 1
  split <;> simp
theorem sumI_le {l : Sys} (hR : Right l) (a : Nm) (o ps : List Nm) (k : Nat) : sumI l a o ps k ≤ k * 4 ^ 24 := by
  refine Nat.le_trans (sum_le (k := 4 ^ 24) fun x _ => ways_24 hR x a) (Nat.mul_le_mul_right _ ?_)
  exact Nat.le_trans (List.length_filter_le _ _) (by rw [List.length_take]; omega)
theorem sumI_all {l : Sys} (hR : Right l) (a : Nm) {o : List Nm} (hT : Tp l o) {i : Nat} (hi : i < o.length) : ways l o[i] a = (if o[i] = a then 1 else 0) + sumI l a o (par l o[i]) i := by
  rw [ways_rec hR.acyc]
  congr 1
  exact (((sel_perm hR hT hi).map fun p => ways l p a).sum_nat).symm
section
variable {S N : Res} {v nv : Value} {l : Sys} {ns : List Nm}
set_option maxHeartbeats 1000000 in
set_option maxRecDepth 100000 in
theorem waysS_ct (hv : sysR S v l) (hR : Right l) (c a : Nm) : Reads Try.prog 79 #[v, sv c, sv a] [S] (.int .i64 (ways l c a)) := by
  obtain ⟨la, cap, rfl, _⟩ := id hv
  have hFl := hR.len
  refine ct_of (n := 63) Try.func79 rfl rfl (len rfl) fun hr w0 => ?_
  refine cd_seq (cd_region (st_v (v_assign rfl) (st_nil (nx_then (cd_seq (cd_region (st_v (v_move rfl) (st_v (v_move rfl) (st_cl rfl rfl en73 rfl (aboveT_ct hv hR c) ?_)))))))))
  rintro u h' ⟨T, rfl, hu1, rfl, hu⟩
  simp only [List.cons_append, List.nil_append]
  obtain ⟨hT, _⟩ := above_spec hR.acyc c
  have hal := aboveC_len hR c
  obtain ⟨o1, ho1⟩ := above_last hR.acyc c
  generalize above l c = o at *
  obtain ⟨ua, ucap, rfl, _⟩ := id hu
  refine st_v (v_assign rfl) (st_nil (nx_kp [0, 2, 6, 7] rfl (nx_then (cd_seq (cd_region (st_v (v_assign rfl) (st_nil (nx_then (cd_seq (cd_seq (cd_region (st_v (v_assign rfl) (st_nil (nx_then (cd_block (cd_vw (vw_nil 3 1) (cd_lq (σ := Value × Nat) (fun q => [(0, .slice la l.length cap), (2, sv a), (7, .slice ua o.length ucap), (8, q.1), (9, .int .i64 (q.2 : Nat))]) (fun q => IR q.1 ((o.take q.2).map fun x => ways l x a) :: NR (.slice ua o.length ucap) o :: S :: hr) (fun q => q.1.oneCell' = true ∧ q.2 ≤ o.length) (fun q => o.length - q.2) (.slice none 0 0, 0) ⟨rfl, Nat.zero_le _⟩ ?_)))))))))))))))))
  rintro ⟨mv, i⟩ ⟨hmv, hi⟩
  simp only at hmv hi
  dsimp only
  refine cd_seq (cd_seq (cd_region (st_v (v_move rfl) (st_v (v_move rfl) (st_v (v_len rfl Try.underlying25) (st_v (v_lss rfl rfl) (st_nil (nx_kp [0, 2, 7, 8, 9, 20] rfl (nx_then (cd_cond rfl (fun hd => ?_) (fun hd => ?_)))))))))))
  · skip
    have hlt : i < o.length := by simpa using hd
    obtain ⟨xb, xo, xcap, hxv, hxrd⟩ := nms_at hu (List.getElem?_eq_getElem hlt)
    have hws := sumI_all hR a hT hlt
    have htk : (o.take (i + 1)).map (fun x => ways l x a) = (o.take i).map (fun x => ways l x a) ++ [ways l o[i] a] := by rw [List.take_succ_eq_append_getElem hlt, List.map_append]; rfl
    have hpf := hR.par_few o[i]
    have hml : ((o.take i).map fun x => ways l x a).length = i := by simp; omega
    refine cd_ok (r := IR mv ((o.take i).map fun x => ways l x a)) (by repeat (first | exact Sel.here | apply Sel.there)) fun hokm => ?_
    have hmr := ints_own hokm
    generalize hz : o[i] = z at *
    refine cd_skip (xt_then (cd_seq (cd_block (cd_seq (cd_region (st_v (v_assign rfl) (st_nil (nx_kp [0, 2, 7, 8, 9, 10] rfl (nx_then (cd_seq (cd_seq (cd_region (st_v (v_move rfl) (st_v (v_move rfl) (st_v (v_indexAddr (k := i) (congrArg some hxv) rfl sl25 rfl hlt rfl) ?_)))))))))))))))
    refine st_v (v_ldy rfl ld9) ?_
    refine st_v (v_move rfl) (st_v (v_seql rfl rfl) (st_nil (nx_kp [0, 2, 7, 8, 9, 10, 28] rfl (nx_then (cd_cond rfl (fun he => ?_) (fun he => ?_))))))
    · skip
      have he : z = a := by simpa using he
      rw [if_pos he] at hws
      refine cd_region (st_v (v_assign rfl) (st_nil (nx_kp [0, 2, 7, 8, 9, 10] rfl (nx_then (cd_seq (cd_region (st_v (v_move rfl) (st_v (v_move rfl) (st_v (v_move rfl) (st_v (v_indexAddr (k := i) (congrArg some hxv) rfl sl25 rfl hlt rfl) (st_v (v_ldy rfl ld9) ?_)))))))))))
      refine st_cl rfl rfl en59 rfl (parents_ct hv z (by omega) hR.sel) ?_
      rintro u h' ⟨T, rfl, hp1, rfl, hpn⟩
      simp only [List.cons_append, List.nil_append]
      rw [hR.pars_eq] at *
      generalize par l z = ps at *
      refine st_v (v_assign rfl) (st_nil (nx_kp [0, 2, 7, 8, 9, 10, 11] rfl (nx_then (cd_seq (cd_seq (cd_region (st_v (v_assign rfl) (st_nil (nx_then (cd_block (cd_lq (σ := Nat) (fun k => [(0, .slice la l.length cap), (2, sv a), (7, .slice ua o.length ucap), (8, mv), (9, .int .i64 (i : Nat)), (10, .int .i64 ((1 : Nat) + (sumI l a o ps k : Nat))), (11, u), (12, .int .i64 (k : Nat))]) (fun _ => NR u ps :: IR mv ((o.take i).map fun x => ways l x a) :: NR (.slice ua o.length ucap) o :: S :: hr) (fun k => k ≤ i) (fun k => i - k) 0 (Nat.zero_le _) ?_)))))))))))
      rintro k hk
      refine cd_seq (cd_seq (cd_region (st_v (v_move rfl) (st_v (v_move rfl) (st_v (v_lss rfl rfl) (st_nil (nx_kp [0, 2, 7, 8, 9, 10, 11, 12, 37] rfl (nx_then (cd_cond rfl (fun hd2 => ?_) (fun hd2 => ?_))))))))))
      · skip
        have hki : k < i := by simpa using hd2
        have hko : k < o.length := by omega
        obtain ⟨yb, yo, ycap, hyv, hyrd⟩ := nms_at hu (List.getElem?_eq_getElem hko)
        have hsu := sumI_succ (l := l) (a := a) (ps := ps) hko
        have hsl := sumI_le hR a o ps k
        have hmg : ((o.take i).map fun x => ways l x a)[k]? = some (ways l o[k] a) := by
          rw [List.getElem?_map, List.getElem?_take, if_pos hki, List.getElem?_eq_getElem hko]; rfl
        obtain ⟨mb, mo, mcap, hmv2, hmrd⟩ := ints_at hmr hmg
        have hwl := ways_24 hR o[k] a
        have hkb : k * 4 ^ 24 ≤ 25 * 4 ^ 24 := Nat.mul_le_mul_right _ (by omega)
        rw [show (4 : Nat) ^ 24 = 281474976710656 by decide] at hwl hkb hsl
        generalize o[k] = y at *
        generalize ways l y a = wy at *
        refine cd_skip (xt_then (cd_seq (cd_block (cd_seq (cd_region (st_v (v_move rfl) (st_v (v_move rfl) (st_v (v_move rfl) (st_v (v_indexAddr (k := k) (congrArg some hyv) rfl sl25 rfl hko rfl) (st_v (v_ldy rfl ld9) ?_))))))))))
        refine st_clr rfl rfl en57 rfl (Has_ct hpn y (by omega)) ?_
        refine st_v (v_assign rfl) (st_nil (nx_kp [0, 2, 7, 8, 9, 10, 11, 12, 13] rfl (nx_then (cd_seq (cd_region (st_v (v_move rfl) (st_nil (nx_kp [0, 2, 7, 8, 9, 10, 11, 12, 46] rfl (nx_then (cd_cond rfl (fun hx => ?_) (fun hx => ?_)))))))))))
        · skip
          rw [hx, if_pos rfl] at hsu
          refine cd_region (st_v (v_move rfl) (st_v (v_move rfl) (st_v (v_move rfl) (st_v (v_indexAddr (k := k) (congrArg some hmv2) rfl sl137 rfl (by omega) rfl) (st_v (v_ldy rfl ld3) ?_)))))
          refine st_v (v_add rfl rfl (by unfold I64 at *; omega)) (st_v (v_assign rfl) (st_nil (nx_kp [0, 2, 7, 8, 9, 10, 11, 12] rfl (nx_xt (xt_normal_block (xt_then (cd_region (st_v (v_move rfl) (st_v (v_add rfl rfl (by unfold I64 at *; omega)) (st_v (v_assign rfl) (st_nil (nx_kp [0, 2, 7, 8, 9, 10, 11, 12] rfl (nx_xt ?_)))))))))))))
          rw [show ((1 : Nat) : Int) + (sumI l a o ps k : Nat) + (wy : Nat) = ((1 : Nat) : Int) + (sumI l a o ps (k + 1) : Nat) by rw [hsu]; omega]
          refine xt_aq (k + 1) hki (Nat.sub_lt_sub_left hki (Nat.lt_succ_self k))
        · skip
          have hsu : sumI l a o ps (k + 1) = sumI l a o ps k := by rw [hsu, hx]; simp
          rw [← hsu]
          refine cd_skip (xt_normal_block (xt_then (cd_region (st_v (v_move rfl) (st_v (v_add rfl rfl (by unfold I64 at *; omega)) (st_v (v_assign rfl) (st_nil (nx_kp [0, 2, 7, 8, 9, 10, 11, 12] rfl (nx_xt ?_)))))))))
          refine xt_aq (k + 1) hki (Nat.sub_lt_sub_left hki (Nat.lt_succ_self k))
      · skip
        have hke : k = i := by have : ¬ k < i := by simpa using hd2
                               omega
        subst hke
        rw [show ((1 : Nat) : Int) + (sumI l a o ps k : Nat) = (ways l z a : Nat) by rw [hws]; omega]
        refine cd_exit (xt_exit_then (xt_exit_then (xt_exit_block (xt_then (cd_region (st_v (v_move rfl) (st_v (v_move rfl) (st_buildSlice (cells := iC (ways l z a)) rfl Try.underlying137 inf3 rfl rfl (by kernel_rfl) (ltn rfl) fun b55 => ?_))))))))
        refine st_app [iC (ways l z a)] rfl rfl Try.underlying137 inf3 rfl (by decide) (show Sel _ (IR mv ((o.take k).map fun x => ways l x a)) _ from (by repeat (first | exact Sel.here | apply Sel.there))) (by simp [iC]) rfl (fun j u2 hu2 => at_here (rd_cl (by simpa [iC] using hu2))) (by simp [iC, Value.oneCell']) (by simp <;> omega) (by simp <;> omega) (ltn rfl) fun v' hv' _ => ?_
        rw [show ((o.take k).map fun x => ways l x a).map iC ++ [iC (ways l z a)] = ((o.take (k + 1)).map fun x => ways l x a).map iC by rw [htk, List.map_append]; rfl]
        refine st_v (v_assign rfl) (st_nil (nx_kp [0, 2, 7, 8, 9] rfl (nx_xt (xt_normal_block (xt_then (cd_region (st_v (v_move rfl) (st_v (v_add rfl rfl (by unfold I64 at *; omega)) (st_v (v_assign rfl) (st_nil (nx_kp [0, 2, 7, 8, 9] rfl (nx_xt ?_))))))))))))
        refine xt_aq (v', k + 1) ⟨hv', hlt⟩ (Nat.sub_lt_sub_left hlt (Nat.lt_succ_self k))
    · skip
      have he : z ≠ a := by simpa using he
      rw [if_neg he] at hws
      refine cd_skip (xt_then (cd_seq (cd_region (st_v (v_move rfl) (st_v (v_move rfl) (st_v (v_move rfl) (st_v (v_indexAddr (k := i) (congrArg some hxv) rfl sl25 rfl hlt rfl) (st_v (v_ldy rfl ld9) ?_))))))))
      refine st_cl rfl rfl en59 rfl (parents_ct hv z (by omega) hR.sel) ?_
      rintro u h' ⟨T, rfl, hp1, rfl, hpn⟩
      simp only [List.cons_append, List.nil_append]
      rw [hR.pars_eq] at *
      generalize par l z = ps at *
      refine st_v (v_assign rfl) (st_nil (nx_kp [0, 2, 7, 8, 9, 10, 11] rfl (nx_then (cd_seq (cd_seq (cd_region (st_v (v_assign rfl) (st_nil (nx_then (cd_block (cd_lq (σ := Nat) (fun k => [(0, .slice la l.length cap), (2, sv a), (7, .slice ua o.length ucap), (8, mv), (9, .int .i64 (i : Nat)), (10, .int .i64 ((0 : Nat) + (sumI l a o ps k : Nat))), (11, u), (12, .int .i64 (k : Nat))]) (fun _ => NR u ps :: IR mv ((o.take i).map fun x => ways l x a) :: NR (.slice ua o.length ucap) o :: S :: hr) (fun k => k ≤ i) (fun k => i - k) 0 (Nat.zero_le _) ?_)))))))))))
      rintro k hk
      refine cd_seq (cd_seq (cd_region (st_v (v_move rfl) (st_v (v_move rfl) (st_v (v_lss rfl rfl) (st_nil (nx_kp [0, 2, 7, 8, 9, 10, 11, 12, 37] rfl (nx_then (cd_cond rfl (fun hd2 => ?_) (fun hd2 => ?_))))))))))
      · skip
        have hki : k < i := by simpa using hd2
        have hko : k < o.length := by omega
        obtain ⟨yb, yo, ycap, hyv, hyrd⟩ := nms_at hu (List.getElem?_eq_getElem hko)
        have hsu := sumI_succ (l := l) (a := a) (ps := ps) hko
        have hsl := sumI_le hR a o ps k
        have hmg : ((o.take i).map fun x => ways l x a)[k]? = some (ways l o[k] a) := by
          rw [List.getElem?_map, List.getElem?_take, if_pos hki, List.getElem?_eq_getElem hko]; rfl
        obtain ⟨mb, mo, mcap, hmv2, hmrd⟩ := ints_at hmr hmg
        have hwl := ways_24 hR o[k] a
        have hkb : k * 4 ^ 24 ≤ 25 * 4 ^ 24 := Nat.mul_le_mul_right _ (by omega)
        rw [show (4 : Nat) ^ 24 = 281474976710656 by decide] at hwl hkb hsl
        generalize o[k] = y at *
        generalize ways l y a = wy at *
        refine cd_skip (xt_then (cd_seq (cd_block (cd_seq (cd_region (st_v (v_move rfl) (st_v (v_move rfl) (st_v (v_move rfl) (st_v (v_indexAddr (k := k) (congrArg some hyv) rfl sl25 rfl hko rfl) (st_v (v_ldy rfl ld9) ?_))))))))))
        refine st_clr rfl rfl en57 rfl (Has_ct hpn y (by omega)) ?_
        refine st_v (v_assign rfl) (st_nil (nx_kp [0, 2, 7, 8, 9, 10, 11, 12, 13] rfl (nx_then (cd_seq (cd_region (st_v (v_move rfl) (st_nil (nx_kp [0, 2, 7, 8, 9, 10, 11, 12, 46] rfl (nx_then (cd_cond rfl (fun hx => ?_) (fun hx => ?_)))))))))))
        · skip
          rw [hx, if_pos rfl] at hsu
          refine cd_region (st_v (v_move rfl) (st_v (v_move rfl) (st_v (v_move rfl) (st_v (v_indexAddr (k := k) (congrArg some hmv2) rfl sl137 rfl (by omega) rfl) (st_v (v_ldy rfl ld3) ?_)))))
          refine st_v (v_add rfl rfl (by unfold I64 at *; omega)) (st_v (v_assign rfl) (st_nil (nx_kp [0, 2, 7, 8, 9, 10, 11, 12] rfl (nx_xt (xt_normal_block (xt_then (cd_region (st_v (v_move rfl) (st_v (v_add rfl rfl (by unfold I64 at *; omega)) (st_v (v_assign rfl) (st_nil (nx_kp [0, 2, 7, 8, 9, 10, 11, 12] rfl (nx_xt ?_)))))))))))))
          rw [show ((0 : Nat) : Int) + (sumI l a o ps k : Nat) + (wy : Nat) = ((0 : Nat) : Int) + (sumI l a o ps (k + 1) : Nat) by rw [hsu]; omega]
          refine xt_aq (k + 1) hki (Nat.sub_lt_sub_left hki (Nat.lt_succ_self k))
        · skip
          have hsu : sumI l a o ps (k + 1) = sumI l a o ps k := by rw [hsu, hx]; simp
          rw [← hsu]
          refine cd_skip (xt_normal_block (xt_then (cd_region (st_v (v_move rfl) (st_v (v_add rfl rfl (by unfold I64 at *; omega)) (st_v (v_assign rfl) (st_nil (nx_kp [0, 2, 7, 8, 9, 10, 11, 12] rfl (nx_xt ?_)))))))))
          refine xt_aq (k + 1) hki (Nat.sub_lt_sub_left hki (Nat.lt_succ_self k))
      · skip
        have hke : k = i := by have : ¬ k < i := by simpa using hd2
                               omega
        subst hke
        rw [show ((0 : Nat) : Int) + (sumI l a o ps k : Nat) = (ways l z a : Nat) by rw [hws]; omega]
        refine cd_exit (xt_exit_then (xt_exit_then (xt_exit_block (xt_then (cd_region (st_v (v_move rfl) (st_v (v_move rfl) (st_buildSlice (cells := iC (ways l z a)) rfl Try.underlying137 inf3 rfl rfl (by kernel_rfl) (ltn rfl) fun b55 => ?_))))))))
        refine st_app [iC (ways l z a)] rfl rfl Try.underlying137 inf3 rfl (by decide) (show Sel _ (IR mv ((o.take k).map fun x => ways l x a)) _ from (by repeat (first | exact Sel.here | apply Sel.there))) (by simp [iC]) rfl (fun j u2 hu2 => at_here (rd_cl (by simpa [iC] using hu2))) (by simp [iC, Value.oneCell']) (by simp <;> omega) (by simp <;> omega) (ltn rfl) fun v' hv' _ => ?_
        rw [show ((o.take k).map fun x => ways l x a).map iC ++ [iC (ways l z a)] = ((o.take (k + 1)).map fun x => ways l x a).map iC by rw [htk, List.map_append]; rfl]
        refine st_v (v_assign rfl) (st_nil (nx_kp [0, 2, 7, 8, 9] rfl (nx_xt (xt_normal_block (xt_then (cd_region (st_v (v_move rfl) (st_v (v_add rfl rfl (by unfold I64 at *; omega)) (st_v (v_assign rfl) (st_nil (nx_kp [0, 2, 7, 8, 9] rfl (nx_xt ?_))))))))))))
        refine xt_aq (v', k + 1) ⟨hv', hlt⟩ (Nat.sub_lt_sub_left hlt (Nat.lt_succ_self k))
  · skip
    have hil : i = o.length := by have : ¬ i < o.length := by simpa using hd
                                  omega
    subst hil
    rw [List.take_length]
    have hlast : (o.map fun x => ways l x a)[o1.length]? = some (ways l c a) := by rw [ho1]; simp
    have hol : o.length = o1.length + 1 := by rw [ho1]; simp
    refine cd_ok (r := IR mv (o.map fun x => ways l x a)) (by repeat (first | exact Sel.here | apply Sel.there)) fun hokm => ?_
    have hmr := ints_own hokm
    obtain ⟨mb, mo, mcap, hmv2, hmrd⟩ := ints_at hmr hlast
    rw [List.length_map] at hmv2
    subst hmv2
    refine cd_exit (xt_exit_then (xt_exit_then (xt_exit_block (xt_then (cd_seq (cd_region (st_v (v_move rfl) (st_v (v_move rfl) (st_v (v_len rfl Try.underlying137) (st_v (v_sub rfl rfl (by unfold I64 at *; omega)) (st_v (v_indexAddr (k := o1.length) rfl rfl sl137 (by omega) (by omega) rfl) (st_v (v_ldy rfl ld3) ?_))))))))))))
    refine st_v (v_assign rfl) (st_nil (nx_kp [6] rfl (nx_then (cd_ret ?_))))
    exact xt_rt rfl ⟨rfl, rfl⟩ (by (repeat (refine Sub.sel (by repeat (first | exact Sel.here | apply Sel.there)) ?_)); (repeat apply Sub.cons); first | exact Sub.refl _ | exact Sub.nil _)
set_option maxRecDepth 100000 in
theorem WaysS_ct (hv : sysR S v l) (hl : l.length ≤ 1000000) (c x : Nm) : Reads Try.prog 41 #[v, sv c, sv x] [S] (.agg #[.int .i64 (if rightE l [c, x] = 0 then (ways l c x : Int) else 0), .int .i64 (rightE l [c, x])]) := by
  obtain ⟨a, cap, rfl, _⟩ := id hv
  refine ct_of (n := 22) Try.func41 rfl rfl (len rfl) fun hr w0 => ?_
  refine cd_seq (cd_region (st_alc al82 fun b6 => ?_))
  refine st_nil (nx_then (cd_seq (cd_region (st_v (v_move rfl) (st_v (v_move rfl) (st_v (v_move rfl) (st_buildSlice (cells := [sv c, sv x]) rfl Try.underlying25 inf9 rfl rfl (by kernel_rfl) (ltn rfl) fun b11 => ?_)))))))
  refine st_pv (pv_of (b := b11) (n := 2) (sz := 1) (E := 9) [nC c, nC x] rfl (by simp [nC]) rfl (by decide)) ?_
  simp only [List.cons_append, List.nil_append]
  refine st_ok (r := NR (.slice (some ⟨b11, 0, none⟩) 2 2) [c, x]) (by repeat (first | exact Sel.here | apply Sel.there)) fun hok => ?_
  refine st_clr rfl rfl en71 rfl (asked_ct hv hl (nms_own hok) (by simp)) ?_
  refine st_v (v_assign rfl) (st_nil (nx_kp [0, 1, 2, 6, 7] rfl (nx_then (cd_seq (cd_seq (cd_region (st_v (v_move rfl) (st_v (v_neq rfl rfl) (st_nil (nx_kp [0, 1, 2, 6, 7, 14] rfl (nx_then (cd_cond rfl (fun he => ?_) (fun he => ?_)))))))))))))
  · skip
    have he : ¬ rightE l [c, x] = 0 := by simpa using he
    rw [if_neg he]
    refine cd_seq (cd_region (st_v (v_move rfl) (st_v (v_build (cells := [.int .i64 0, .int .i64 (rightE l [c, x])]) rfl (fun _ => by kernel_rfl)) ?_)))
    refine st_stoW rfl rfl sz82 rfl rfl ?_
    refine st_nil (nx_kp [6] rfl (nx_then (cd_ret (xt_ret_then ?_))))
    exact xt_retV (.cellN rfl ld82 rfl (by repeat (first | exact Sel.here | apply Sel.there)) .nil) ⟨rfl, rfl⟩ (by repeat (first | exact Sub.refl _ | exact Sub.nil _ | refine Sub.sel (by repeat (first | exact Sel.here | apply Sel.there)) ?_ | apply Sub.cons))
  · skip
    have he : rightE l [c, x] = 0 := by simpa using he
    obtain ⟨hR, hm⟩ := rightE_zero.1 he
    rw [if_pos he, he]
    refine cd_skip (xt_then (cd_seq (cd_region (st_v (v_move rfl) (st_v (v_move rfl) (st_v (v_move rfl) (st_cl rfl rfl en79 rfl (waysS_ct hv hR c x) ?_)))))))
    rintro u h' ⟨rfl, rfl⟩
    simp only [List.cons_append, List.nil_append]
    refine st_v (v_build (cells := [.int .i64 (ways l c x), .int .i64 0]) rfl (fun _ => by kernel_rfl)) ?_
    refine st_stoW rfl rfl sz82 rfl rfl ?_
    refine st_nil (nx_kp [6] rfl (nx_then (cd_ret ?_)))
    exact xt_retV (.cellN rfl ld82 rfl (by repeat (first | exact Sel.here | apply Sel.there)) .nil) ⟨rfl, rfl⟩ (by repeat (first | exact Sub.refl _ | exact Sub.nil _ | refine Sub.sel (by repeat (first | exact Sel.here | apply Sel.there)) ?_ | apply Sub.cons))
end
end Go.Hr
namespace Go.Hr
open Go Go.RowKit Go.Ck Go.Proofs Go.Proofs.Ytjgiaohieadeiaa Fx
attribute [local irreducible] Go.Ck.Sub St Cd Xt Nx DrL LsW
def opnT (l : Sys) (o : List Nm) (i : Nat) : List Nm := ((nms l).take i).filter (opn l o)
theorem opnT_succ {l : Sys} {o : List Nm} {i : Nat} (h : i < l.length) : opnT l o (i + 1) = opnT l o i ++ (if opn l o (l[i]).name then [(l[i]).name] else []) := by
  unfold opnT
  rw [nms_take h, List.filter_append, List.filter_cons]
  rfl
theorem opnT_all (l : Sys) (o : List Nm) : opnT l o l.length = (nms l).filter (opn l o) := by
  unfold opnT
  rw [List.take_of_length_le (by simp [nms])]
/-- The best so far. -/
def Bst (xs : List Nm) (b : Nm) : Prop := (xs = [] ∧ b = []) ∨ (b ∈ xs ∧ ∀ y ∈ xs, lt y b = false)
theorem Bst.yes {xs : List Nm} {b x : Nm} (h : Bst xs b) (hne : ∀ y ∈ xs, y ≠ []) (hc : (b == [] || lt x b) = true) : Bst (xs ++ [x]) x := by
  refine .inr ⟨by simp, fun y hy => ?_⟩
  rcases List.mem_append.1 hy with hy | hy
  · rcases h with ⟨h1, _⟩ | ⟨h1, h2⟩
    · rw [h1] at hy; cases hy
    · rcases Bool.or_eq_true_iff.1 hc with h3 | h3
      · exact absurd (by simpa using h3) (hne b h1)
      · cases h4 : lt y x with
        | false => rfl
        | true => have := lt_trans h4 h3; rw [h2 y hy] at this; cases this
  · simp at hy; rw [hy]; exact lt_irrefl x
theorem Bst.no {xs : List Nm} {b x : Nm} (h : Bst xs b) (hc : (b == [] || lt x b) = false) : Bst (xs ++ [x]) b := by
  obtain ⟨h3, h4⟩ := Bool.or_eq_false_iff.1 hc
  rcases h with ⟨_, h1⟩ | ⟨h1, h2⟩
  · rw [h1] at h3; simp at h3
  · refine .inr ⟨by simp [h1], fun y hy => ?_⟩
    rcases List.mem_append.1 hy with hy | hy
    · exact h2 y hy
    · simp at hy; rw [hy]; exact h4
theorem Bst.eq {xs : List Nm} {b : Nm} (h : Bst xs b) (hne : xs ≠ []) : b = minN xs := by
  rcases h with ⟨h1, _⟩ | ⟨h1, h2⟩
  · exact absurd h1 hne
  · exact (minN_uniq h1 h2).symm
theorem Right.ne {l : Sys} (hR : Right l) {x : Nm} (h : x ∈ nms l) : x ≠ [] := by
  obtain ⟨c, hc, rfl⟩ := List.mem_map.1 h
  intro e
  have := hR.nam c hc
  rw [e] at this
  exact absurd this (by decide)
section
variable {S N A B : Res} {v nv w w' : Value} {l : Sys} {ns o ps : List Nm}
set_option maxRecDepth 100000 in
theorem all_ct (ho : nmsR A w o) (hp : nmsR B w' ps) (hol : o.length ≤ 1099511627776) (hpl : ps.length ≤ 1099511627776) : Reads Try.prog 58 #[w, w'] [A, B] (.bool (ps.all o.contains)) := by
  obtain ⟨oa, ocap, rfl, _⟩ := id ho
  obtain ⟨pa, pcap, rfl, _⟩ := id hp
  refine ct_of (n := 21) Try.func58 rfl rfl (len rfl) fun hr w0 => ?_
  refine cd_seq (cd_region (st_v (v_assign rfl) (st_nil (nx_then (cd_seq (cd_seq (cd_region (st_v (v_assign rfl) (st_nil (nx_then (cd_block (cd_lq (σ := Nat) (fun i => [(0, .slice oa o.length ocap), (1, .slice pa ps.length pcap), (5, .int .i64 (i : Nat))]) (fun _ => A :: B :: hr) (fun i => i ≤ ps.length ∧ ∀ x ∈ ps.take i, o.contains x = true) (fun i => ps.length - i) 0 ⟨Nat.zero_le _, fun x hx => by simp at hx⟩ ?_))))))))))))
  rintro i ⟨hi, hal⟩
  refine cd_seq (cd_seq (cd_region (st_v (v_move rfl) (st_v (v_move rfl) (st_v (v_len rfl Try.underlying25) (st_v (v_lss rfl rfl) (st_nil (nx_kp [0, 1, 5, 10] rfl (nx_then (cd_cond rfl (fun hd => ?_) (fun hd => ?_)))))))))))
  · skip
    have hlt : i < ps.length := by simpa using hd
    obtain ⟨b, o2, cap2, hv2, hrd⟩ := nms_at hp (List.getElem?_eq_getElem hlt)
    refine cd_skip (xt_then (cd_seq (cd_block (cd_seq (cd_region (st_v (v_move rfl) (st_v (v_move rfl) (st_v (v_move rfl) (st_v (v_indexAddr (k := i) (congrArg some hv2) rfl sl25 rfl hlt rfl) (st_v (v_ldy rfl ld9) ?_))))))))))
    refine st_clr rfl rfl en57 rfl (Has_ct ho ps[i] hol) ?_
    refine st_v (v_assign rfl) (st_nil (nx_kp [0, 1, 5, 6] rfl (nx_then (cd_seq (cd_region (st_v (v_move rfl) (st_v (v_not rfl) (st_nil (nx_kp [0, 1, 5, 20] rfl (nx_then (cd_cond rfl (fun hx => ?_) (fun hx => ?_))))))))))))
    · skip
      have hx : o.contains ps[i] = false := by simpa using hx
      rw [show ps.all o.contains = false from List.all_eq_false.2 ⟨_, List.getElem_mem hlt, by rw [hx]; decide⟩]
      refine cd_seq (cd_region (st_v (v_assign rfl) (st_nil (nx_kp [4] rfl (nx_then (cd_ret (xt_ret_block (xt_ret_then (xt_ret_then (xt_ret_block (xt_ret_then ?_)))))))))))
      exact xt_rt rfl ⟨rfl, rfl⟩ (by (repeat (refine Sub.sel (by repeat (first | exact Sel.here | apply Sel.there)) ?_)); (repeat apply Sub.cons); first | exact Sub.refl _ | exact Sub.nil _)
    · skip
      have hx : o.contains ps[i] = true := by simpa using hx
      refine cd_skip (xt_normal_block (xt_then (cd_region (st_v (v_move rfl) (st_v (v_add rfl rfl (by unfold I64 at *; omega)) (st_v (v_assign rfl) (st_nil (nx_kp [0, 1, 5] rfl (nx_xt ?_)))))))))
      refine xt_aq (i + 1) ⟨hlt, all_take hlt hal hx⟩ (Nat.sub_lt_sub_left hlt (Nat.lt_succ_self i))
  · skip
    have hil : i = ps.length := by have : ¬ i < ps.length := by simpa using hd
                                   omega
    subst hil
    rw [List.take_length] at hal
    rw [show ps.all o.contains = true from List.all_eq_true.2 hal]
    refine cd_exit (xt_exit_then (xt_exit_then (xt_exit_block (xt_then (cd_seq (cd_region (st_v (v_assign rfl) (st_nil (nx_kp [4] rfl (nx_then (cd_ret ?_)))))))))))
    exact xt_rt rfl ⟨rfl, rfl⟩ (by (repeat (refine Sub.sel (by repeat (first | exact Sel.here | apply Sel.there)) ?_)); (repeat apply Sub.cons); first | exact Sub.refl _ | exact Sub.nil _)
set_option maxHeartbeats 1000000 in
set_option maxRecDepth 100000 in
theorem OrderS_ct (hv : sysR S v l) (hl : l.length ≤ 1000000) : CtN Try.prog 17 #[v] [S] fun u T => ∃ w, u = .agg #[w, .int .i64 (rightE l [])] ∧ w.oneCell' = true ∧ nmsR T w (okL (rightE l []) (order l)) := by
  obtain ⟨a, cap, rfl, _⟩ := id hv
  rw [rightE_nil]
  refine ct_of (n := 75) Try.func17 rfl rfl (len rfl) fun hr w0 => ?_
  refine cd_seq (cd_region (st_alc al30 fun b2 => ?_))
  refine st_nil (nx_then (cd_seq (cd_region (st_v (v_move rfl) (st_cl rfl rfl en56 rfl (CheckS_ct hv hl) ?_)))))
  rintro u h' ⟨n, rfl, rfl⟩
  simp only [List.cons_append, List.nil_append]
  refine st_alc al106 fun b3 => ?_
  refine st_stoW rfl rfl sz106 rfl rfl ?_
  refine st_nil (nx_kp [0, 2, 3] rfl (nx_then (cd_seq (cd_seq (cd_region (st_v (v_fieldAddr rfl fa106_0 rfl) (st_v (v_ldy rfl ld26) ?_)))))))
  refine st_v (v_neq rfl rfl) (st_nil (nx_kp [0, 2, 3, 14] rfl (nx_then (cd_cond rfl (fun he => ?_) (fun he => ?_)))))
  · skip
    have he : ¬ (check l).1 = 0 := by simpa using he
    rw [okL_ne he]
    refine cd_seq (cd_region (st_v (v_fieldAddr rfl fa106_0 rfl) (st_v (v_ldy rfl ld26) ?_)))
    refine st_v (v_build (cells := [.slice none 0 0, .int .i64 (check l).1]) rfl (fun _ => by kernel_rfl)) ?_
    refine st_stoW rfl rfl sz30 rfl rfl ?_
    refine st_nil (nx_kp [2] rfl (nx_then (cd_ret (xt_ret_then (xt_vw (vw_unstar (L := [])) ?_)))))
    exact xt_retV (.cellN rfl ld30 rfl (by repeat (first | exact Sel.here | apply Sel.there)) .nil) ⟨Res.star [], rfl, _, rfl, rfl, Row.nil⟩ (by repeat (first | exact Sub.refl _ | exact Sub.nil _ | refine Sub.sel (by repeat (first | exact Sel.here | apply Sel.there)) ?_ | apply Sub.cons))
  · skip
    have he : (check l).1 = 0 := by simpa using he
    have hR := check_zero.1 he
    have hFl := hR.len
    rw [he, okL_eq rfl]
    refine cd_skip (xt_then (cd_seq (cd_region (st_v (v_assign rfl) (st_nil (nx_kp [0, 2, 4] rfl (nx_then (cd_seq (cd_seq (cd_region (st_v (v_assign rfl) (st_nil (nx_then (cd_block (cd_vw (vw_nil 9 1) (cd_lq (σ := Value × Nat) (fun q => [(0, .slice a l.length cap), (2, .pointer (some ⟨b2, 0, none⟩)), (4, q.1), (5, .int .i64 (q.2 : Nat))]) (fun q => NR q.1 (ordN l q.2) :: pt b2 (cl [.slice none 0 0, .int .i64 0] 30) :: S :: hr) (fun q => q.1.oneCell' = true ∧ q.2 ≤ l.length) (fun q => l.length - q.2) (.slice none 0 0, 0) ⟨rfl, Nat.zero_le _⟩ ?_))))))))))))))))
    rintro ⟨w, i⟩ ⟨hw, hi⟩
    simp only at hw hi
    dsimp only
    refine cd_seq (cd_seq (cd_region (st_v (v_move rfl) (st_v (v_move rfl) (st_v (v_len rfl Try.underlying22) (st_v (v_lss rfl rfl) (st_nil (nx_kp [0, 2, 4, 5, 21] rfl (nx_then (cd_cond rfl (fun hd => ?_) (fun hd => ?_)))))))))))
    · skip
      have hlt : i < l.length := by simpa using hd
      have hsome := ordN_some hR.acyc hR.uniq hlt
      have hlen := ordN_len l i
      have hsu : ordN l (i + 1) = ordN l i ++ [minN ((nms l).filter (opn l (ordN l i)))] := rfl
      generalize ordN l i = o at *
      refine cd_ok (r := NR w o) (by repeat (first | exact Sel.here | apply Sel.there)) fun hok => ?_
      have hno := nms_own hok
      refine cd_skip (xt_then (cd_seq (cd_block (cd_seq (cd_region (st_v (v_assign rfl) (st_nil (nx_kp [0, 2, 4, 5, 6] rfl (nx_then (cd_seq (cd_seq (cd_region (st_v (v_assign rfl) (st_nil (nx_then (cd_block ?_))))))))))))))))
      refine cd_lq (σ := Nm × Nat) (fun q => [(0, .slice a l.length cap), (2, .pointer (some ⟨b2, 0, none⟩)), (4, w), (5, .int .i64 (i : Nat)), (6, sv q.1), (7, .int .i64 (q.2 : Nat))]) (fun _ => NR w o :: pt b2 (cl [.slice none 0 0, .int .i64 0] 30) :: S :: hr) (fun q => q.2 ≤ l.length ∧ Bst (opnT l o q.2) q.1) (fun q => l.length - q.2) ([], 0) ⟨Nat.zero_le _, .inl ⟨by simp [opnT], rfl⟩⟩ ?_
      rintro ⟨bn, k⟩ ⟨hk, hb⟩
      simp only at hk hb
      dsimp only
      refine cd_seq (cd_seq (cd_region (st_v (v_move rfl) (st_v (v_move rfl) (st_v (v_len rfl Try.underlying22) (st_v (v_lss rfl rfl) (st_nil (nx_kp [0, 2, 4, 5, 6, 7, 27] rfl (nx_then (cd_cond rfl (fun hd2 => ?_) (fun hd2 => ?_)))))))))))
      · skip
        have hklt : k < l.length := by simpa using hd2
        obtain ⟨b, o3, cap2, d, f, pa, pc, c2, fa, fc, j2, hv2, hrd, hP, hone⟩ := sys_at hv (List.getElem?_eq_getElem hklt)
        have hsu2 := opnT_succ (o := o) hklt
        have hne : ∀ y ∈ opnT l o k, y ≠ [] := fun y hy => hR.ne (List.mem_of_mem_take (List.mem_filter.1 hy).1)
        generalize hcn : (l[k]).name = c at *
        have hpf := hR.par_few c
        have hop : opn l o c = ((!o.contains c) && (par l c).all o.contains) := rfl
        refine cd_skip (xt_then (cd_seq (cd_block (cd_seq (cd_region (st_v (v_move rfl) (st_v (v_move rfl) (st_v (v_move rfl) (st_v (v_indexAddr (k := k) (congrArg some hv2) rfl sl22 rfl hklt rfl) (st_v (v_fieldAddr rfl fa61_0 rfl) (st_v (v_ldy rfl ld9) ?_)))))))))))
        refine st_clr rfl rfl en57 rfl (Has_ct hno c (by omega)) ?_
        refine st_v (v_assign rfl) (st_nil (nx_kp [0, 2, 4, 5, 6, 7, 8] rfl (nx_then (cd_seq (cd_region (st_v (v_move rfl) (st_v (v_move rfl) (st_v (v_move rfl) (st_v (v_move rfl) (st_v (v_indexAddr (k := k) (congrArg some hv2) rfl sl22 rfl hklt rfl) (st_v (v_fieldAddr rfl fa61_0 rfl) (st_v (v_ldy rfl ld9) ?_))))))))))))
        refine st_cl rfl rfl en59 rfl (parents_ct hv c (by omega) hR.sel) ?_
        rintro u h' ⟨T, rfl, hu1, rfl, hpn⟩
        simp only [List.cons_append, List.nil_append]
        rw [hR.pars_eq] at *
        refine st_clr rfl rfl en58 rfl (all_ct hno hpn (by omega) (by omega)) ?_
        refine st_v (v_assign rfl) (st_nil (nx_kp [0, 2, 4, 5, 6, 7, 8, 9] rfl (nx_then (cd_seq (cd_region (st_v (v_move rfl) (st_v (v_not rfl) (st_v (v_move rfl) (st_cut (k := 5) (d := 50) (v := .bool ((!o.contains c) && (par l c).all o.contains)) (fun hcut => bool_want (b := (!o.contains c)) true (fun hg => ?_) (fun hg => ?_)) ?_)))))))))
        · refine st_sk rfl rfl hg ?_
          refine st_v (v_pick_false (bool_ev rfl hg) rfl) ?_
          exact hcut _ (ssub_head (by first | rfl | (rw [hg]; rfl) | simp_all) (ssub_skip rfl (ssub_refl)))
        · skip
          refine st_vg rfl (bool_get rfl hg) (v_move rfl) (st_v (v_pick_true (bool_ev rfl hg) rfl) ?_)
          exact hcut _ (ssub_head (by first | rfl | (rw [hg]; rfl) | simp_all) (ssub_skip rfl (ssub_refl)))
        rw [← hop]
        refine st_v (v_move rfl) (st_cut (k := 18) (d := 63) (v := .bool (opn l o c && (bn == [] || lt c bn))) (fun hcut => bool_want (b := (opn l o c)) true (fun hg => ?_) (fun hg => ?_)) ?_)
        · refine st_sk rfl rfl hg ?_
          refine st_sk rfl rfl hg ?_
          refine st_sk rfl rfl hg ?_
          refine st_sku rfl rfl ?_
          refine st_sku rfl rfl ?_
          refine st_sku rfl rfl ?_
          refine st_sku rfl rfl ?_
          refine st_sku rfl rfl ?_
          refine st_sku rfl rfl ?_
          refine st_sku rfl rfl ?_
          refine st_sk rfl rfl hg ?_
          refine st_v (v_pick_false (bool_ev rfl hg) rfl) ?_
          exact hcut _ (ssub_head (by first | rfl | (rw [hg]; rfl) | simp_all) (ssub_skip rfl (ssub_skip rfl (ssub_skip rfl (ssub_skip rfl (ssub_skip rfl (ssub_skip rfl (ssub_skip rfl (ssub_skip rfl (ssub_skip rfl (ssub_skip rfl (ssub_skip rfl (ssub_refl)))))))))))))
        · skip
          refine st_vg rfl (bool_get rfl hg) (v_move rfl) (st_vg rfl (bool_get rfl hg) (v_seql rfl rfl) (st_vg rfl (bool_get rfl hg) (v_move rfl) (st_cut (k := 17) (d := 62) (v := .bool (bn == [] || lt c bn)) (fun hcut => bool_want (b := (bn == [])) false (fun hg1 => ?_) (fun hg1 => ?_)) ?_)))
          · refine st_sk rfl rfl hg1 ?_
            refine st_sk rfl rfl hg1 ?_
            refine st_sk rfl rfl hg1 ?_
            refine st_sk rfl rfl hg1 ?_
            refine st_sk rfl rfl hg1 ?_
            refine st_sk rfl rfl hg1 ?_
            refine st_sk rfl rfl hg1 ?_
            refine st_vg rfl (bool_get rfl hg) (v_pick_true (bool_ev rfl hg1) rfl) ?_
            exact hcut _ (ssub_head (by first | rfl | (rw [hg1]; rfl) | simp_all) (ssub_skip rfl (ssub_skip rfl (ssub_skip rfl (ssub_skip rfl (ssub_skip rfl (ssub_skip rfl (ssub_skip rfl (ssub_refl)))))))))
          · skip
            refine st_vg rfl (bool_get rfl hg1) (v_move rfl) (st_vg rfl (bool_get rfl hg1) (v_move rfl) (st_vg rfl (bool_get rfl hg1) (v_indexAddr (k := k) (congrArg some hv2) rfl sl22 rfl hklt rfl) (st_vg rfl (bool_get rfl hg1) (v_fieldAddr rfl fa61_0 rfl) (st_vg rfl (bool_get rfl hg1) (v_ldy rfl ld9) ?_))))
            refine st_vg rfl (bool_get rfl hg1) (v_move rfl) (st_vg rfl (bool_get rfl hg1) (v_slss rfl rfl) (st_vg rfl (bool_get rfl hg) (v_pick_false (bool_ev rfl hg1) rfl) ?_))
            exact hcut _ (ssub_head (by first | rfl | (rw [hg1]; rfl) | simp_all) (ssub_skip rfl (ssub_skip rfl (ssub_skip rfl (ssub_skip rfl (ssub_skip rfl (ssub_skip rfl (ssub_skip rfl (ssub_refl)))))))))
          refine st_v (v_pick_true (bool_ev rfl hg) rfl) ?_
          exact hcut _ (ssub_head (by first | rfl | (rw [hg]; rfl) | simp_all) (by repeat (first | exact ssub_refl | refine ssub_skip rfl ?_)))
        refine st_nil (nx_kp [0, 2, 4, 5, 6, 7, 63] rfl (nx_then (cd_cond rfl (fun hc => ?_) (fun hc => ?_))))
        · skip
          obtain ⟨hc1, hc2⟩ := Bool.and_eq_true_iff.1 hc
          rw [if_pos hc1] at hsu2
          refine cd_region (st_v (v_move rfl) (st_v (v_move rfl) (st_v (v_indexAddr (k := k) (congrArg some hv2) rfl sl22 rfl hklt rfl) (st_v (v_fieldAddr rfl fa61_0 rfl) (st_v (v_ldy rfl ld9) ?_)))))
          refine st_v (v_assign rfl) (st_nil (nx_kp [0, 2, 4, 5, 6, 7] rfl (nx_xt (xt_normal_block (xt_then (cd_region (st_v (v_move rfl) (st_v (v_add rfl rfl (by unfold I64 at *; omega)) (st_v (v_assign rfl) (st_nil (nx_kp [0, 2, 4, 5, 6, 7] rfl (nx_xt ?_))))))))))))
          refine xt_aq (c, k + 1) ⟨hklt, by show Bst (opnT l o (k + 1)) c; rw [hsu2]; exact hb.yes hne hc2⟩ (Nat.sub_lt_sub_left hklt (Nat.lt_succ_self k))
        · skip
          have hb2 : Bst (opnT l o (k + 1)) bn := by
            rw [hsu2]
            cases ho : opn l o c with
            | false => rw [if_neg (by decide), List.append_nil]; exact hb
            | true =>
              rw [ho, Bool.true_and] at hc
              rw [if_pos rfl]; exact hb.no hc
          refine cd_skip (xt_normal_block (xt_then (cd_region (st_v (v_move rfl) (st_v (v_add rfl rfl (by unfold I64 at *; omega)) (st_v (v_assign rfl) (st_nil (nx_kp [0, 2, 4, 5, 6, 7] rfl (nx_xt ?_)))))))))
          refine xt_aq (bn, k + 1) ⟨hklt, hb2⟩ (Nat.sub_lt_sub_left hklt (Nat.lt_succ_self k))
      · skip
        have hke : k = l.length := by have : ¬ k < l.length := by simpa using hd2
                                      omega
        subst hke
        rw [opnT_all] at hb
        have hbe := hb.eq hsome
        rw [← hbe] at hsu
        refine cd_exit (xt_exit_then (xt_exit_then (xt_exit_block (xt_then (cd_region (st_v (v_move rfl) (st_v (v_move rfl) (st_buildSlice (cells := [sv bn]) rfl Try.underlying25 inf9 rfl rfl (by kernel_rfl) (ltn rfl) fun b71 => ?_))))))))
        refine st_app [nC bn] rfl rfl Try.underlying25 inf9 rfl (by decide) (show Sel _ (NR w o) _ from (by repeat (first | exact Sel.here | apply Sel.there))) (by simp [nC]) rfl (fun j u2 hu2 => at_here (rd_cl (by simpa [nC] using hu2))) (by simp [nC, Value.oneCell']) (by simp; omega) (by simp; omega) (ltn rfl) fun v' hv' _ => ?_
        rw [show o.map nC ++ [nC bn] = (ordN l (i + 1)).map nC by rw [hsu, List.map_append]; rfl]
        refine st_v (v_assign rfl) (st_nil (nx_kp [0, 2, 4, 5] rfl (nx_xt (xt_normal_block (xt_then (cd_region (st_v (v_move rfl) (st_v (v_add rfl rfl (by unfold I64 at *; omega)) (st_v (v_assign rfl) (st_nil (nx_kp [0, 2, 4, 5] rfl (nx_xt ?_))))))))))))
        refine xt_aq (v', i + 1) ⟨hv', hlt⟩ (Nat.sub_lt_sub_left hlt (Nat.lt_succ_self i))
    · skip
      have hil : i = l.length := by have : ¬ i < l.length := by simpa using hd
                                    omega
      subst hil
      rw [show ordN l l.length = order l from rfl]
      refine cd_ok (r := NR w (order l)) (by repeat (first | exact Sel.here | apply Sel.there)) fun hok => ?_
      have hkl := nms_own hok
      obtain ⟨wa, wcap, rfl, _⟩ := id hkl
      refine cd_exit (xt_exit_then (xt_exit_then (xt_exit_block (xt_then (cd_seq (cd_region (st_v (v_move rfl) (st_v (v_build (cells := [.slice wa (order l).length wcap, .int .i64 0]) rfl (fun _ => by kernel_rfl)) ?_))))))))
      refine st_stoW rfl rfl sz30 rfl rfl ?_
      refine st_nil (nx_kp [2] rfl (nx_then (cd_ret ?_)))
      exact xt_retV (.cellN rfl ld30 rfl (by repeat (first | exact Sel.here | apply Sel.there)) .nil) ⟨_, rfl, _, rfl, rfl, hkl⟩ (by repeat (first | exact Sub.refl _ | exact Sub.nil _ | refine Sub.sel (by repeat (first | exact Sel.here | apply Sel.there)) ?_ | apply Sub.cons))
end
end Go.Hr
namespace Go.Ck
open Go Go.RowKit
section
variable {P : Program} {e : Env} {h : SH} {ty : TypeId}
theorem v_sliceHeadA {T E : TypeId} {x y : Operand} {a : Option Addr} {n cp hi sz : Nat} {i : Int} {k : IntKind} (hx : e.ev? x = some (.slice a n cp)) (hy : e.ev? y = some (.int k i)) (hT : SlE P T E sz)
    (hi' : i = (hi : Int)) (h1 : hi ≤ cp) : Vop P e h (.slice T x none (some y) none) ty (.slice a hi cp) :=
  ⟨by simp, by simp, fun ρ w d pos after g hρ _ => by
    subst hi'
    have hT' : P.underlying T = some (.slice (P.elem T)) := by simp [Program.elem, hT.1]
    have he : P.elem T = E := by simp [Program.elem, hT.1]
    have hr := run_slice_h (P := P) w T a n cp hT' k hi (by omega) (by omega)
    have hs : sliced a 0 hi cp sz = .slice a hi cp := by
      unfold sliced; by_cases hcl : cp = 0 <;> cases a <;> simp [hcl, Addr.add]
    simp only [he, hT.2 w, Result.andThen_ok, Int.toNat_natCast, Int.toNat_zero, hs] at hr
    simp only [execOp, hρ x _ hx, Option.map_some, Option.map_none, hρ y _ hy, Sem.run_bind, run_sliceAt_slice w T _ _ _ _ hT', hr, Result.andThen_ok, Sem.run_pure]⟩
def tlA (a : Option Addr) (lo cp sz : Nat) : Option Addr := if cp = lo then a else a.map fun p => p.add (lo * sz)
theorem v_sliceTailA {T E : TypeId} {x y : Operand} {a : Option Addr} {n cp lo sz : Nat} {i : Int} {k : IntKind} (hx : e.ev? x = some (.slice a n cp)) (hy : e.ev? y = some (.int k i)) (hT : SlE P T E sz)
    (hi' : i = (lo : Int)) (h1 : lo ≤ n) (hc : n ≤ cp) : Vop P e h (.slice T x (some y) none none) ty (.slice (tlA a lo cp sz) (n - lo) (cp - lo)) :=
  ⟨by simp, by simp, fun ρ w d pos after g hρ _ => by
    subst hi'
    have hT' : P.underlying T = some (.slice (P.elem T)) := by simp [Program.elem, hT.1]
    have he : P.elem T = E := by simp [Program.elem, hT.1]
    have hr := run_slice_l (P := P) w T a n cp hT' k lo (by omega) (by omega)
    have hs : sliced a lo n cp sz = .slice (tlA a lo cp sz) (n - lo) (cp - lo) := by
      unfold sliced tlA; by_cases hcl : cp = lo <;> simp [hcl]
    simp only [he, hT.2 w, Result.andThen_ok, Int.toNat_natCast, hs] at hr
    simp only [execOp, hρ x _ hx, Option.map_some, Option.map_none, hρ y _ hy, Sem.run_bind, run_sliceAt_slice w T _ _ _ _ hT', hr, Result.andThen_ok, Sem.run_pure]⟩
theorem Row.dropA {α : Type} {S : Res} {sz : Nat} {X : List Value → α → Prop} {a : Option Addr} {n cp k : Nat} {l : List α} (h : Row S sz X (.slice a n cp) l) (hk : k ≤ l.length) : Row S sz X (.slice (tlA a k cp sz) (n - k) (cp - k)) (l.drop k) := by
  obtain ⟨a', cap, he, h2, h3, h4, h5⟩ := h
  cases he
  refine ⟨_, _, by rw [List.length_drop], by rw [List.length_drop]; omega, by omega, fun hn => ?_, fun i x hi => ?_⟩
  · unfold tlA at hn
    split at hn
    · omega
    · have ha : a = none := by cases a with | none => rfl | some p => simp at hn
      have := h4 ha
      omega
  · rw [List.getElem?_drop] at hi
    have hlt := (List.getElem?_eq_some_iff.1 hi).1
    obtain ⟨b2, o2, us, e, h6, h7, h8⟩ := h5 (k + i) x hi
    subst e
    refine ⟨b2, o2 + k * sz, us, ?_, h6, ?_, h8⟩
    · unfold tlA
      rw [if_neg (by omega)]; simp [Addr.add_lit]
    · rw [Nat.add_assoc, ← Nat.add_mul]; exact h7
end
end Go.Ck
namespace Go.Hr
open Go Go.RowKit Go.Ck Go.Proofs Go.Proofs.Ytjgiaohieadeiaa Fx
attribute [local irreducible] Go.Ck.Sub St Cd Xt Nx DrL LsW
theorem put_skip {x : Nm} : ∀ {o : List Nm} {i : Nat}, (∀ y ∈ o.take i, lt y x = true) → put o x = o.take i ++ put (o.drop i) x
  | [], i, _ => by simp
  | y :: t, 0, _ => by simp
  | y :: t, i + 1, h => by
    have hy := h y (by simp)
    rw [List.take_succ_cons, List.drop_succ_cons, List.cons_append, ← put_skip (o := t) (i := i) fun z hz => h z (by simp [hz])]
    rw [put]
    simp [hy, lt_asymm hy, lt_irrefl]
    try (intro e; subst e; rw [lt_irrefl] at hy; cases hy)
theorem put_len {x : Nm} : ∀ {o : List Nm}, (put o x).length ≤ o.length + 1
  | [] => by simp [put]
  | y :: t => by
    rw [put]
    have := put_len (x := x) (o := t)
    split
    · simp only [List.length_cons]; omega
    · split <;> simp <;> omega
theorem put_at {o : List Nm} {i : Nat} {x : Nm} (hi : i ≤ o.length) (hal : ∀ y ∈ o.take i, lt y x = true) (hn : i < o.length → lt (o.getD i []) x = false) : (i < o.length ∧ o.getD i [] = x → put o x = o) ∧ (¬ (i < o.length ∧ o.getD i [] = x) → put o x = o.take i ++ x :: o.drop i) := by
  have hsk := put_skip hal
  rcases Nat.lt_or_ge i o.length with hlt | hge
  · have hn := hn hlt
    have hdr := (List.getElem_cons_drop hlt).symm
    have hge : o.getD i [] = o[i] := by simp [hlt]
    rw [hge] at hn ⊢
    rw [hdr, put, if_neg (by rw [hn]; decide)] at hsk
    constructor
    · rintro ⟨_, he⟩
      rw [if_pos he, ← hdr, List.take_append_drop] at hsk
      exact hsk
    · intro he
      rw [if_neg fun e => he ⟨hlt, e⟩, ← hdr] at hsk
      exact hsk
  · rw [List.drop_of_length_le hge, put] at hsk
    exact ⟨fun h => by omega, fun _ => by rw [List.drop_of_length_le hge]; exact hsk⟩
section
variable {A : Res} {w : Value} {o : List Nm}
set_option maxRecDepth 100000 in
theorem put_ct (ho : nmsR A w o) (hol : o.length ≤ 1000000000) (x : Nm) : Ct Try.prog 63 #[w, sv x] [A] fun u h' => ∃ T, h' = [T] ∧ u.oneCell' = true ∧ nmsR T u (put o x) := by
  obtain ⟨oa, ocap, rfl, hoc, _⟩ := id ho
  refine ct_of (n := 45) Try.func63 rfl rfl (len rfl) fun hr w0 => ?_
  refine cd_seq (cd_region (st_v (v_assign rfl) (st_nil (nx_then (cd_seq (cd_region (st_v (v_assign rfl) (st_nil (nx_then (cd_seq (cd_block (cd_lq (σ := Nat) (fun i => [(0, .slice oa o.length ocap), (1, sv x), (5, .int .i64 (i : Nat))]) (fun _ => A :: hr) (fun i => i ≤ o.length ∧ ∀ y ∈ o.take i, lt y x = true) (fun i => o.length - i) 0 ⟨Nat.zero_le _, fun y hy => by simp at hy⟩ ?_))))))))))))
  rintro i ⟨hi, hal⟩
  refine cd_seq (cd_seq (cd_region (st_v (v_move rfl) (st_v (v_move rfl) (st_v (v_len rfl Try.underlying25) (st_v (v_lss rfl rfl) (st_v (v_move rfl) (st_cut (k := 12) (d := 17) (v := .bool (decide ((i : Int) < o.length) && lt (o.getD i []) x)) (fun hcut => bool_want (b := decide ((i : Int) < o.length)) true (fun hg => ?_) (fun hg => ?_)) ?_))))))))
  · refine st_sk rfl rfl hg ?_
    refine st_sk rfl rfl hg ?_
    refine st_sk rfl rfl hg ?_
    refine st_sk rfl rfl hg ?_
    refine st_sk rfl rfl hg ?_
    refine st_sk rfl rfl hg ?_
    refine st_v (v_pick_false (bool_ev rfl hg) rfl) ?_
    exact hcut _ (ssub_head (by first | rfl | (rw [hg]; rfl) | simp_all) (ssub_skip rfl (ssub_skip rfl (ssub_skip rfl (ssub_skip rfl (ssub_skip rfl (ssub_skip rfl (ssub_refl))))))))
  · skip
    have hlt : i < o.length := by have := of_decide_eq_true hg; omega
    obtain ⟨yb, yo, ycap, hyv, hyrd⟩ := nms_at ho (getD_of [] hlt)
    refine st_vg rfl (bool_get rfl hg) (v_move rfl) (st_vg rfl (bool_get rfl hg) (v_move rfl) (st_vg rfl (bool_get rfl hg) (v_indexAddr (k := i) (congrArg some hyv) rfl sl25 rfl hlt rfl) (st_vg rfl (bool_get rfl hg) (v_ldy rfl ld9) ?_)))
    refine st_vg rfl (bool_get rfl hg) (v_move rfl) (st_vg rfl (bool_get rfl hg) (v_slss rfl rfl) (st_v (v_pick_true (bool_ev rfl hg) rfl) ?_))
    exact hcut _ (ssub_head (by first | rfl | (rw [hg]; rfl) | simp_all) (ssub_skip rfl (ssub_skip rfl (ssub_skip rfl (ssub_skip rfl (ssub_skip rfl (ssub_skip rfl (ssub_refl))))))))
  refine st_nil (nx_kp [0, 1, 5, 17] rfl (nx_then (cd_cond rfl (fun hd => ?_) (fun hd => ?_))))
  · skip
    have hlt : i < o.length := by have := of_decide_eq_true (Bool.and_eq_true_iff.1 hd).1; omega
    have hy := (Bool.and_eq_true_iff.1 hd).2
    have htk := List.take_succ_eq_append_getElem hlt
    refine cd_skip (xt_then (cd_block (cd_region (st_v (v_move rfl) (st_v (v_add rfl rfl (by unfold I64 at *; omega)) (st_v (v_assign rfl) (st_nil (nx_kp [0, 1, 5] rfl (nx_xt (xt_normal_block (xt_aq (i + 1) ⟨hlt, fun y hm => ?_⟩ (Nat.sub_lt_sub_left hlt (Nat.lt_succ_self i)))))))))))))
    rw [htk] at hm
    rcases List.mem_append.1 hm with hm | hm
    · exact hal y hm
    · simp at hm
      rw [hm, show o[i] = o.getD i [] by simp [hlt]]; exact hy
  · skip
    obtain ⟨hput1, hput2⟩ := put_at hi hal fun hlt => by
      rw [show decide ((i : Int) < o.length) = true from decide_eq_true (by omega), Bool.true_and] at hd
      exact hd
    refine cd_exit (xt_exit_then (xt_exit_then (xt_exit_block (xt_then (cd_seq (cd_seq (cd_region (st_v (v_move rfl) (st_v (v_move rfl) (st_v (v_len rfl Try.underlying25) (st_v (v_lss rfl rfl) (st_v (v_move rfl) (st_cut (k := 12) (d := 31) (v := .bool (decide ((i : Int) < o.length) && (o.getD i [] == x))) (fun hcut => bool_want (b := decide ((i : Int) < o.length)) true (fun hg => ?_) (fun hg => ?_)) ?_)))))))))))))
    · refine st_sk rfl rfl hg ?_
      refine st_sk rfl rfl hg ?_
      refine st_sk rfl rfl hg ?_
      refine st_sk rfl rfl hg ?_
      refine st_sk rfl rfl hg ?_
      refine st_sk rfl rfl hg ?_
      refine st_v (v_pick_false (bool_ev rfl hg) rfl) ?_
      exact hcut _ (ssub_head (by first | rfl | (rw [hg]; rfl) | simp_all) (ssub_skip rfl (ssub_skip rfl (ssub_skip rfl (ssub_skip rfl (ssub_skip rfl (ssub_skip rfl (ssub_refl))))))))
    · skip
      have hlt : i < o.length := by have := of_decide_eq_true hg; omega
      obtain ⟨yb, yo, ycap, hyv, hyrd⟩ := nms_at ho (getD_of [] hlt)
      refine st_vg rfl (bool_get rfl hg) (v_move rfl) (st_vg rfl (bool_get rfl hg) (v_move rfl) (st_vg rfl (bool_get rfl hg) (v_indexAddr (k := i) (congrArg some hyv) rfl sl25 rfl hlt rfl) (st_vg rfl (bool_get rfl hg) (v_ldy rfl ld9) ?_)))
      refine st_vg rfl (bool_get rfl hg) (v_move rfl) (st_vg rfl (bool_get rfl hg) (v_seql rfl rfl) (st_v (v_pick_true (bool_ev rfl hg) rfl) ?_))
      exact hcut _ (ssub_head (by first | rfl | (rw [hg]; rfl) | simp_all) (ssub_skip rfl (ssub_skip rfl (ssub_skip rfl (ssub_skip rfl (ssub_skip rfl (ssub_skip rfl (ssub_refl))))))))
    refine st_nil (nx_kp [0, 1, 5, 31] rfl (nx_then (cd_cond rfl (fun he => ?_) (fun he => ?_))))
    · skip
      have he2 : i < o.length ∧ o.getD i [] = x := by
        obtain ⟨h1, h2⟩ := Bool.and_eq_true_iff.1 he
        exact ⟨by have := of_decide_eq_true h1; omega, by simpa using h2⟩
      rw [hput1 he2]
      refine cd_seq (cd_region (st_v (v_move rfl) (st_v (v_assign rfl) (st_nil (nx_kp [4] rfl (nx_then (cd_ret (xt_ret_then ?_))))))))
      exact xt_rt rfl ⟨A, rfl, rfl, ho⟩ (by (repeat (refine Sub.sel (by repeat (first | exact Sel.here | apply Sel.there)) ?_)); (repeat apply Sub.cons); first | exact Sub.refl _ | exact Sub.nil _)
    · skip
      have hres : put o x = o.take i ++ x :: o.drop i := hput2 (by
        rintro ⟨h1, h2⟩
        rw [show decide ((i : Int) < o.length) = true from decide_eq_true (by omega), h2] at he
        simp at he)
      refine cd_skip (xt_then (cd_seq (cd_drawh (ork [(1, 2), (2, 2), (3, 1), (5, 2), (8, 2), (9, 2), (10, 1)] (.two 0 (.two 4 (ork [(6, 0), (7, 0), (11, 0), (12, 2)] .nil) 6 (ork [(4, 0), (7, 0), (11, 0), (12, 2)] .nil)) 6 (ork [(0, 0), (4, 0), (7, 0), (11, 0), (12, 2)] .nil))) (fun i => !(Nat.beq i 11)) mixed (by kernel_rfl) ?_)))
      refine dp_v rfl (v_move rfl) (dp_v rfl (v_move rfl) (dr_v rfl (v_sliceHeadA (hi := i) rfl rfl sl25 rfl (by omega)) (dp_v rfl (v_move rfl) (dp_v rfl (v_move rfl) (dp_v rfl (v_move rfl) (dr_v rfl (v_sliceTailA (lo := i) rfl rfl sl25 rfl hi hoc) (dr_two rfl rfl ?_ ?_)))))))
      · skip
        refine st_bs0 Try.underlying25 inf9 fun b33 => dr_nx ?_
        refine dr_two rfl rfl ?_ ?_
        · skip
          refine st_apr (ho.take hi) rfl rfl Try.underlying25 inf9 rfl (by decide) (show Sel _ (VR (.slice (some ⟨b33, 0, none⟩) 0 0) 9 1 []) _ from (by repeat (first | exact Sel.here | apply Sel.there))) (show Sel _ A _ from (by repeat (first | exact Sel.here | apply Sel.there))) (fun us x _ h => str_one h) (by simp [List.length_take] <;> omega) (by simp [List.length_take] <;> omega) (ltn rfl) fun v37 n1 hv37 q1 q2 q3 => dr_nx ?_
          cases news_names q1 q3
          refine dr_eff rfl (st_buildSlice (cells := [sv x]) rfl Try.underlying25 inf9 rfl rfl (by kernel_rfl) (ltn rfl) fun b39 => dr_nx ?_)
          refine dr_eff rfl (st_app [nC x] rfl rfl Try.underlying25 inf9 rfl (by decide) (show Sel _ (VR v37 9 1 ([] ++ (o.take i).map nC)) _ from (by repeat (first | exact Sel.here | apply Sel.there))) (by simp [nC]) rfl (fun j u2 hu2 => by repeat (first | exact at_here (rd_cl (by simpa [nC] using hu2)) | apply at_there)) (by simp [nC, Value.oneCell']) (by simp [List.length_take] <;> omega) (by simp [List.length_take] <;> omega) (ltn rfl) fun v40 hv40 _ => dr_nx ?_)
          refine dr_eff rfl (st_apr (ho.dropA hi) rfl rfl Try.underlying25 inf9 rfl (by decide) (show Sel _ (VR v40 9 1 ([] ++ (o.take i).map nC ++ [nC x])) _ from (by repeat (first | exact Sel.here | apply Sel.there))) (show Sel _ A _ from (by repeat (first | exact Sel.here | apply Sel.there))) (fun us x _ h => str_one h) (by simp [List.length_take] <;> omega) (by simp [List.length_take] <;> omega) (ltn rfl) fun v44 n3 hv44 r1 r2 r3 => dr_nx ?_)
          cases news_names r1 r3
          refine dp_v rfl (v_assign rfl) (dr_nil (nx_kp [4] rfl (nx_then (cd_ret (xt_vw (vw_eq (show _ = NR v44 (put o x) :: _ by rw [hres]; simp only [NR, List.map_append, List.map_cons, List.nil_append, List.append_assoc, List.cons_append, List.singleton_append]; rfl)) ?_)))))
          refine xt_ok (r := NR v44 (put o x)) (by repeat (first | exact Sel.here | apply Sel.there)) fun hok => ?_
          exact xt_rt rfl ⟨NR v44 (put o x), rfl, hv44, nms_own hok⟩ (by (repeat (refine Sub.sel (by repeat (first | exact Sel.here | apply Sel.there)) ?_)); (repeat apply Sub.cons); first | exact Sub.refl _ | exact Sub.nil _)
        · skip
          refine st_buildSlice (cells := [sv x]) rfl Try.underlying25 inf9 rfl rfl (by kernel_rfl) (ltn rfl) fun b39 => dr_nx ?_
          refine dr_eff rfl (st_apr (ho.take hi) rfl rfl Try.underlying25 inf9 rfl (by decide) (show Sel _ (VR (.slice (some ⟨b33, 0, none⟩) 0 0) 9 1 []) _ from (by repeat (first | exact Sel.here | apply Sel.there))) (show Sel _ A _ from (by repeat (first | exact Sel.here | apply Sel.there))) (fun us x _ h => str_one h) (by simp [List.length_take] <;> omega) (by simp [List.length_take] <;> omega) (ltn rfl) fun v37 n1 hv37 q1 q2 q3 => dr_nx ?_)
          cases news_names q1 q3
          refine dr_eff rfl (st_app [nC x] rfl rfl Try.underlying25 inf9 rfl (by decide) (show Sel _ (VR v37 9 1 ([] ++ (o.take i).map nC)) _ from (by repeat (first | exact Sel.here | apply Sel.there))) (by simp [nC]) rfl (fun j u2 hu2 => by repeat (first | exact at_here (rd_cl (by simpa [nC] using hu2)) | apply at_there)) (by simp [nC, Value.oneCell']) (by simp [List.length_take] <;> omega) (by simp [List.length_take] <;> omega) (ltn rfl) fun v40 hv40 _ => dr_nx ?_)
          refine dr_eff rfl (st_apr (ho.dropA hi) rfl rfl Try.underlying25 inf9 rfl (by decide) (show Sel _ (VR v40 9 1 ([] ++ (o.take i).map nC ++ [nC x])) _ from (by repeat (first | exact Sel.here | apply Sel.there))) (show Sel _ A _ from (by repeat (first | exact Sel.here | apply Sel.there))) (fun us x _ h => str_one h) (by simp [List.length_take] <;> omega) (by simp [List.length_take] <;> omega) (ltn rfl) fun v44 n3 hv44 r1 r2 r3 => dr_nx ?_)
          cases news_names r1 r3
          refine dp_v rfl (v_assign rfl) (dr_nil (nx_kp [4] rfl (nx_then (cd_ret (xt_vw (vw_eq (show _ = NR v44 (put o x) :: _ by rw [hres]; simp only [NR, List.map_append, List.map_cons, List.nil_append, List.append_assoc, List.cons_append, List.singleton_append]; rfl)) ?_)))))
          refine xt_ok (r := NR v44 (put o x)) (by repeat (first | exact Sel.here | apply Sel.there)) fun hok => ?_
          exact xt_rt rfl ⟨NR v44 (put o x), rfl, hv44, nms_own hok⟩ (by (repeat (refine Sub.sel (by repeat (first | exact Sel.here | apply Sel.there)) ?_)); (repeat apply Sub.cons); first | exact Sub.refl _ | exact Sub.nil _)
      · skip
        refine st_buildSlice (cells := [sv x]) rfl Try.underlying25 inf9 rfl rfl (by kernel_rfl) (ltn rfl) fun b39 => dr_nx ?_
        refine dr_eff rfl (st_bs0 Try.underlying25 inf9 fun b33 => dr_nx ?_)
        refine dr_eff rfl (st_apr (ho.take hi) rfl rfl Try.underlying25 inf9 rfl (by decide) (show Sel _ (VR (.slice (some ⟨b33, 0, none⟩) 0 0) 9 1 []) _ from (by repeat (first | exact Sel.here | apply Sel.there))) (show Sel _ A _ from (by repeat (first | exact Sel.here | apply Sel.there))) (fun us x _ h => str_one h) (by simp [List.length_take] <;> omega) (by simp [List.length_take] <;> omega) (ltn rfl) fun v37 n1 hv37 q1 q2 q3 => dr_nx ?_)
        cases news_names q1 q3
        refine dr_eff rfl (st_app [nC x] rfl rfl Try.underlying25 inf9 rfl (by decide) (show Sel _ (VR v37 9 1 ([] ++ (o.take i).map nC)) _ from (by repeat (first | exact Sel.here | apply Sel.there))) (by simp [nC]) rfl (fun j u2 hu2 => by repeat (first | exact at_here (rd_cl (by simpa [nC] using hu2)) | apply at_there)) (by simp [nC, Value.oneCell']) (by simp [List.length_take] <;> omega) (by simp [List.length_take] <;> omega) (ltn rfl) fun v40 hv40 _ => dr_nx ?_)
        refine dr_eff rfl (st_apr (ho.dropA hi) rfl rfl Try.underlying25 inf9 rfl (by decide) (show Sel _ (VR v40 9 1 ([] ++ (o.take i).map nC ++ [nC x])) _ from (by repeat (first | exact Sel.here | apply Sel.there))) (show Sel _ A _ from (by repeat (first | exact Sel.here | apply Sel.there))) (fun us x _ h => str_one h) (by simp [List.length_take] <;> omega) (by simp [List.length_take] <;> omega) (ltn rfl) fun v44 n3 hv44 r1 r2 r3 => dr_nx ?_)
        cases news_names r1 r3
        refine dp_v rfl (v_assign rfl) (dr_nil (nx_kp [4] rfl (nx_then (cd_ret (xt_vw (vw_eq (show _ = NR v44 (put o x) :: _ by rw [hres]; simp only [NR, List.map_append, List.map_cons, List.nil_append, List.append_assoc, List.cons_append, List.singleton_append]; rfl)) ?_)))))
        refine xt_ok (r := NR v44 (put o x)) (by repeat (first | exact Sel.here | apply Sel.there)) fun hok => ?_
        exact xt_rt rfl ⟨NR v44 (put o x), rfl, hv44, nms_own hok⟩ (by (repeat (refine Sub.sel (by repeat (first | exact Sel.here | apply Sel.there)) ?_)); (repeat apply Sub.cons); first | exact Sub.refl _ | exact Sub.nil _)
end
end Go.Hr
namespace Go.Hr
open Go Go.RowKit Go.Ck Go.Proofs Go.Proofs.Ytjgiaohieadeiaa Fx
attribute [local irreducible] Go.Ck.Sub St Cd Xt Nx DrL LsW
theorem srt_snoc (xs : List Nm) (x : Nm) : srt (xs ++ [x]) = put (srt xs) x := by simp [srt]
theorem srt_le : ∀ (xs : List Nm), (srt xs).length ≤ xs.length := fun xs => length_le_of_nodup (srt_spec xs).1.nodup fun x hx => ((srt_spec xs).2 x).1 hx
def comT (l : Sys) (a b : Nm) (i : Nat) : List Nm := srt (((above l a).take i).filter fun c => has l b c)
theorem comT_all (l : Sys) (a b : Nm) : comT l a b (above l a).length = srt (common l a b) := by unfold comT common; rw [List.take_length]
theorem comT_yes {l : Sys} {a b : Nm} {i : Nat} (hi : i < (above l a).length) (h : has l b (above l a)[i] = true) : comT l a b (i + 1) = put (comT l a b i) (above l a)[i] := by
  unfold comT
  rw [List.take_succ_eq_append_getElem hi, List.filter_append, List.filter_cons, if_pos h, ← srt_snoc]; rfl
theorem comT_no {l : Sys} {a b : Nm} {i : Nat} (hi : i < (above l a).length) (h : has l b (above l a)[i] = false) : comT l a b (i + 1) = comT l a b i := by
  unfold comT
  rw [List.take_succ_eq_append_getElem hi, List.filter_append, List.filter_cons, if_neg (by rw [h]; decide)]; simp
theorem comT_len {l : Sys} (hR : Right l) (a b : Nm) (i : Nat) : (comT l a b i).length ≤ 25 := by
  have h1 := srt_le (((above l a).take i).filter fun c => has l b c)
  have h2 := List.length_filter_le (fun c => has l b c) ((above l a).take i)
  have h3 := aboveC_len hR a
  rw [List.length_take] at h2
  unfold comT
  omega
/-- The least ones, in order. -/
theorem least_srt (l : Sys) (a b : Nm) : (srt (common l a b)).filter (lowest l (common l a b)) = least l a b := by
  unfold least
  refine Srt.ext ((srt_spec _).1.filter _) (srt_spec _).1 fun x => ?_
  rw [List.mem_filter, (srt_spec _).2, (srt_spec _).2, List.mem_filter]
theorem lowest_at {l : Sys} {cs : List Nm} {k : Nat} (hk : k < (srt cs).length) {bv : Bool} (h : bv = true ↔ ∃ (m : Nat) (hm : m < (srt cs).length), m ≠ k ∧ has l (srt cs)[m] (srt cs)[k] = true) : lowest l cs (srt cs)[k] = !bv := by
  have hnd := (srt_spec cs).1.nodup
  rw [Bool.eq_iff_iff, lowest_iff, Bool.not_eq_true', ← Bool.not_eq_true, h]
  constructor
  · rintro h1 ⟨m, hm, h2, h3⟩
    have := h1 _ (((srt_spec cs).2 _).1 (List.getElem_mem hm)) h3
    exact h2 ((List.getElem_inj hnd).1 this)
  · intro h1 d hd hh
    obtain ⟨m, hm, rfl⟩ := List.getElem_of_mem (((srt_spec cs).2 d).2 hd)
    apply Classical.byContradiction
    intro hne
    exact h1 ⟨m, hm, fun e => hne (by subst e; rfl), hh⟩
section
variable {S N : Res} {v nv : Value} {l : Sys} {ns : List Nm}
set_option maxRecDepth 100000 in
theorem common_ct (hv : sysR S v l) (hR : Right l) (x y : Nm) : CtN Try.prog 72 #[v, sv x, sv y] [S] fun u T => u.oneCell' = true ∧ nmsR T u (srt (common l x y)) := by
  obtain ⟨a, cap, rfl, _⟩ := id hv
  have hFl := hR.len
  refine ct_of (n := 38) Try.func72 rfl rfl (len rfl) fun hr w0 => ?_
  refine cd_seq (cd_region (st_v (v_assign rfl) (st_nil (nx_then (cd_seq (cd_region (st_v (v_assign rfl) (st_nil (nx_then (cd_seq (cd_region (st_v (v_move rfl) (st_v (v_move rfl) (st_cl rfl rfl en73 rfl (aboveT_ct hv hR x) ?_))))))))))))))
  rintro u h' ⟨T, rfl, hu1, rfl, hu⟩
  simp only [List.cons_append, List.nil_append]
  have hlx := aboveC_len hR x
  obtain ⟨ua, ucap, rfl, _⟩ := id hu
  refine st_v (v_assign rfl) (st_nil (nx_kp [0, 2, 6, 7, 8] rfl (nx_then (cd_seq (cd_region (st_v (v_move rfl) (st_v (v_move rfl) (st_cl rfl rfl en73 rfl (aboveT_ct hv hR y) ?_))))))))
  rintro u h' ⟨T, rfl, hy1, rfl, hy⟩
  simp only [List.cons_append, List.nil_append]
  have hly := aboveC_len hR y
  refine st_v (v_assign rfl) (st_nil (nx_kp [6, 7, 8, 9] rfl (nx_then (cd_seq (cd_seq (cd_region (st_v (v_assign rfl) (st_nil (nx_then (cd_block (cd_vw (vw_unstar (L := [])) (cd_lq (σ := Value × Res × Nat) (fun q => [(7, q.1), (8, .slice ua (above l x).length ucap), (9, u), (10, .int .i64 (q.2.2 : Nat))]) (fun q => q.2.1 :: NR u (above l y) :: NR (.slice ua (above l x).length ucap) (above l x) :: S :: hr) (fun q => q.1.oneCell' = true ∧ q.2.2 ≤ (above l x).length ∧ nmsR q.2.1 q.1 (comT l x y q.2.2)) (fun q => (above l x).length - q.2.2) (.slice none 0 0, Res.star [], 0) ⟨rfl, Nat.zero_le _, by show nmsR (Res.star []) (.slice none 0 0) (comT l x y 0); rw [show comT l x y 0 = [] by simp [comT, srt]]; exact Row.nil⟩ ?_))))))))))))
  rintro ⟨w, T, i⟩ ⟨hw, hi, hwn⟩
  simp only at hw hi hwn
  dsimp only
  refine cd_seq (cd_seq (cd_region (st_v (v_move rfl) (st_v (v_move rfl) (st_v (v_len rfl Try.underlying25) (st_v (v_lss rfl rfl) (st_nil (nx_kp [7, 8, 9, 10, 21] rfl (nx_then (cd_cond rfl (fun hd => ?_) (fun hd => ?_)))))))))))
  · skip
    have hlt : i < (above l x).length := by simpa using hd
    obtain ⟨zb, zo, zcap, hzv, hzrd⟩ := nms_at hu (List.getElem?_eq_getElem hlt)
    have hyes := comT_yes (b := y) hlt
    have hno := comT_no (b := y) hlt
    have hcl := comT_len hR x y i
    have hah := aboveC_has hR y (above l x)[i]
    generalize (above l x)[i] = z at *
    refine cd_skip (xt_then (cd_seq (cd_block (cd_seq (cd_region (st_v (v_move rfl) (st_v (v_move rfl) (st_v (v_move rfl) (st_v (v_indexAddr (k := i) (congrArg some hzv) rfl sl25 rfl hlt rfl) (st_v (v_ldy rfl ld9) ?_))))))))))
    refine st_cl rfl rfl en57 rfl (Has_ct hy z (by omega)) ?_
    rintro u2 h' ⟨rfl, rfl⟩
    simp only [List.cons_append, List.nil_append]
    rw [hah]
    refine st_v (v_assign rfl) (st_nil (nx_kp [7, 8, 9, 10, 11] rfl (nx_then (cd_seq (cd_region (st_v (v_move rfl) (st_nil (nx_kp [7, 8, 9, 10, 30] rfl (nx_then (cd_cond rfl (fun hb => ?_) (fun hb => ?_)))))))))))
    · skip
      have hyes := hyes hb
      refine cd_region (st_v (v_move rfl) (st_v (v_move rfl) (st_v (v_move rfl) (st_v (v_indexAddr (k := i) (congrArg some hzv) rfl sl25 rfl hlt rfl) (st_v (v_ldy rfl ld9) ?_)))))
      refine st_cl rfl rfl en63 rfl (put_ct hwn (by omega) z) ?_
      rintro u2 h' ⟨T2, rfl, hu2, hT2⟩
      simp only [List.cons_append, List.nil_append]
      rw [← hyes] at hT2
      refine st_v (v_assign rfl) (st_nil (nx_kp [7, 8, 9, 10] rfl (nx_xt (xt_normal_block (xt_then (cd_region (st_v (v_move rfl) (st_v (v_add rfl rfl (by unfold I64 at *; omega)) (st_v (v_assign rfl) (st_nil (nx_kp [7, 8, 9, 10] rfl (nx_xt ?_))))))))))))
      refine xt_aq (u2, T2, i + 1) ⟨hu2, hlt, hT2⟩ (Nat.sub_lt_sub_left hlt (Nat.lt_succ_self i))
    · skip
      have hno := hno hb
      refine cd_skip (xt_normal_block (xt_then (cd_region (st_v (v_move rfl) (st_v (v_add rfl rfl (by unfold I64 at *; omega)) (st_v (v_assign rfl) (st_nil (nx_kp [7, 8, 9, 10] rfl (nx_xt ?_)))))))))
      refine xt_aq (w, T, i + 1) ⟨hw, hlt, by rw [hno]; exact hwn⟩ (Nat.sub_lt_sub_left hlt (Nat.lt_succ_self i))
  · skip
    have hil : i = (above l x).length := by have : ¬ i < (above l x).length := by simpa using hd
                                            omega
    subst hil
    rw [comT_all] at hwn
    refine cd_exit (xt_exit_then (xt_exit_then (xt_exit_block (xt_then (cd_seq (cd_region (st_v (v_move rfl) (st_v (v_assign rfl) (st_nil (nx_kp [6] rfl (nx_then (cd_ret ?_))))))))))))
    exact xt_rt rfl ⟨T, rfl, hw, hwn⟩ (by (repeat (refine Sub.sel (by repeat (first | exact Sel.here | apply Sel.there)) ?_)); (repeat apply Sub.cons); first | exact Sub.refl _ | exact Sub.nil _)
set_option maxHeartbeats 1000000 in
set_option maxRecDepth 100000 in
theorem LeastS_ct (hv : sysR S v l) (hl : l.length ≤ 1000000) (x y : Nm) : CtN Try.prog 21 #[v, sv x, sv y] [S] fun u T => ∃ w, u = .agg #[w, .int .i64 (rightE l [x, y])] ∧ w.oneCell' = true ∧ nmsR T w (okL (rightE l [x, y]) (least l x y)) := by
  obtain ⟨a, cap, rfl, _⟩ := id hv
  refine ct_of (n := 66) Try.func21 rfl rfl (len rfl) fun hr w0 => ?_
  refine cd_seq (cd_region (st_alc al30 fun b6 => ?_))
  refine st_nil (nx_then (cd_seq (cd_region (st_v (v_move rfl) (st_v (v_move rfl) (st_v (v_move rfl) (st_buildSlice (cells := [sv x, sv y]) rfl Try.underlying25 inf9 rfl rfl (by kernel_rfl) (ltn rfl) fun b17 => ?_)))))))
  refine st_pv (pv_of (b := b17) (n := 2) (sz := 1) (E := 9) [nC x, nC y] rfl (by simp [nC]) rfl (by decide)) ?_
  simp only [List.cons_append, List.nil_append]
  refine st_ok (r := NR (.slice (some ⟨b17, 0, none⟩) 2 2) [x, y]) (by repeat (first | exact Sel.here | apply Sel.there)) fun hok => ?_
  refine st_clr rfl rfl en71 rfl (asked_ct hv hl (nms_own hok) (by simp)) ?_
  refine st_v (v_assign rfl) (st_nil (nx_kp [0, 1, 2, 6, 7] rfl (nx_then (cd_seq (cd_seq (cd_region (st_v (v_move rfl) (st_v (v_neq rfl rfl) (st_nil (nx_kp [0, 1, 2, 6, 7, 20] rfl (nx_then (cd_cond rfl (fun he => ?_) (fun he => ?_)))))))))))))
  · skip
    have he : ¬ rightE l [x, y] = 0 := by simpa using he
    rw [okL_ne he]
    refine cd_seq (cd_region (st_v (v_move rfl) (st_v (v_build (cells := [.slice none 0 0, .int .i64 (rightE l [x, y])]) rfl (fun _ => by kernel_rfl)) ?_)))
    refine st_stoW rfl rfl sz30 rfl rfl ?_
    refine st_nil (nx_kp [6] rfl (nx_then (cd_ret (xt_ret_then (xt_vw (vw_unstar (L := [])) ?_)))))
    exact xt_retV (.cellN rfl ld30 rfl (by repeat (first | exact Sel.here | apply Sel.there)) .nil) ⟨Res.star [], rfl, _, rfl, rfl, Row.nil⟩ (by repeat (first | exact Sub.refl _ | exact Sub.nil _ | refine Sub.sel (by repeat (first | exact Sel.here | apply Sel.there)) ?_ | apply Sub.cons))
  · skip
    have he : rightE l [x, y] = 0 := by simpa using he
    obtain ⟨hR, hm⟩ := rightE_zero.1 he
    rw [he, okL_eq rfl, ← least_srt]
    have hcl := comT_len hR x y (above l x).length
    rw [comT_all] at hcl
    refine cd_skip (xt_then (cd_seq (cd_region (st_v (v_move rfl) (st_v (v_move rfl) (st_v (v_move rfl) (st_cl rfl rfl en72 rfl (common_ct hv hR x y) ?_)))))))
    rintro u h' ⟨T, rfl, hu1, hu⟩
    simp only [List.cons_append, List.nil_append]
    have hlow : ∀ (k : Nat) (hk : k < (srt (common l x y)).length) (bv : Bool), _ → _ := fun k hk bv => lowest_at (l := l) (bv := bv) hk
    generalize common l x y = cm at *
    generalize srt cm = cs at *
    obtain ⟨ua, ucap, rfl, _⟩ := id hu
    refine st_v (v_assign rfl) (st_nil (nx_kp [0, 6, 8] rfl (nx_then (cd_seq (cd_region (st_v (v_assign rfl) (st_nil (nx_then (cd_seq (cd_seq (cd_region (st_v (v_assign rfl) (st_nil (nx_then (cd_block (cd_vw (vw_nil 9 1) (cd_lq (σ := Value × Nat) (fun q => [(0, .slice a l.length cap), (6, .pointer (some ⟨b6, 0, none⟩)), (8, .slice ua cs.length ucap), (9, q.1), (10, .int .i64 (q.2 : Nat))]) (fun q => NR q.1 ((cs.take q.2).filter (lowest l cm)) :: T :: pt b6 (cl [.slice none 0 0, .int .i64 0] 30) :: S :: hr) (fun q => q.1.oneCell' = true ∧ q.2 ≤ cs.length) (fun q => cs.length - q.2) (.slice none 0 0, 0) ⟨rfl, Nat.zero_le _⟩ ?_)))))))))))))))))
    rintro ⟨w, k⟩ ⟨hw, hk⟩
    simp only at hw hk
    dsimp only
    refine cd_seq (cd_seq (cd_region (st_v (v_move rfl) (st_v (v_move rfl) (st_v (v_len rfl Try.underlying25) (st_v (v_lss rfl rfl) (st_nil (nx_kp [0, 6, 8, 9, 10, 30] rfl (nx_then (cd_cond rfl (fun hd => ?_) (fun hd => ?_)))))))))))
    · skip
      have hklt : k < cs.length := by simpa using hd
      obtain ⟨kb, ko, kcap, hkv, hkrd⟩ := nms_at hu (List.getElem?_eq_getElem hklt)
      have hyes := flt_yes (f := lowest l cm) hklt
      have hno := flt_no (f := lowest l cm) hklt
      have hlow := hlow k hklt
      have hfl := List.length_filter_le (lowest l cm) (cs.take k)
      rw [List.length_take] at hfl
      generalize cs[k] = p at *
      refine cd_skip (xt_then (cd_seq (cd_block (cd_seq (cd_region (st_v (v_assign rfl) (st_nil (nx_kp [0, 6, 8, 9, 10, 11] rfl (nx_then (cd_seq (cd_seq (cd_region (st_v (v_assign rfl) (st_nil (nx_then (cd_block ?_))))))))))))))))
      refine cd_lq (σ := Bool × Nat) (fun q => [(0, .slice a l.length cap), (6, .pointer (some ⟨b6, 0, none⟩)), (8, .slice ua cs.length ucap), (9, w), (10, .int .i64 (k : Nat)), (11, .bool !q.1), (12, .int .i64 (q.2 : Nat))]) (fun _ => NR w ((cs.take k).filter (lowest l cm)) :: T :: pt b6 (cl [.slice none 0 0, .int .i64 0] 30) :: S :: hr) (fun q => q.2 ≤ cs.length ∧ (q.1 = true ↔ ∃ (m : Nat) (hm : m < cs.length), m < q.2 ∧ m ≠ k ∧ has l cs[m] p = true)) (fun q => cs.length - q.2) (false, 0) ⟨Nat.zero_le _, by simp⟩ ?_
      rintro ⟨bv, j⟩ ⟨hj, hbv⟩
      simp only at hj hbv
      dsimp only
      refine cd_seq (cd_seq (cd_region (st_v (v_move rfl) (st_v (v_move rfl) (st_v (v_len rfl Try.underlying25) (st_v (v_lss rfl rfl) (st_nil (nx_kp [0, 6, 8, 9, 10, 11, 12, 36] rfl (nx_then (cd_cond rfl (fun hd3 => ?_) (fun hd3 => ?_)))))))))))
      · skip
        have hjlt : j < cs.length := by simpa using hd3
        obtain ⟨jb, jo, jcap, hjv, hjrd⟩ := nms_at hu (List.getElem?_eq_getElem hjlt)
        have hstep : ∀ b2 : Bool, (b2 = true ↔ bv = true ∨ (j ≠ k ∧ has l cs[j] p = true)) → (b2 = true ↔ ∃ (m : Nat) (hm : m < cs.length), m < j + 1 ∧ m ≠ k ∧ has l cs[m] p = true) := by
          intro b2 h
          rw [h, hbv]
          constructor
          · rintro (⟨m, hm, h1, h2⟩ | h1)
            · exact ⟨m, hm, by omega, h2⟩
            · exact ⟨j, hjlt, by omega, h1⟩
          · rintro ⟨m, hm, h1, h2⟩
            by_cases hmj : m = j
            · subst hmj; exact .inr h2
            · exact .inl ⟨m, hm, by omega, h2⟩
        have hal := aboveC_len hR cs[j]
        have hah := aboveC_has hR cs[j] p
        generalize cs[j] = q at *
        refine cd_skip (xt_then (cd_seq (cd_block (cd_seq (cd_drawh (ork [(0, 2), (1, 2), (2, 2), (3, 2), (4, 1), (6, 2), (7, 2), (8, 2), (9, 1), (5, 0), (10, 0), (11, 2)] .nil) (fun i => !(Nat.beq i 10)) mixed (by kernel_rfl) ?_)))))
        refine dp_v rfl (v_move rfl) (dp_v rfl (v_move rfl) (dp_v rfl (v_move rfl) (dp_v rfl (v_indexAddr (k := j) (congrArg some hjv) rfl sl25 rfl hjlt rfl) (dr_v rfl (v_ldy rfl ld9) ?_))))
        refine dp_v rfl (v_move rfl) (dp_v rfl (v_move rfl) (dp_v rfl (v_indexAddr (k := k) (congrArg some hkv) rfl sl25 rfl hklt rfl) (dr_v rfl (v_ldy rfl ld9) ?_)))
        refine dr_eff rfl (st_cl rfl rfl en73 rfl (aboveT_ct hv hR q) ?_)
        rintro u h' ⟨T, rfl, hu1, rfl, hu⟩
        simp only [List.cons_append, List.nil_append]
        refine dr_nx ?_
        refine dr_eff rfl (st_cl rfl rfl en57 rfl (Has_ct hu p (by omega)) ?_)
        rintro u h' ⟨rfl, rfl⟩
        simp only [List.cons_append, List.nil_append]
        rw [hah]
        refine dr_nx ?_
        refine dp_v rfl (v_assign rfl) (dr_nil (nx_kp [0, 6, 8, 9, 10, 11, 12, 13] rfl (nx_then (cd_seq (cd_region (st_v (v_move rfl) (st_v (v_move rfl) (st_v (v_neq rfl rfl) (st_v (v_move rfl) (st_cut (k := 6) (d := 55) (v := .bool (((j : Int) != k) && has l q p)) (fun hcut => bool_want (b := ((j : Int) != k)) true (fun hg => ?_) (fun hg => ?_)) ?_))))))))))
        · refine st_sk rfl rfl hg ?_
          refine st_v (v_pick_false (bool_ev rfl hg) rfl) ?_
          exact hcut _ (ssub_head (by first | rfl | (rw [hg]; rfl) | simp_all) (ssub_skip rfl (ssub_refl)))
        · skip
          refine st_vg rfl (bool_get rfl hg) (v_move rfl) (st_v (v_pick_true (bool_ev rfl hg) rfl) ?_)
          exact hcut _ (ssub_head (by first | rfl | (rw [hg]; rfl) | simp_all) (ssub_skip rfl (ssub_refl)))
        refine st_nil (nx_kp [0, 6, 8, 9, 10, 11, 12, 55] rfl (nx_then (cd_cond rfl (fun hb => ?_) (fun hb => ?_))))
        · skip
          have hb' : j ≠ k ∧ has l q p = true := by
            obtain ⟨h1, h2⟩ := Bool.and_eq_true_iff.1 hb
            exact ⟨fun e => by subst e; simp at h1, h2⟩
          refine cd_region (st_v (v_assign rfl) (st_nil (nx_kp [0, 6, 8, 9, 10, 11, 12] rfl (nx_xt (xt_normal_block (xt_then (cd_region (st_v (v_move rfl) (st_v (v_add rfl rfl (by unfold I64 at *; omega)) (st_v (v_assign rfl) (st_nil (nx_kp [0, 6, 8, 9, 10, 11, 12] rfl (nx_xt ?_)))))))))))))
          refine xt_aq (true, j + 1) ⟨hjlt, hstep true ⟨fun _ => .inr hb', fun _ => rfl⟩⟩ (Nat.sub_lt_sub_left hjlt (Nat.lt_succ_self j))
        · skip
          have hb' : ¬ (j ≠ k ∧ has l q p = true) := by
            rintro ⟨h1, h2⟩
            rw [h2, Bool.and_true] at hb
            have : (j : Int) = k := by simpa using hb
            exact h1 (by omega)
          refine cd_skip (xt_normal_block (xt_then (cd_region (st_v (v_move rfl) (st_v (v_add rfl rfl (by unfold I64 at *; omega)) (st_v (v_assign rfl) (st_nil (nx_kp [0, 6, 8, 9, 10, 11, 12] rfl (nx_xt ?_)))))))))
          refine xt_aq (bv, j + 1) ⟨hjlt, hstep bv ⟨.inl, fun h => h.resolve_right hb'⟩⟩ (Nat.sub_lt_sub_left hjlt (Nat.lt_succ_self j))
      · skip
        have hje : j = cs.length := by have : ¬ j < cs.length := by simpa using hd3
                                       omega
        subst hje
        have hsp : lowest l cm p = !bv := hlow bv (by
          rw [hbv]
          exact ⟨fun ⟨m, hm, _, h⟩ => ⟨m, hm, h⟩, fun ⟨m, hm, h⟩ => ⟨m, hm, hm, h⟩⟩)
        rw [← hsp]
        refine cd_exit (xt_exit_then (xt_exit_then (xt_exit_block (xt_then (cd_seq (cd_region (st_v (v_move rfl) (st_nil (nx_kp [0, 6, 8, 9, 10, 56] rfl (nx_then (cd_cond rfl (fun hb => ?_) (fun hb => ?_))))))))))))
        · skip
          have hyes := hyes hb
          refine cd_region (st_v (v_move rfl) (st_v (v_move rfl) (st_v (v_move rfl) (st_v (v_indexAddr (k := k) (congrArg some hkv) rfl sl25 rfl hklt rfl) (st_v (v_ldy rfl ld9) ?_)))))
          refine st_buildSlice (cells := [sv p]) rfl Try.underlying25 inf9 rfl rfl (by kernel_rfl) (ltn rfl) fun b62 => ?_
          refine st_app [nC p] rfl rfl Try.underlying25 inf9 rfl (by decide) (show Sel _ (NR w ((cs.take k).filter (lowest l cm))) _ from (by repeat (first | exact Sel.here | apply Sel.there))) (by simp [nC]) rfl (fun j u2 hu2 => at_here (rd_cl (by simpa [nC] using hu2))) (by simp [nC, Value.oneCell']) (by rw [List.length_map]; omega) (by rw [List.length_map]; omega) (ltn rfl) fun v' hv' _ => ?_
          rw [show ((cs.take k).filter (lowest l cm)).map nC ++ [nC p] = ((cs.take (k + 1)).filter (lowest l cm)).map nC by rw [hyes, List.map_append]; rfl]
          refine st_v (v_assign rfl) (st_nil (nx_kp [0, 6, 8, 9, 10] rfl (nx_xt (xt_normal_block (xt_then (cd_region (st_v (v_move rfl) (st_v (v_add rfl rfl (by unfold I64 at *; omega)) (st_v (v_assign rfl) (st_nil (nx_kp [0, 6, 8, 9, 10] rfl (nx_xt ?_))))))))))))
          refine xt_aq (v', k + 1) ⟨hv', hklt⟩ (Nat.sub_lt_sub_left hklt (Nat.lt_succ_self k))
        · skip
          have hno := hno hb
          rw [← hno]
          refine cd_skip (xt_normal_block (xt_then (cd_region (st_v (v_move rfl) (st_v (v_add rfl rfl (by unfold I64 at *; omega)) (st_v (v_assign rfl) (st_nil (nx_kp [0, 6, 8, 9, 10] rfl (nx_xt ?_)))))))))
          refine xt_aq (w, k + 1) ⟨hw, hklt⟩ (Nat.sub_lt_sub_left hklt (Nat.lt_succ_self k))
    · skip
      have hke : k = cs.length := by have : ¬ k < cs.length := by simpa using hd
                                     omega
      subst hke
      rw [List.take_length]
      refine cd_ok (r := NR w (cs.filter (lowest l cm))) (by repeat (first | exact Sel.here | apply Sel.there)) fun hok => ?_
      have hkl := nms_own hok
      obtain ⟨wa, wcap, rfl, _⟩ := id hkl
      refine cd_exit (xt_exit_then (xt_exit_then (xt_exit_block (xt_then (cd_seq (cd_region (st_v (v_move rfl) (st_v (v_build (cells := [.slice wa (cs.filter (lowest l cm)).length wcap, .int .i64 0]) rfl (fun _ => by kernel_rfl)) ?_))))))))
      refine st_stoW rfl rfl sz30 rfl rfl ?_
      refine st_nil (nx_kp [6] rfl (nx_then (cd_ret ?_)))
      exact xt_retV (.cellN rfl ld30 rfl (by repeat (first | exact Sel.here | apply Sel.there)) .nil) ⟨_, rfl, _, rfl, rfl, hkl⟩ (by repeat (first | exact Sub.refl _ | exact Sub.nil _ | refine Sub.sel (by repeat (first | exact Sel.here | apply Sel.there)) ?_ | apply Sub.cons))
end
end Go.Hr
namespace Go.Hr
open Go Go.RowKit Go.Ck Go.Proofs Go.Proofs.Ytjgiaohieadeiaa Fx
attribute [local irreducible] Go.Ck.Sub St Cd Xt Nx DrL LsW
def maxI (l : Sys) (o ps : List Nm) (k : Nat) : Nat := mx (((o.take k).filter fun x => ps.contains x).map fun x => lv l x + 1)
theorem maxI_yes {l : Sys} {o ps : List Nm} {k : Nat} (h : k < o.length) (hc : ps.contains o[k] = true) : maxI l o ps (k + 1) = max (maxI l o ps k) (lv l o[k] + 1) := by
  unfold maxI
  rw [List.take_succ_eq_append_getElem h, List.filter_append, List.filter_cons, if_pos hc, List.filter_nil, List.map_append, List.map_cons, List.map_nil, mx_snoc]
theorem maxI_no {l : Sys} {o ps : List Nm} {k : Nat} (h : k < o.length) (hc : ps.contains o[k] = false) : maxI l o ps (k + 1) = maxI l o ps k := by
  unfold maxI
  rw [List.take_succ_eq_append_getElem h, List.filter_append, List.filter_cons, if_neg (by rw [hc]; decide)]; simp
theorem mx_perm {a b : List Nat} (h : ∀ x, x ∈ a ↔ x ∈ b) : mx a = mx b :=
  Nat.le_antisymm (mx_le fun x hx => le_mx ((h x).1 hx)) (mx_le fun x hx => le_mx ((h x).2 hx))
theorem maxI_all {l : Sys} (hR : Right l) {o : List Nm} (hT : Tp l o) {i : Nat} (hi : i < o.length) : maxI l o (par l o[i]) i = lv l o[i] := by
  rw [lv_rec hR.acyc]
  unfold maxI
  exact mx_perm fun x => ((sel_perm hR hT hi).map fun p => lv l p + 1).mem_iff
theorem maxI_le {l : Sys} (hR : Right l) (o ps : List Nm) (k : Nat) : maxI l o ps k ≤ 1000 := mx_le fun x hx => by
  obtain ⟨y, _, rfl⟩ := List.mem_map.1 hx
  have := lv_24 hR.acyc hR.len y
  omega
section
variable {S N : Res} {v nv : Value} {l : Sys} {ns : List Nm}
set_option maxHeartbeats 1000000 in
set_option maxRecDepth 100000 in
theorem levelS_ct (hv : sysR S v l) (hR : Right l) (c : Nm) : Reads Try.prog 62 #[v, sv c] [S] (.int .i64 (lv l c)) := by
  obtain ⟨la, cap, rfl, _⟩ := id hv
  have hFl := hR.len
  refine ct_of (n := 56) Try.func62 rfl rfl (len rfl) fun hr w0 => ?_
  refine cd_seq (cd_region (st_v (v_assign rfl) (st_nil (nx_then (cd_seq (cd_region (st_v (v_move rfl) (st_v (v_move rfl) (st_cl rfl rfl en73 rfl (aboveT_ct hv hR c) ?_)))))))))
  rintro u h' ⟨T, rfl, hu1, rfl, hu⟩
  simp only [List.cons_append, List.nil_append]
  obtain ⟨hT, _⟩ := above_spec hR.acyc c
  have hal := aboveC_len hR c
  obtain ⟨o1, ho1⟩ := above_last hR.acyc c
  generalize above l c = o at *
  obtain ⟨ua, ucap, rfl, _⟩ := id hu
  refine st_v (v_assign rfl) (st_nil (nx_kp [0, 4, 5] rfl (nx_then (cd_seq (cd_region (st_v (v_assign rfl) (st_nil (nx_then (cd_seq (cd_seq (cd_region (st_v (v_assign rfl) (st_nil (nx_then (cd_block (cd_vw (vw_nil 3 1) (cd_lq (σ := Value × Nat) (fun q => [(0, .slice la l.length cap), (5, .slice ua o.length ucap), (6, q.1), (7, .int .i64 (q.2 : Nat))]) (fun q => IR q.1 ((o.take q.2).map (lv l)) :: NR (.slice ua o.length ucap) o :: S :: hr) (fun q => q.1.oneCell' = true ∧ q.2 ≤ o.length) (fun q => o.length - q.2) (.slice none 0 0, 0) ⟨rfl, Nat.zero_le _⟩ ?_)))))))))))))))))
  rintro ⟨mv, i⟩ ⟨hmv, hi⟩
  simp only at hmv hi
  dsimp only
  refine cd_seq (cd_seq (cd_region (st_v (v_move rfl) (st_v (v_move rfl) (st_v (v_len rfl Try.underlying25) (st_v (v_lss rfl rfl) (st_nil (nx_kp [0, 5, 6, 7, 18] rfl (nx_then (cd_cond rfl (fun hd => ?_) (fun hd => ?_)))))))))))
  · skip
    have hlt : i < o.length := by simpa using hd
    obtain ⟨xb, xo, xcap, hxv, hxrd⟩ := nms_at hu (List.getElem?_eq_getElem hlt)
    have hws := maxI_all hR hT hlt
    have htk : (o.take (i + 1)).map (lv l) = (o.take i).map (lv l) ++ [lv l o[i]] := by rw [List.take_succ_eq_append_getElem hlt, List.map_append]; rfl
    have hpf := hR.par_few o[i]
    have hml : ((o.take i).map (lv l)).length = i := by simp; omega
    refine cd_ok (r := IR mv ((o.take i).map (lv l))) (by repeat (first | exact Sel.here | apply Sel.there)) fun hokm => ?_
    have hmr := ints_own hokm
    generalize hz : o[i] = z at *
    refine cd_skip (xt_then (cd_seq (cd_block (cd_seq (cd_region (st_v (v_assign rfl) (st_nil (nx_kp [0, 5, 6, 7, 8] rfl (nx_then (cd_seq (cd_region (st_v (v_move rfl) (st_v (v_move rfl) (st_v (v_move rfl) (st_v (v_indexAddr (k := i) (congrArg some hxv) rfl sl25 rfl hlt rfl) ?_)))))))))))))))
    refine st_v (v_ldy rfl ld9) ?_
    refine st_cl rfl rfl en59 rfl (parents_ct hv z (by omega) hR.sel) ?_
    rintro u h' ⟨T, rfl, hp1, rfl, hpn⟩
    simp only [List.cons_append, List.nil_append]
    rw [hR.pars_eq] at *
    generalize par l z = ps at *
    refine st_v (v_assign rfl) (st_nil (nx_kp [0, 5, 6, 7, 8, 9] rfl (nx_then (cd_seq (cd_seq (cd_region (st_v (v_assign rfl) (st_nil (nx_then (cd_block (cd_lq (σ := Nat) (fun k => [(0, .slice la l.length cap), (5, .slice ua o.length ucap), (6, mv), (7, .int .i64 (i : Nat)), (8, .int .i64 (maxI l o ps k : Nat)), (9, u), (10, .int .i64 (k : Nat))]) (fun _ => NR u ps :: IR mv ((o.take i).map (lv l)) :: NR (.slice ua o.length ucap) o :: S :: hr) (fun k => k ≤ i) (fun k => i - k) 0 (Nat.zero_le _) ?_)))))))))))
    rintro k hk
    refine cd_seq (cd_seq (cd_region (st_v (v_move rfl) (st_v (v_move rfl) (st_v (v_lss rfl rfl) (st_nil (nx_kp [0, 5, 6, 7, 8, 9, 10, 29] rfl (nx_then (cd_cond rfl (fun hd2 => ?_) (fun hd2 => ?_))))))))))
    · skip
      have hki : k < i := by simpa using hd2
      have hko : k < o.length := by omega
      obtain ⟨yb, yo, ycap, hyv, hyrd⟩ := nms_at hu (List.getElem?_eq_getElem hko)
      have hyes := maxI_yes (l := l) (ps := ps) hko
      have hno := maxI_no (l := l) (ps := ps) hko
      have hsl := maxI_le hR o ps k
      have hmg : ((o.take i).map (lv l))[k]? = some (lv l o[k]) := by
        rw [List.getElem?_map, List.getElem?_take, if_pos hki, List.getElem?_eq_getElem hko]; rfl
      obtain ⟨mb, mo, mcap, hmv2, hmrd⟩ := ints_at hmr hmg
      have hwl := lv_24 hR.acyc hFl o[k]
      generalize o[k] = y at *
      generalize lv l y = wy at *
      refine cd_skip (xt_then (cd_seq (cd_block (cd_seq (cd_region (st_v (v_move rfl) (st_v (v_move rfl) (st_v (v_move rfl) (st_v (v_indexAddr (k := k) (congrArg some hyv) rfl sl25 rfl hko rfl) (st_v (v_ldy rfl ld9) ?_))))))))))
      refine st_clr rfl rfl en57 rfl (Has_ct hpn y (by omega)) ?_
      refine st_v (v_assign rfl) (st_nil (nx_kp [0, 5, 6, 7, 8, 9, 10, 11] rfl (nx_then (cd_seq (cd_region (st_v (v_move rfl) (st_nil (nx_kp [0, 5, 6, 7, 8, 9, 10, 38] rfl (nx_then (cd_cond rfl (fun hx => ?_) (fun hx => ?_)))))))))))
      · skip
        have hyes := hyes hx
        refine cd_region (st_v (v_move rfl) (st_v (v_move rfl) (st_v (v_move rfl) (st_v (v_indexAddr (k := k) (congrArg some hmv2) rfl sl137 rfl (by omega) rfl) (st_v (v_ldy rfl ld3) ?_)))))
        refine st_v (v_add rfl rfl (by unfold I64 at *; omega)) (st_v (v_imax (a := maxI l o ps k) (b := wy + 1) rfl rfl) (st_v (v_assign rfl) (st_nil (nx_kp [0, 5, 6, 7, 8, 9, 10] rfl (nx_xt (xt_normal_block (xt_then (cd_region (st_v (v_move rfl) (st_v (v_add rfl rfl (by unfold I64 at *; omega)) (st_v (v_assign rfl) (st_nil (nx_kp [0, 5, 6, 7, 8, 9, 10] rfl (nx_xt ?_))))))))))))))
        rw [← hyes]
        refine xt_aq (k + 1) hki (Nat.sub_lt_sub_left hki (Nat.lt_succ_self k))
      · skip
        have hno := hno hx
        rw [← hno]
        refine cd_skip (xt_normal_block (xt_then (cd_region (st_v (v_move rfl) (st_v (v_add rfl rfl (by unfold I64 at *; omega)) (st_v (v_assign rfl) (st_nil (nx_kp [0, 5, 6, 7, 8, 9, 10] rfl (nx_xt ?_)))))))))
        refine xt_aq (k + 1) hki (Nat.sub_lt_sub_left hki (Nat.lt_succ_self k))
    · skip
      have hke : k = i := by have : ¬ k < i := by simpa using hd2
                             omega
      subst hke
      rw [hws]
      refine cd_exit (xt_exit_then (xt_exit_then (xt_exit_block (xt_then (cd_region (st_v (v_move rfl) (st_v (v_move rfl) (st_buildSlice (cells := iC (lv l z)) rfl Try.underlying137 inf3 rfl rfl (by kernel_rfl) (ltn rfl) fun b48 => ?_))))))))
      refine st_app [iC (lv l z)] rfl rfl Try.underlying137 inf3 rfl (by decide) (show Sel _ (IR mv ((o.take k).map (lv l))) _ from (by repeat (first | exact Sel.here | apply Sel.there))) (by simp [iC]) rfl (fun j u2 hu2 => at_here (rd_cl (by simpa [iC] using hu2))) (by simp [iC, Value.oneCell']) (by simp <;> omega) (by simp <;> omega) (ltn rfl) fun v' hv' _ => ?_
      rw [show ((o.take k).map (lv l)).map iC ++ [iC (lv l z)] = ((o.take (k + 1)).map (lv l)).map iC by rw [htk, List.map_append]; rfl]
      refine st_v (v_assign rfl) (st_nil (nx_kp [0, 5, 6, 7] rfl (nx_xt (xt_normal_block (xt_then (cd_region (st_v (v_move rfl) (st_v (v_add rfl rfl (by unfold I64 at *; omega)) (st_v (v_assign rfl) (st_nil (nx_kp [0, 5, 6, 7] rfl (nx_xt ?_))))))))))))
      refine xt_aq (v', k + 1) ⟨hv', hlt⟩ (Nat.sub_lt_sub_left hlt (Nat.lt_succ_self k))
  · skip
    have hil : i = o.length := by have : ¬ i < o.length := by simpa using hd
                                  omega
    subst hil
    rw [List.take_length]
    have hlast : (o.map (lv l))[o1.length]? = some (lv l c) := by rw [ho1]; simp
    have hol : o.length = o1.length + 1 := by rw [ho1]; simp
    refine cd_ok (r := IR mv (o.map (lv l))) (by repeat (first | exact Sel.here | apply Sel.there)) fun hokm => ?_
    have hmr := ints_own hokm
    obtain ⟨mb, mo, mcap, hmv2, hmrd⟩ := ints_at hmr hlast
    rw [List.length_map] at hmv2
    subst hmv2
    refine cd_exit (xt_exit_then (xt_exit_then (xt_exit_block (xt_then (cd_seq (cd_region (st_v (v_move rfl) (st_v (v_move rfl) (st_v (v_len rfl Try.underlying137) (st_v (v_sub rfl rfl (by unfold I64 at *; omega)) (st_v (v_indexAddr (k := o1.length) rfl rfl sl137 (by omega) (by omega) rfl) (st_v (v_ldy rfl ld3) ?_))))))))))))
    refine st_v (v_assign rfl) (st_nil (nx_kp [4] rfl (nx_then (cd_ret ?_))))
    exact xt_rt rfl ⟨rfl, rfl⟩ (by (repeat (refine Sub.sel (by repeat (first | exact Sel.here | apply Sel.there)) ?_)); (repeat apply Sub.cons); first | exact Sub.refl _ | exact Sub.nil _)
end
end Go.Hr
