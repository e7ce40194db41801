/-
  The law HeapRoom, walked. Conditions: what the heap holds.
  HeapRoom: for every input the law answers true, and the input reads as it did. No condition.
-/
import Derived.Test.YtmhmpjgkkpbnnaaM14
import Derived.Test.YtmhmpjgkkpbnnaaM4
import Derived.Test.YtmhmpjgkkpbnnaaRows
namespace Go.Proofs.Ytmhmpjgkkpbnnaa
open Go.Ck Fx Go.Hm Go.Hm.AM
attribute [local irreducible] St Cd Xt Nx DrL LsW
theorem Fine.kacts (en : Bool) : ∀ (l : List Go.Hm.Act) {m : AM}, Fine m → (r : List Int) → Kept m (AM.acts en l m r).2.1
  | [], m, _, _ => Kept.refl m
  | x :: t, m, h, r => by
    have h' := h.act en r x
    obtain ⟨_, _, _, _, _, g⟩ := h
    exact (g.kact en r x).trans (Fine.kacts en t h' _)
section
variable {R : Res} {v0 v4 : Value} {sh : List (List Bool)} {xs : List Go.Hm.Act} {half young n s : Int}
set_option maxHeartbeats 4000000 in
set_option maxRecDepth 100000 in
theorem heapRoom_c (hS : Shp R v0 sh) (hs0 : sh.length ≤ maxLen) (hX : ActsV R v4 xs) (ha : ∀ x ∈ xs, I64 x.a) (hh : 0 ≤ half ∧ half < 65536) (hy : 0 ≤ young ∧ young < 65536) (hn : 0 ≤ n ∧ n < 256) (hs : 0 ≤ s ∧ s < 256) :
    Ct Try.prog 5 #[v0, .int .u16 half, .int .u16 young, .int .u8 n, v4, .int .u8 s] [R] fun u h' => u = .bool true ∧ h' = [R] := by
  obtain ⟨a, cp, hv, _⟩ := id hS
  refine ct_of (n := 174) Try.func5 rfl rfl (len rfl) fun hr w0 => ?_
  simp only [List.cons_append, List.nil_append]
  refine cd_seq (cd_region (st_v (v_assign rfl) (st_nil (nx_then (cd_seq (cd_seq (cd_region (st_v (v_move rfl) (st_v (v_move rfl) (st_clr rfl rfl en28 rfl (light_ct hS hs0 hX) ?_))))))))))
  refine st_v (v_not rfl) (st_v (v_move rfl) (st_cut (k := 9) (d := 40) (v := .bool (!(lightp sh xs) || ((sh.length : Int) == 0))) (fun hcut => bool_want (b := !(lightp sh xs)) false (fun hg => ?_) (fun hg => ?_)) ?_))
  · refine st_sk rfl rfl hg ?_
    refine st_sk rfl rfl hg ?_
    refine st_sk rfl rfl hg ?_
    refine st_v (v_pick_true (bool_ev rfl hg) rfl) ?_
    exact hcut _ (ssub_head (by first | rfl | (rw [hg]; rfl) | simp_all) (ssub_skip rfl (ssub_skip rfl (ssub_skip rfl (ssub_refl)))))
  · skip
    refine st_vg rfl (bool_get rfl hg) (v_move rfl) (st_vg rfl (bool_get rfl hg) (v_len (congrArg some hv) Try.underlying22) (st_vg rfl (bool_get rfl hg) (v_eql rfl rfl) (st_v (v_pick_false (bool_ev rfl hg) rfl) ?_)))
    exact hcut _ (ssub_head (by first | rfl | (rw [hg]; rfl) | simp_all) (ssub_skip rfl (ssub_skip rfl (ssub_skip rfl (ssub_refl)))))
  refine st_nil (nx_kp [0, 1, 2, 3, 4, 5, 12, 40] rfl (nx_then (cd_cond rfl (fun hc => ?_) (fun hc => ?_))))
  · skip
    refine cd_seq (cd_region (st_cl rfl rfl en14 rfl (sanity_c) ?_))
    rintro v' h' ⟨rfl, rfl⟩
    simp only [List.nil_append]
    refine st_v (v_assign rfl) (st_nil (nx_kp [0, 1, 2, 3, 4, 5, 12] rfl (nx_then (cd_ret (xt_ret_then ?_)))))
    exact xt_rt rfl ⟨rfl, rfl⟩ (by (repeat (refine Sub.sel (by repeat (first | exact Sel.here | apply Sel.there)) ?_)); (repeat apply Sub.cons); first | exact Sub.refl _ | exact Sub.nil _)
  · skip
    simp only [Bool.or_eq_false_iff, Bool.not_eq_false'] at hc
    obtain ⟨hl, hz⟩ := hc
    refine cd_skip (xt_then (cd_seq (cd_region (st_v (v_move rfl) (st_v (v_move rfl) (st_clr rfl rfl en29 rfl (spaces_ct hh hy) ?_))))))
    refine st_v (v_move rfl) (st_v (v_extract rfl rfl) (st_v (v_extract rfl rfl) (st_v (v_assign rfl) (st_v (v_assign rfl) (st_nil (nx_kp [0, 3, 4, 5, 12, 13, 14] rfl (nx_then (cd_seq (cd_region (st_v (v_move rfl) ?_))))))))))
    have hn1 : IntKind.wrap .i64 n = n := I64.wrap (by unfold I64; omega)
    obtain ⟨p1, p2⟩ := tmod_bd (k := 20) (by omega) hn.1
    refine st_v (v_conv rfl Try.underlying5 Try.underlying3 hn1) (st_v (v_rem rfl rfl (by decide) (I64.wrap (by unfold I64; omega))) ?_)
    refine st_v (v_add rfl rfl (by unfold I64 at *; omega)) (st_v (v_assign rfl) (st_nil (nx_kp [0, 4, 5, 12, 13, 14, 15] rfl (nx_then (cd_seq (cd_region (st_v (v_move rfl) (st_v (v_move rfl) (st_v (v_move rfl) (st_v (v_move rfl) (st_v (v_move rfl) ?_)))))))))))
    have hsl : sh.length ≤ 1000000 := by
      unfold lightp at hl
      simp only [Bool.and_eq_true, decide_eq_true_eq] at hl
      omega
    refine st_cl rfl rfl en30 rfl (play_c (half := pick1 600 half) (young := pick1 100 young) (n := 1 + n.tmod 20) hS hsl hX ha) ?_
    rintro v' h' hu
    rcases hu with ⟨hne, rfl, rfl⟩ | ⟨hpe, hne, hN0, hN2, hxl, L0, μ0, S1, rv0, ev0, rfl, I0, rfl⟩
    · skip
      simp only [List.cons_append, List.nil_append]
      refine st_v (v_move rfl) (st_v (v_extract rfl rfl) (st_v (v_extract rfl rfl) (st_v (v_extract rfl rfl) (st_v (v_extract rfl rfl) (st_v (v_assign rfl) (st_v (v_assign rfl) (st_v (v_assign rfl) (st_v (v_assign rfl) (st_nil (nx_kp [0, 5, 12, 13, 14, 16, 17, 19] rfl (nx_then (cd_seq (cd_seq (cd_region (st_v (v_move rfl) ?_)))))))))))))))
      refine st_v (v_neq rfl rfl) (st_nil (nx_kp [0, 5, 12, 13, 14, 16, 17, 64] rfl (nx_then (cd_cond rfl (fun hA => ?_) (fun hA => ?_)))))
      · skip
        refine cd_seq (cd_region (st_cl rfl rfl en14 rfl (sanity_c) ?_))
        rintro v' h' ⟨rfl, rfl⟩
        simp only [List.nil_append]
        refine st_v (v_assign rfl) (st_nil (nx_kp [0, 5, 12, 13, 14, 16, 17] rfl (nx_then (cd_ret (xt_ret_then ?_)))))
        exact xt_rt rfl ⟨rfl, rfl⟩ (by (repeat (refine Sub.sel (by repeat (first | exact Sel.here | apply Sel.there)) ?_)); (repeat apply Sub.cons); first | exact Sub.refl _ | exact Sub.nil _)
      · skip
        exact absurd (by simpa using hA) hne
    · skip
      simp only [List.cons_append, List.nil_append]
      refine st_v (v_move rfl) (st_v (v_extract rfl rfl) (st_v (v_extract rfl rfl) (st_v (v_extract rfl rfl) (st_v (v_extract rfl rfl) (st_v (v_assign rfl) (st_v (v_assign rfl) (st_v (v_assign rfl) (st_v (v_assign rfl) (st_nil (nx_kp [0, 5, 12, 13, 14, 16, 17, 19] rfl (nx_then (cd_seq (cd_seq (cd_region (st_v (v_move rfl) ?_)))))))))))))))
      refine st_v (v_neq rfl rfl) (st_nil (nx_kp [0, 5, 12, 13, 14, 16, 17, 64] rfl (nx_then (cd_false rfl ?_))))
      refine cd_skip (xt_then (cd_seq (cd_region (st_v (v_move rfl) ?_))))
      have hF := Fine.acts false xs (fine_new hne) (List.replicate (1 + n.tmod 20).toNat 0)
      have hK := Fine.kacts false xs (fine_new hne) (List.replicate (1 + n.tmod 20).toNat 0)
      have hL := acts_len false xs (new' sh (pick1 600 half) (pick1 100 young)) (List.replicate (1 + n.tmod 20).toNat 0)
      rw [List.length_replicate] at hL
      generalize (acts false xs (new' sh (pick1 600 half) (pick1 100 young)) (List.replicate (1 + n.tmod 20).toNat 0)).2.1 = M at I0 hF hK ⊢
      generalize (acts false xs (new' sh (pick1 600 half) (pick1 100 young)) (List.replicate (1 + n.tmod 20).toNat 0)).2.2 = r0 at hL ⊢
      generalize (acts false xs (new' sh (pick1 600 half) (pick1 100 young)) (List.replicate (1 + n.tmod 20).toNat 0)).1 = e0
      have kS : M.sh = sh := hK.sh
      have kY : M.Y = pick1 100 young := hK.Y
      have kH : M.H = pick1 600 half := hK.H
      obtain ⟨ly, ln, lf, φ, A, hg⟩ := id hF
      obtain ⟨b1, b2, b3, b4, b5⟩ := hg.room_bd
      rw [kY] at b2
      rw [kH] at b5
      have hrm := room_c I0
      unfold memSH at hrm ⊢
      simp only [List.cons_append, List.nil_append] at hrm ⊢
      refine st_clr rfl rfl en24 rfl (hrm) ?_
      refine st_alc al54 fun b20 => ?_
      refine st_stoW rfl rfl sz54 rfl rfl ?_
      refine st_nil (nx_kp [0, 5, 12, 13, 14, 16, 17, 20] rfl (nx_then (cd_seq (cd_seq (cd_region (st_v (v_fieldAddr rfl fa54_0 rfl) (st_v (v_ld rfl ld3) ?_)))))))
      refine st_v (v_lss rfl rfl) (st_v (v_move rfl) ?_)
      have hp1 := pick1_bd (k := 600) (by omega) hh.1
      have hp2 := pick1_bd (k := 100) (by omega) hy.1
      refine st_cut (k := 9) (d := 76) (v := .bool (decide (M.room.1 < 0) || decide (pick1 100 young < M.room.1))) (fun hcut => bool_want (b := decide (M.room.1 < 0)) false (fun hg => ?_) (fun hg => ?_)) ?_
      · refine st_sk rfl rfl hg ?_
        refine st_sk rfl rfl hg ?_
        refine st_sk rfl rfl hg ?_
        refine st_sk rfl rfl hg ?_
        refine st_v (v_pick_true (bool_ev rfl hg) rfl) ?_
        exact hcut _ (ssub_head (by first | rfl | (rw [hg]; rfl) | simp_all) (ssub_skip rfl (ssub_skip rfl (ssub_skip rfl (ssub_skip rfl (ssub_refl))))))
      · skip
        refine st_vg rfl (bool_get rfl hg) (v_fieldAddr rfl fa54_0 rfl) (st_vg rfl (bool_get rfl hg) (v_ld rfl ld3) ?_)
        refine st_vg rfl (bool_get rfl hg) (v_move rfl) (st_vg rfl (bool_get rfl hg) (v_gtr rfl rfl) (st_v (v_pick_false (bool_ev rfl hg) rfl) ?_))
        exact hcut _ (ssub_head (by first | rfl | (rw [hg]; rfl) | simp_all) (ssub_skip rfl (ssub_skip rfl (ssub_skip rfl (ssub_skip rfl (ssub_refl))))))
      refine st_v (v_move rfl) (st_cut (k := 14) (d := 81) (v := .bool ((decide (M.room.1 < 0) || decide (pick1 100 young < M.room.1)) || decide (M.room.2.1 < 0))) (fun hcut => bool_want (b := (decide (M.room.1 < 0) || decide (pick1 100 young < M.room.1))) false (fun hg => ?_) (fun hg => ?_)) ?_)
      · refine st_sk rfl rfl hg ?_
        refine st_sk rfl rfl hg ?_
        refine st_sk rfl rfl hg ?_
        refine st_v (v_pick_true (bool_ev rfl hg) rfl) ?_
        exact hcut _ (ssub_head (by first | rfl | (rw [hg]; rfl) | simp_all) (ssub_skip rfl (ssub_skip rfl (ssub_skip rfl (ssub_refl)))))
      · skip
        refine st_vg rfl (bool_get rfl hg) (v_fieldAddr rfl fa54_1 rfl) (st_vg rfl (bool_get rfl hg) (v_ld rfl ld3) ?_)
        refine st_vg rfl (bool_get rfl hg) (v_lss rfl rfl) (st_v (v_pick_false (bool_ev rfl hg) rfl) ?_)
        exact hcut _ (ssub_head (by first | rfl | (rw [hg]; rfl) | simp_all) (ssub_skip rfl (ssub_skip rfl (ssub_skip rfl (ssub_refl)))))
      refine st_v (v_move rfl) (st_cut (k := 19) (d := 86) (v := .bool (((decide (M.room.1 < 0) || decide (pick1 100 young < M.room.1)) || decide (M.room.2.1 < 0)) || decide (M.room.2.2 < 0))) (fun hcut => bool_want (b := ((decide (M.room.1 < 0) || decide (pick1 100 young < M.room.1)) || decide (M.room.2.1 < 0))) false (fun hg => ?_) (fun hg => ?_)) ?_)
      · refine st_sk rfl rfl hg ?_
        refine st_sk rfl rfl hg ?_
        refine st_sk rfl rfl hg ?_
        refine st_v (v_pick_true (bool_ev rfl hg) rfl) ?_
        exact hcut _ (ssub_head (by first | rfl | (rw [hg]; rfl) | simp_all) (ssub_skip rfl (ssub_skip rfl (ssub_skip rfl (ssub_refl)))))
      · skip
        refine st_vg rfl (bool_get rfl hg) (v_fieldAddr rfl fa54_2 rfl) (st_vg rfl (bool_get rfl hg) (v_ld rfl ld3) ?_)
        refine st_vg rfl (bool_get rfl hg) (v_lss rfl rfl) (st_v (v_pick_false (bool_ev rfl hg) rfl) ?_)
        exact hcut _ (ssub_head (by first | rfl | (rw [hg]; rfl) | simp_all) (ssub_skip rfl (ssub_skip rfl (ssub_skip rfl (ssub_refl)))))
      refine st_v (v_move rfl) (st_cut (k := 28) (d := 95) (v := .bool ((((decide (M.room.1 < 0) || decide (pick1 100 young < M.room.1)) || decide (M.room.2.1 < 0)) || decide (M.room.2.2 < 0)) || decide (pick1 600 half - M.room.2.2 < M.room.2.1))) (fun hcut => bool_want (b := (((decide (M.room.1 < 0) || decide (pick1 100 young < M.room.1)) || decide (M.room.2.1 < 0)) || decide (M.room.2.2 < 0))) false (fun hg => ?_) (fun hg => ?_)) ?_)
      · refine st_sk rfl rfl hg ?_
        refine st_sk rfl rfl hg ?_
        refine st_sk rfl rfl hg ?_
        refine st_sk rfl rfl hg ?_
        refine st_sk rfl rfl hg ?_
        refine st_sk rfl rfl hg ?_
        refine st_sk rfl rfl hg ?_
        refine st_v (v_pick_true (bool_ev rfl hg) rfl) ?_
        exact hcut _ (ssub_head (by first | rfl | (rw [hg]; rfl) | simp_all) (ssub_skip rfl (ssub_skip rfl (ssub_skip rfl (ssub_skip rfl (ssub_skip rfl (ssub_skip rfl (ssub_skip rfl (ssub_refl)))))))))
      · skip
        refine st_vg rfl (bool_get rfl hg) (v_fieldAddr rfl fa54_1 rfl) (st_vg rfl (bool_get rfl hg) (v_ld rfl ld3) ?_)
        refine st_vg rfl (bool_get rfl hg) (v_move rfl) (st_vg rfl (bool_get rfl hg) (v_fieldAddr rfl fa54_2 rfl) (st_vg rfl (bool_get rfl hg) (v_ld rfl ld3) ?_))
        refine st_vg rfl (bool_get rfl hg) (v_sub rfl rfl (by unfold I64 at *; omega)) (st_vg rfl (bool_get rfl hg) (v_gtr rfl rfl) (st_v (v_pick_false (bool_ev rfl hg) rfl) ?_))
        exact hcut _ (ssub_head (by first | rfl | (rw [hg]; rfl) | simp_all) (ssub_skip rfl (ssub_skip rfl (ssub_skip rfl (ssub_skip rfl (ssub_skip rfl (ssub_skip rfl (ssub_skip rfl (ssub_refl)))))))))
      refine st_nil (nx_kp [0, 5, 12, 13, 14, 16, 17, 95] rfl (nx_then (cd_cond rfl (fun hB => ?_) (fun hB => ?_))))
      · skip
        exact absurd hB (by simp only [Bool.or_eq_true, decide_eq_true_eq]; omega)
      · skip
        refine cd_skip (xt_then (cd_seq (cd_seq (cd_region (st_v (v_move rfl) (st_v (v_move rfl) (st_v (v_mul rfl rfl (by unfold I64 at *; omega)) ?_)))))))
        have hst := step_c I0 hg (2 * pick1 600 half) (by unfold I64; omega)
        have hse := step_err (m := M) (w := 2 * pick1 600 half) (by omega)
        have hF1 := hF.step (2 * pick1 600 half)
        have hK1 := hK.trans (hg.kstep (2 * pick1 600 half))
        unfold memSH at hst
        refine st_cl rfl rfl en31 rfl (hst) ?_
        rintro v' h' ⟨L1, μ1, rfl, I1, hL1, rfl⟩
        rw [hse]
        generalize (M.step (2 * pick1 600 half)).2.2 = M1 at I1 hF1 hK1
        generalize (M.step (2 * pick1 600 half)).1 = le1
        simp only [List.cons_append, List.nil_append]
        refine st_v (v_move rfl) (st_v (v_extract rfl rfl) (st_v (v_extract rfl rfl) (st_v (v_assign rfl) (st_v (v_assign rfl) (st_nil (nx_kp [0, 5, 12, 13, 14, 16, 17, 22] rfl (nx_then (cd_seq (cd_region (st_v (v_move rfl) (st_v (v_neq rfl rfl) (st_nil (nx_kp [0, 5, 12, 13, 14, 16, 17, 104] rfl (nx_then (cd_false rfl ?_)))))))))))))))
        refine cd_skip (xt_then (cd_seq (cd_region (st_v (v_move rfl) (st_v (v_move rfl) (st_vecshape (v := rv0) (E := 3) (sz := 1) (n := r0.length) (l := ints r0) (by repeat (first | exact Sel.here | apply Sel.there)) fun ra rcp hrv hra => ?_))))))
        have hri : RowI (vec rv0 3 1 r0.length (ints r0)) rv0 r0 := rowI_vec hrv hra rfl
        have hwh := whole_c I1 hF1 hri (by omega) (w := 7) (by unfold I64; omega)
        unfold memSH at hwh
        rw [hL1] at hwh
        simp only [List.cons_append, List.nil_append] at hwh
        have ho : rv0.oneCell' = true := by rw [hrv]; rfl
        refine st_cl rfl rfl en32 rfl (hwh) ?_
        rintro v' h' ⟨rv2, L2, μ2, rfl, I2, hL2, rfl⟩
        simp only [List.cons_append, List.nil_append]
        refine st_v (v_move rfl) (st_v (v_extract rfl rfl) (st_v (v_extract rfl rfl) (st_v (v_extract rfl rfl) (st_v (v_assign rfl) (st_v (v_assign rfl) (st_v (v_assign rfl) (st_nil (nx_kp [0, 5, 12, 13, 14, 16, 23, 25] rfl (nx_then (cd_seq (cd_seq (cd_region (st_v (v_move rfl) (st_v (v_not rfl) (st_nil (nx_kp [0, 5, 12, 13, 14, 16, 23, 113] rfl (nx_then ?_)))))))))))))))))
        refine cd_cond rfl (fun hW => ?_) (fun hW => ?_)
        · skip
          refine cd_seq (cd_region (st_cl rfl rfl en14 rfl (sanity_c) ?_))
          rintro v' h' ⟨rfl, rfl⟩
          simp only [List.nil_append]
          refine st_v (v_assign rfl) (st_nil (nx_kp [0, 5, 12, 13, 14, 16, 23] rfl (nx_then (cd_ret (xt_ret_then ?_)))))
          exact xt_rt rfl ⟨rfl, rfl⟩ (by (repeat (refine Sub.sel (by repeat (first | exact Sel.here | apply Sel.there)) ?_)); (repeat apply Sub.cons); first | exact Sub.refl _ | exact Sub.nil _)
        · skip
          have hW : (M1.whole r0 7).2.2.1 = true := by simpa using hW
          refine cd_skip (xt_then (cd_seq (cd_region (st_v (v_move rfl) ?_))))
          obtain ⟨ly1, ln1, lf1, φ1, A1, g1⟩ := id hF1
          obtain ⟨ln2, φ2, g2, R2, s1, s2, s3, s4, s5⟩ := whole_spec g1 hW
          have hR2 : ∀ x ∈ (M1.whole r0 7).1, x = 0 ∨ x ∈ ln2 := fun x hx => by
            obtain ⟨i, hi, rfl⟩ := List.getElem_of_mem hx
            exact (R2.2 i (by rw [← R2.1]; exact hi) hi).1
          have hl2 : (M1.whole r0 7).1.length = (1 + n.tmod 20).toNat := R2.1.trans hL
          have hY2 : (M1.whole r0 7).2.2.2.Y = pick1 100 young := s2.trans (hK1.Y)
          have hH2 : (M1.whole r0 7).2.2.2.H = pick1 600 half := s3.trans (hK1.H)
          have hS2 : (M1.whole r0 7).2.2.2.sh = sh := s1.trans (hK1.sh)
          generalize (M1.whole r0 7).2.2.2 = M2 at *
          generalize (M1.whole r0 7).1 = a2 at *
          generalize (M1.whole r0 7).2.1 = le2 at *
          have hz0 : (0 : Int) < sh.length := by
            have : (sh.length : Int) ≠ 0 := by simpa using hz
            omega
          have hs1 : IntKind.wrap .i64 s = s := I64.wrap (by unfold I64; omega)
          obtain ⟨q1, q2⟩ := tmod_bd hz0 hs.1
          refine st_v (v_conv rfl Try.underlying5 Try.underlying3 hs1) (st_v (v_move rfl) (st_v (v_len (congrArg some hv) Try.underlying22) (st_v (v_rem rfl rfl (by omega) (I64.wrap (by unfold I64; omega))) ?_)))
          refine st_v (v_assign rfl) (st_nil (nx_kp [0, 12, 13, 14, 16, 23, 26] rfl (nx_then (cd_seq (cd_region (st_v (v_move rfl) (st_v (v_move rfl) ?_)))))))
          generalize s.tmod (sh.length : Int) = q at q1 q2 ⊢
          have hk : q.toNat < sh.length := by omega
          obtain ⟨b1, o1, cp1, u, hv', hu, a5, cp5, hu2, _⟩ := hS.row hk
          have hsz : sh[q.toNat].length ≤ 100 := g2.g.sz.w _ (by rw [hS2]; exact List.getElem_mem hk)
          refine st_v (v_ixo _ (congrArg some hv') rfl sl22 (Int.toNat_of_nonneg q1).symm hk) (st_v (v_ld rfl ld73) ?_)
          refine st_v (v_len (congrArg some hu2) Try.underlying73) (st_v (v_add rfl rfl (by unfold I64 at *; omega)) (st_v (v_assign rfl) (st_nil (nx_kp [12, 13, 14, 16, 23, 26, 27] rfl (nx_then (cd_seq (cd_region (st_v (v_move rfl) (st_v (v_move rfl) ?_)))))))))
          have hal := alloc_c I2 g2 q
          have ha0 := alloc_first (m := M2) s4 (s := q) q1 (by rw [hS2]; exact q2)
          rw [hS2, hY2, getD_lt hk] at ha0
          have hfm := fun he => g2.first_minor s4 (s := q) he hR2 (by omega)
          rw [hS2, hH2, getD_lt hk] at hfm
          unfold memSH at hal
          rw [hL2] at hal
          simp only [ha0] at hal
          refine st_cl rfl rfl en33 rfl (hal) ?_
          rintro v' h' ⟨μ3, rfl, I3, rfl⟩
          refine st_v (v_move rfl) (st_v (v_extract rfl rfl) (st_v (v_extract rfl rfl) (st_v (v_assign rfl) (st_v (v_assign rfl) (st_nil (nx_kp [12, 13, 14, 16, 23, 27, 28, 29] rfl (nx_then (cd_seq (cd_seq (cd_region (st_v (v_move rfl) (st_v (v_move rfl) (st_v (v_gtr rfl rfl) (st_nil (nx_kp [12, 13, 16, 23, 27, 28, 29, 134] rfl (nx_then (cd_cond rfl (fun hC => ?_) (fun hC => ?_))))))))))))))))))
          · skip
            rw [if_pos (of_decide_eq_true hC)]
            refine cd_seq (cd_region (st_cl rfl rfl en14 rfl (sanity_c) ?_))
            rintro v' h' ⟨rfl, rfl⟩
            simp only [List.nil_append]
            refine st_v (v_move rfl) (st_vg rfl rfl (v_move rfl) (st_vg rfl rfl (v_eql rfl rfl) (st_v (v_pick_true rfl rfl) (st_v (v_assign rfl) (st_nil (nx_kp [12, 13, 16, 23, 27, 28, 29] rfl (nx_then (cd_ret (xt_ret_then ?_)))))))))
            exact xt_rt rfl ⟨rfl, rfl⟩ (by (repeat (refine Sub.sel (by repeat (first | exact Sel.here | apply Sel.there)) ?_)); (repeat apply Sub.cons); first | exact Sub.refl _ | exact Sub.nil _)
          · skip
            have hC := of_decide_eq_false hC
            rw [if_neg hC] at ha0 ⊢
            refine cd_skip (xt_then (cd_seq (cd_seq (cd_region (st_v (v_move rfl) (st_v (v_neq rfl rfl) (st_v (v_move rfl) (st_vecshape (v := rv2) (E := 3) (sz := 1) (n := a2.length) (l := ints a2) (by repeat (first | exact Sel.here | apply Sel.there)) fun ra2 rcp2 hrv2 hra2 => ?_))))))))
            have h0 : 0 < a2.length := by omega
            refine st_vg rfl rfl (v_move rfl) (st_vg rfl rfl (v_len (congrArg some hrv2) Try.underlying34) (st_vg rfl rfl (v_eql rfl rfl) (st_v (v_pick_false rfl rfl) (st_nil (nx_kp [12, 13, 16, 23, 27, 28, 146] rfl (nx_then (cd_cond rfl (fun hD => ?_) (fun hD => ?_))))))))
            · skip
              exact absurd hD (by simp only [beq_iff_eq]; omega)
            · skip
              refine cd_skip (xt_then (cd_seq (cd_row (v := rv2) (n := a2.length) (l := ints a2) h0 (by repeat (first | exact Sel.here | apply Sel.there)) fun b3 cp3 j3 hrv3 ho3 => ?_)))
              refine cd_region (st_v (v_move rfl) (st_v (v_move rfl) (st_v (v_idx 0 (congrArg some hrv3) rfl sl34 rfl h0) (st_sto rfl rfl sz3 ?_))))
              refine st_nil (nx_kp [12, 13, 16, 23, 27] rfl (nx_then (cd_seq ?_)))
              rw [show (ints a2 ++ j3).set 0 #[Value.int .i64 (M2.alloc q).1, Value.int .i64 0][0] = ints (a2.set 0 (M2.alloc q).1) ++ j3 from set_ints h0]
              refine cd_shut (E := 3) (l' := ints (a2.set 0 (M2.alloc q).1)) ho3 (by simp [ints]) (by repeat (first | exact Sel.here | apply Sel.there)) ?_
              have hri2 : RowI (vec rv2 3 1 a2.length (ints (a2.set 0 (M2.alloc q).1))) rv2 (a2.set 0 (M2.alloc q).1) := rowI_vec hrv2 hra2 (List.length_set ..)
              obtain ⟨ly3, ln3, lf3, φ3, A3, g3⟩ := Fine.alloc ⟨_, _, _, _, _, g2⟩ q
              have hmi := minor_c I3 g3 hri2 (by rw [List.length_set]; omega)
              unfold memSH at hmi
              rw [hL2] at hmi
              simp only [List.cons_append, List.nil_append] at hmi
              have hfm' := hfm ha0
              have hob : 0 ≤ M2.old - M2.base ∧ M2.old - M2.base ≤ 600 := by
                obtain ⟨_, _, c3, c4, c5⟩ := g2.room_bd
                rw [hH2] at c5
                unfold AM.room at c3 c4 c5
                dsimp only at c3 c4 c5
                omega
              have hro : ((M2.alloc q).2.2.minor (a2.set 0 (M2.alloc q).1)).2.1 = 14 → ((M2.alloc q).2.2.minor (a2.set 0 (M2.alloc q).1)).2.2.room.2.1 = M2.old - M2.base := fun he => by
                have hne : (M2.alloc q).2.2.minorErr (a2.set 0 (M2.alloc q).1) ≠ 0 := fun h0 => by rw [minor_err h0] at he; cases he
                rw [minor_no hne]
                obtain ⟨_, _, _, _, _, e⟩ := g2.alloc ha0
                rw [e]; rfl
              refine cd_region (st_v (v_move rfl) (st_v (v_move rfl) (st_cl rfl rfl en34 rfl (hmi) ?_)))
              rintro v' h' ⟨sl4, L4, μ4, rfl, I4, hL4, rfl⟩
              simp only [List.cons_append, List.nil_append]
              generalize (M2.alloc q).2.2.minor (a2.set 0 (M2.alloc q).1) = mm at *
              rcases hfm' with he | ⟨he, hbig⟩
              · rw [he]
                refine st_v (v_move rfl) (st_v (v_extract rfl rfl) (st_v (v_extract rfl rfl) (st_v (v_assign rfl) (st_v (v_assign rfl) (st_nil (nx_kp [12, 13, 16, 27, 31] rfl (nx_then (cd_seq (cd_region (st_cl rfl rfl en14 rfl (sanity_c) ?_))))))))))
                rintro v' h' ⟨rfl, rfl⟩
                simp only [List.nil_append]
                refine st_v (v_move rfl) (st_vg rfl rfl (v_move rfl) (st_vg rfl rfl (v_eql rfl rfl) (st_vg rfl rfl (v_move rfl) (st_sk rfl rfl rfl ?_))))
                refine st_sk rfl rfl rfl ?_
                refine st_sk rfl rfl rfl ?_
                refine st_sku rfl rfl ?_
                refine st_sku rfl rfl ?_
                refine st_sku rfl rfl ?_
                refine st_sku rfl rfl ?_
                refine st_sku rfl rfl ?_
                refine st_sku rfl rfl ?_
                refine st_sku rfl rfl ?_
                refine st_sk rfl rfl rfl ?_
                refine st_vg rfl rfl (v_pick_true rfl rfl) (st_v (v_pick_true rfl rfl) (st_v (v_assign rfl) (st_nil (nx_kp [12] rfl (nx_then (cd_ret ?_))))))
                exact xt_rt rfl ⟨rfl, rfl⟩ (by (repeat (refine Sub.sel (by repeat (first | exact Sel.here | apply Sel.there)) ?_)); (repeat apply Sub.cons); first | exact Sub.refl _ | exact Sub.nil _)
              · have hro := hro he
                have hrm4 := room_c I4
                unfold memSH at hrm4
                rw [hL4] at hrm4
                rw [he]
                refine st_v (v_move rfl) (st_v (v_extract rfl rfl) (st_v (v_extract rfl rfl) (st_v (v_assign rfl) (st_v (v_assign rfl) (st_nil (nx_kp [12, 13, 16, 27, 31] rfl (nx_then (cd_seq (cd_region (st_cl rfl rfl en14 rfl (sanity_c) ?_))))))))))
                rintro v' h' ⟨rfl, rfl⟩
                simp only [List.nil_append]
                refine st_v (v_move rfl) (st_vg rfl rfl (v_move rfl) (st_vg rfl rfl (v_eql rfl rfl) (st_vg rfl rfl (v_move rfl) (st_vg rfl rfl (v_move rfl) (st_vg rfl rfl (v_eql rfl rfl) (st_vg rfl rfl (v_move rfl) (st_vg rfl rfl (v_move rfl) (st_clrg rfl rfl rfl rfl en24 rfl (hrm4) ?_))))))))
                refine st_vg rfl rfl (v_field (v := .int .i64 mm.2.2.room.2.1) rfl (fun _ => by kernel_rfl)) ?_
                rw [hro]
                refine st_vg rfl rfl (v_move rfl) (st_vg rfl rfl (v_add rfl rfl (by unfold I64 at *; omega)) (st_vg rfl rfl (v_move rfl) (st_vg rfl rfl (v_gtr rfl rfl) (st_vg rfl rfl (v_pick_true rfl rfl) (st_vg rfl rfl (v_pick_false rfl rfl) (st_v (v_pick_true rfl rfl) (st_v (v_assign rfl) (st_nil (nx_kp [12] rfl (nx_then (cd_ret ?_)))))))))))
                exact xt_rt rfl ⟨by rw [decide_eq_true (by omega)]; rfl, rfl⟩ (by (repeat (refine Sub.sel (by repeat (first | exact Sel.here | apply Sel.there)) ?_)); (repeat apply Sub.cons); first | exact Sub.refl _ | exact Sub.nil _)
end
end Go.Proofs.Ytmhmpjgkkpbnnaa
namespace Go.Proofs.Ytmhmpjgkkpbnnaa
open Go Go.RowKit Go.ChangeShapes Go.WideShapes Go.Ck
set_option maxRecDepth 100000 in
theorem heapRoom_lifted (os : Os) (started : os.Started) (H : Type) (enc : TypeId × Value → H) :
    ReturnsInHanded {} Try.checked os 5 .any (Rows.heapRoomSpec.pre6 enc Try.prog Try.f5 Rows.heapRoomRow.domain false) (Rows.heapRoomSpec.post enc Try.prog Try.f5 false true false false) := by
  refine returnsInHanded_of_change (C := Try.checked) own' started (by kernel_rfl) Try.func5
    (ChangeSpec.witness6 (enc := enc) (C := Try.checked) false ⟨#[], #[.slice none 0 0, .int .u16 0, .int .u16 0, .int .u8 0, .slice none 0 0, .int .u8 0], []⟩ 8 (by kernel_rfl) (by kernel_rfl) (by kernel_rfl) (by kernel_rfl)) ?_
  intro W base args ds gs before hval0 hW hcnd _
  have hval : ∀ (j : Nat) t v, Try.f5.params[j]? = some t → args[j]? = some v → Value.okWide Try.prog W .any base t v := hval0
  have hW' := hW
  obtain ⟨p, q, hA0, hV, rfl, hfz, hnd⟩ := hW
  have hA : DataW.TrodAll enc Try.prog W 0 (fun _ => true) true Try.f5.params.toList args.toList ds p := hA0
  rw [Try.params5] at hA hval
  obtain ⟨v0, vs0, d0, ds0, p0, q0, hargs, rfl, rfl, h0, r0⟩ := trodAll_cons hA
  obtain ⟨v1, vs1, d1, ds1, p1, q1, rfl, rfl, rfl, h1, r1⟩ := trodAll_cons r0
  obtain ⟨v2, vs2, d2, ds2, p2, q2, rfl, rfl, rfl, h2, r2⟩ := trodAll_cons r1
  obtain ⟨v3, vs3, d3, ds3, p3, q3, rfl, rfl, rfl, h3, r3⟩ := trodAll_cons r2
  obtain ⟨v4, vs4, d4, ds4, p4, q4, rfl, rfl, rfl, h4, r4⟩ := trodAll_cons r3
  obtain ⟨v5, vs5, d5, ds5, p5, q5, rfl, rfl, rfl, h5, r5⟩ := trodAll_cons r4
  obtain ⟨rfl, rfl, rfl⟩ := trodAll_nil r5
  obtain rfl : args = #[v0, v1, v2, v3, v4, v5] := by cases args; simp_all
  obtain ⟨rfl, rfl⟩ := trodVars_none hV
  obtain ⟨y0, e0⟩ := arg_one (ty := .slice (.slice .bool)) (by kernel_rfl) (by kernel_rfl) (hval 0 22 v0 rfl rfl) h0
  obtain ⟨y1, e1⟩ := arg_one (ty := .int .u16) (by kernel_rfl) (by kernel_rfl) (hval 1 61 v1 rfl rfl) h1
  obtain ⟨y2, e2⟩ := arg_one (ty := .int .u16) (by kernel_rfl) (by kernel_rfl) (hval 2 61 v2 rfl rfl) h2
  obtain ⟨y3, e3⟩ := arg_one (ty := .int .u8) (by kernel_rfl) (by kernel_rfl) (hval 3 5 v3 rfl rfl) h3
  obtain ⟨y4, e4⟩ := arg_one (ty := .slice actTy) (by kernel_rfl) (by kernel_rfl) (hval 4 62 v4 rfl rfl) h4
  obtain ⟨y5, e5⟩ := arg_one (ty := .int .u8) (by kernel_rfl) (by kernel_rfl) (hval 5 5 v5 rfl rfl) h5
  obtain ⟨s0, l0⟩ := shp_of e0
  obtain ⟨s4, a4⟩ := acts_of e4
  obtain ⟨rfl, w1⟩ := rep_kind e1
  obtain ⟨rfl, w2⟩ := rep_kind e2
  obtain ⟨rfl, w3⟩ := rep_kind e3
  obtain ⟨rfl, w5⟩ := rep_kind e5
  refine (ct_calls (heapRoom_c s0 l0 s4 a4 (wf_u16 w1) (wf_u16 w2) (wf_u8 w3) (wf_u8 w5)) fun v h' h => ⟨h.1, by rw [h.2]; exact .refl _⟩).mono fun e W' ⟨he, hk⟩ => ⟨_, he, ?_⟩
  exact law_post (tys := [.slice (.slice .bool), .int .u16, .int .u16, .int .u8, .slice actTy, .int .u8]) hW' rfl (by kernel_rfl) Try.underlying4 (by rw [Try.params5]; kernel_rfl) rfl hk
theorem heapRoom_holds : Rows.HeapRoomSaid :=
  OpenClaim.holds_of_wide 5 Try.f5 rfl rfl rfl rfl rfl rfl rfl ⟨rfl, rfl, rfl, rfl, rfl⟩ rfl rfl rfl rfl rfl (by kernel_rfl) Try.func5 (by kernel_rfl)
    (of_decide_eq_true (by kernel_rfl)) (by unfold Func.isWrapper; first | (rw [if_pos (by decide +kernel)]; kernel_rfl) | (rw [if_neg (by decide +kernel)]; exact ⟨rfl, rfl⟩))
    (fun os started H enc _ => heapRoom_lifted os started H enc)
end Go.Proofs.Ytmhmpjgkkpbnnaa
