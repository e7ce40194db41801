/-
  The law HeapSmallSteps, walked. Conditions: what the heap holds.
  HeapSmallSteps: for every input the law answers true, and the input reads as it did. No condition.
-/
import Derived.Test.YtmhmpjgkkpbnnaaM13
import Derived.Test.YtmhmpjgkkpbnnaaM12
import Derived.Test.YtmhmpjgkkpbnnaaM10
import Derived.Test.YtmhmpjgkkpbnnaaM5
import Derived.Test.YtmhmpjgkkpbnnaaRows
namespace Go.Proofs.Ytmhmpjgkkpbnnaa
open Go.Ck Fx Go.Hm Go.Hm.AM
attribute [local irreducible] St Cd Xt Nx DrL LsW
section
variable {R : Res} {v0 v4 : Value} {sh : List (List Bool)} {xs : List Go.Hm.Act} {half young n a5 a6 : Int}
theorem newErr_sz {H Y : Int} (hne : newErr sh H Y = 0) : sh.length ≤ 100 ∧ (∀ l ∈ sh, l.length ≤ 100) ∧ 1 ≤ H ∧ H ≤ 100000 ∧ 1 ≤ Y ∧ Y ≤ 400000 := by
  obtain ⟨_, _, _, _, _, g⟩ := fine_new hne
  have z := g.g.sz
  exact ⟨z.n, z.w, z.H0, z.H1, z.Y0, z.Y1⟩
theorem wst_pic {m : AM} {r : List Int} {A : Store} {ys : List Int} (h : Wst m r A ys) : (m.pictured r).2 = 0 := by
  unfold AM.pictured
  rw [if_neg (by rw [h.rooted]; simp)]
set_option maxHeartbeats 4000000 in
set_option maxRecDepth 100000 in
theorem heapSmall_c (hS : Shp R v0 sh) (hs0 : sh.length ≤ maxLen) (hX : ActsV R v4 xs) (ha : ∀ x ∈ xs, I64 x.a) (hh : 0 ≤ half ∧ half < 65536) (hy : 0 ≤ young ∧ young < 65536) (hn : 0 ≤ n ∧ n < 256) (h5 : 0 ≤ a5 ∧ a5 < 256) (h6 : 0 ≤ a6 ∧ a6 < 256) :
    Ct Try.prog 9 #[v0, .int .u16 half, .int .u16 young, .int .u8 n, v4, .int .u8 a5, .int .u8 a6] [R] fun u h' => u = .bool true ∧ h' = [R] := by
  obtain ⟨a, cp, hv, _⟩ := id hS
  obtain ⟨xa, xcp, hxv, _⟩ := id hX
  refine ct_of (n := 154) Try.func9 rfl rfl (len rfl) fun hr w0 => ?_
  simp only [List.cons_append, List.nil_append]
  refine cd_seq (cd_region (st_v (v_assign rfl) (st_nil (nx_then (cd_seq (cd_seq (cd_region (st_v (v_move rfl) (st_v (v_move rfl) (st_clr rfl rfl en28 rfl (light_ct hS hs0 hX) ?_))))))))))
  refine st_v (v_not rfl) (st_nil (nx_kp [0, 1, 2, 3, 4, 5, 6, 14, 35] rfl (nx_then (cd_cond rfl (fun hc => ?_) (fun hc => ?_)))))
  · skip
    refine cd_seq (cd_region (st_cl rfl rfl en14 rfl (sanity_c) ?_))
    rintro v' h' ⟨rfl, rfl⟩
    simp only [List.nil_append]
    refine st_v (v_assign rfl) (st_nil (nx_kp [0, 1, 2, 3, 4, 5, 6, 14] rfl (nx_then (cd_ret (xt_ret_then ?_)))))
    exact xt_rt rfl ⟨rfl, rfl⟩ (by (repeat (refine Sub.sel (by repeat (first | exact Sel.here | apply Sel.there)) ?_)); (repeat apply Sub.cons); first | exact Sub.refl _ | exact Sub.nil _)
  · skip
    have hl : lightp sh xs = true := by simpa using hc
    have hsl : sh.length ≤ 1000000 := by
      unfold lightp at hl
      simp only [Bool.and_eq_true, decide_eq_true_eq] at hl
      omega
    refine cd_skip (xt_then (cd_seq (cd_region (st_v (v_move rfl) (st_v (v_move rfl) (st_clr rfl rfl en29 rfl (spaces_ct hh hy) ?_))))))
    refine st_v (v_move rfl) (st_v (v_extract rfl rfl) (st_v (v_extract rfl rfl) (st_v (v_assign rfl) (st_v (v_assign rfl) (st_nil (nx_kp [0, 3, 4, 5, 6, 14, 15, 16] rfl (nx_then (cd_seq (cd_region (st_v (v_move rfl) (st_v (v_move rfl) (st_v (v_move rfl) (st_v (v_move rfl) ?_)))))))))))))
    have hn1 : IntKind.wrap .i64 n = n := I64.wrap (by unfold I64; omega)
    have h51 : IntKind.wrap .i64 a5 = a5 := I64.wrap (by unfold I64; omega)
    have h61 : IntKind.wrap .i64 a6 = a6 := I64.wrap (by unfold I64; omega)
    obtain ⟨p1, p2⟩ := tmod_bd (k := 21) (by omega) hn.1
    refine st_v (v_conv rfl Try.underlying5 Try.underlying3 hn1) (st_v (v_rem rfl rfl (by decide) (I64.wrap (by unfold I64; omega))) ?_)
    obtain ⟨N, hN⟩ : ∃ N : Nat, n.tmod 21 = N := ⟨(n.tmod 21).toNat, by omega⟩
    rw [hN]
    rw [hN] at p1 p2
    refine st_v (v_move rfl) (st_cl rfl rfl en30 rfl (play_c (half := pick1 600 half) (young := pick1 100 young) (n := N) hS hsl hX ha) ?_)
    rintro v' h' hu
    rcases hu with ⟨hne, rfl, rfl⟩ | ⟨hpe, hne, hN0, hN2, hxl, L0, μ0, S1, rv0, ev0, rfl, I0, rfl⟩
    · skip
      simp only [List.cons_append, List.nil_append]
      refine st_v (v_move rfl) (st_v (v_extract rfl rfl) (st_v (v_extract rfl rfl) (st_v (v_extract rfl rfl) (st_v (v_extract rfl rfl) (st_v (v_assign rfl) (st_v (v_assign rfl) (st_v (v_assign rfl) (st_v (v_assign rfl) (st_nil (nx_kp [5, 6, 14, 17, 18, 20] rfl (nx_then (cd_seq (cd_seq (cd_region (st_v (v_move rfl) ?_)))))))))))))))
      refine st_v (v_neq rfl rfl) (st_nil (nx_kp [5, 6, 14, 17, 18, 57] rfl (nx_then (cd_cond rfl (fun hA => ?_) (fun hA => ?_)))))
      · skip
        refine cd_seq (cd_region (st_cl rfl rfl en14 rfl (sanity_c) ?_))
        rintro v' h' ⟨rfl, rfl⟩
        simp only [List.nil_append]
        refine st_v (v_assign rfl) (st_nil (nx_kp [5, 6, 14, 17, 18] rfl (nx_then (cd_ret (xt_ret_then ?_)))))
        exact xt_rt rfl ⟨rfl, rfl⟩ (by (repeat (refine Sub.sel (by repeat (first | exact Sel.here | apply Sel.there)) ?_)); (repeat apply Sub.cons); first | exact Sub.refl _ | exact Sub.nil _)
      · skip
        exact absurd (by simpa using hA) hne
    · skip
      simp only [List.cons_append, List.nil_append]
      refine st_v (v_move rfl) (st_v (v_extract rfl rfl) (st_v (v_extract rfl rfl) (st_v (v_extract rfl rfl) (st_v (v_extract rfl rfl) (st_v (v_assign rfl) (st_v (v_assign rfl) (st_v (v_assign rfl) (st_v (v_assign rfl) (st_nil (nx_kp [5, 6, 14, 17, 18, 20] rfl (nx_then (cd_seq (cd_seq (cd_region (st_v (v_move rfl) ?_)))))))))))))))
      refine st_v (v_neq rfl rfl) (st_nil (nx_kp [5, 6, 14, 17, 18, 57] rfl (nx_then (cd_false rfl ?_))))
      refine cd_skip (xt_then (cd_seq (cd_region (st_v (v_move rfl) ?_))))
      obtain ⟨z5, z6, z1, z2, z3, z4⟩ := newErr_sz hne
      have hst0 := Wst.new (sh := sh) z1 z2 z3 z4 z5 z6 (n := N) (by omega)
      obtain ⟨A1, xs1, hst1⟩ := hst0.acts_any false xs
      have hF := Fine.acts false xs (fine_new hne) (List.replicate N 0)
      have hrl : (acts false xs (new' sh (pick1 600 half) (pick1 100 young)) (List.replicate N 0)).2.2.length = N := by rw [acts_len, List.length_replicate]
      rw [Int.toNat_natCast] at I0 ⊢
      generalize (acts false xs (new' sh (pick1 600 half) (pick1 100 young)) (List.replicate N 0)).2.1 = M at *
      generalize (acts false xs (new' sh (pick1 600 half) (pick1 100 young)) (List.replicate N 0)).2.2 = r0 at *
      generalize (acts false xs (new' sh (pick1 600 half) (pick1 100 young)) (List.replicate N 0)).1 = e0 at *
      obtain ⟨ly, ln, lf, φ, A, hg⟩ := id hF
      have hcp := copy_c I0 hg
      unfold memSH cpSH at hcp
      simp only [List.cons_append, List.nil_append] at hcp
      unfold memSH
      simp only [List.cons_append, List.nil_append]
      refine st_cl rfl rfl en27 rfl (hcp) ?_
      rintro v' h' ⟨L9, μ9, rfl, I9, rfl⟩
      simp only [List.cons_append, List.nil_append]
      refine st_v (v_assign rfl) (st_nil (nx_kp [5, 6, 14, 17, 18, 21] rfl (nx_then (cd_seq (cd_seq (cd_region (st_v (v_move rfl) (st_v (v_eql_ptr_nil rfl rfl pt27) (st_nil (nx_kp [5, 6, 14, 17, 18, 21, 62] rfl (nx_then (cd_false rfl ?_))))))))))))
      refine cd_skip (xt_then (cd_seq (cd_region (st_v (v_move rfl) (st_v (v_move rfl) ?_)))))
      have hs1 := step_c I0 hg a5 (by unfold I64; omega)
      have hF1 := hF.step a5
      have hw1 := hst1.stp a5
      have he1 := step_err (m := M) (w := a5) h5.1
      have hadd := hg.step_add (a := a5) (b := a6) h5.1 h6.1
      unfold memSH at hs1
      refine st_v (v_conv rfl Try.underlying5 Try.underlying3 h51) (st_cl rfl rfl en31 rfl (hs1) ?_)
      rintro v' h' ⟨L1, μ1, rfl, I1, hL1, rfl⟩
      rw [he1]
      simp only [List.cons_append, List.nil_append]
      refine st_v (v_move rfl) (st_v (v_extract rfl rfl) (st_v (v_extract rfl rfl) (st_v (v_assign rfl) (st_v (v_assign rfl) (st_nil (nx_kp [5, 6, 14, 17, 18, 21, 23] rfl (nx_then (cd_seq (cd_region (st_v (v_move rfl) (st_v (v_move rfl) ?_)))))))))))
      obtain ⟨ly1, ln1, lf1, φ1, A2, hg1⟩ := id hF1
      have hs2 := step_c I1 hg1 a6 (by unfold I64; omega)
      have hF2 := hF1.step a6
      have hw2 := hw1.stp a6
      have he2 := step_err (m := (M.step a5).2.2) (w := a6) h6.1
      unfold memSH at hs2
      rw [hL1] at hs2
      refine st_v (v_conv rfl Try.underlying5 Try.underlying3 h61) (st_cl rfl rfl en31 rfl (hs2) ?_)
      rintro v' h' ⟨L2, μ2, rfl, I2, hL2, rfl⟩
      rw [he2]
      simp only [List.cons_append, List.nil_append]
      refine st_v (v_move rfl) (st_v (v_extract rfl rfl) (st_v (v_extract rfl rfl) (st_v (v_assign rfl) (st_v (v_assign rfl) (st_nil (nx_kp [5, 6, 14, 17, 18, 21, 23, 24, 25] rfl (nx_then (cd_seq (cd_region (st_v (v_move rfl) (st_v (v_move rfl) ?_)))))))))))
      have hs3 := step_c I9 hg (a5 + a6) (by unfold I64; omega)
      have he3 := step_err (m := M) (w := a5 + a6) (by omega)
      unfold memSH at hs3
      refine st_v (v_conv rfl Try.underlying5 Try.underlying3 h51) (st_v (v_move rfl) (st_v (v_conv rfl Try.underlying5 Try.underlying3 h61) (st_v (v_add rfl rfl (by unfold I64 at *; omega)) (st_cl rfl rfl en31 rfl (hs3) ?_))))
      rintro v' h' ⟨L3, μ3, rfl, I3, hL3, rfl⟩
      rw [he3]
      rw [← hadd] at I3 ⊢
      simp only [List.cons_append, List.nil_append]
      generalize (M.step a5).2.2.step a6 = Q at *
      obtain ⟨x1, x2, M2⟩ := Q
      dsimp only at I2 I3 hF2 hw2 ⊢
      have hpe0 := wst_pic hw2
      have hzp := pictured_sz hF2 (roots := r0) (by omega)
      obtain ⟨ly2, ln2, lf2, φ2, A3, hg2⟩ := id hF2
      refine st_v (v_move rfl) (st_v (v_extract rfl rfl) (st_v (v_extract rfl rfl) (st_v (v_assign rfl) (st_v (v_assign rfl) (st_nil (nx_kp [14, 17, 18, 21, 23, 24, 25, 26, 27] rfl (nx_then (cd_seq (cd_region (st_v (v_move rfl) (st_v (v_move rfl) (st_vecshape (v := rv0) (E := 3) (sz := 1) (by repeat (first | exact Sel.here | apply Sel.there)) fun ra rcp hrv hra => ?_))))))))))))
      have hri := rowI_vec hrv hra rfl
      have hpt := hpicture_ct I2 hg2 hri (by omega)
      have hpt9 := hpicture_ct I3 hg2 hri (by omega)
      have hck := check_c I2 hg2
      have hck9 := check_c I3 hg2
      have hrm := room_c I2
      have hrm9 := room_c I3
      have hbz := busy_c I2
      have hbz9 := busy_c I3
      rw [hpe0] at hpt hpt9
      unfold memSH at hpt hpt9 hck hck9 hrm hrm9 hbz hbz9
      rw [hL2] at hpt hck hrm hbz
      rw [hL3] at hpt9 hck9 hrm9 hbz9
      simp only [List.cons_append, List.nil_append] at hpt hpt9
      refine st_cl rfl rfl en19 rfl (hpt) ?_
      rintro v' h' ⟨sv2, fv2, rv2, us2, rfl, hPF, rfl⟩
      have q1 := VForm.one hPF.s; have q2 := VForm.one hPF.f; have q3 := VForm.one hPF.r
      simp only [List.cons_append, List.nil_append]
      refine st_v (v_move rfl) (st_v (v_extract rfl rfl) (st_v (v_extract rfl rfl) (st_alc al42 fun b28 => ?_)))
      refine st_stoW rfl rfl sz42 rfl (by simp only [List.all_cons, List.all_nil, q1, q2, q3]; rfl) ?_
      refine st_v (v_assign rfl) (st_nil (nx_kp [14, 17, 18, 21, 23, 24, 25, 26, 27, 28, 29] rfl (nx_then (cd_seq (cd_region (st_v (v_move rfl) (st_v (v_move rfl) (st_cl rfl rfl en19 rfl (hpt9) ?_))))))))
      rintro v' h' ⟨sv3, fv3, rv3, us3, rfl, hPF3, rfl⟩
      have q4 := VForm.one hPF3.s; have q5 := VForm.one hPF3.f; have q6 := VForm.one hPF3.r
      simp only [List.cons_append, List.nil_append]
      refine st_v (v_move rfl) (st_v (v_extract rfl rfl) (st_v (v_extract rfl rfl) (st_alc al42 fun b30 => ?_)))
      refine st_stoW rfl rfl sz42 rfl (by simp only [List.all_cons, List.all_nil, q4, q5, q6]; rfl) ?_
      have hsp := Reads.unstar (samePictures_ct (R := Res.star [pR sv2 fv2 rv2 us2 (M2.pictured r0).1, pR sv3 fv3 rv3 us3 (M2.pictured r0).1]) (hPF.v.star .here) (hPF3.v.star (.there .here)) hzp)
      rw [samePic_self] at hsp
      refine st_v (v_assign rfl) (st_nil (nx_kp [14, 17, 21, 23, 24, 25, 26, 27, 28, 29, 30, 31] rfl (nx_then (cd_seq (cd_region (st_cl rfl rfl en14 rfl (sanity_c) ?_))))))
      rintro v' h' ⟨rfl, rfl⟩
      simp only [List.nil_append]
      refine st_v (v_move rfl) (st_vg rfl rfl (v_move rfl) (st_vg rfl rfl (v_eql rfl rfl) (st_v (v_pick_true rfl rfl) (st_v (v_move rfl) (st_vg rfl rfl (v_move rfl) (st_vg rfl rfl (v_eql rfl rfl) (st_v (v_pick_true rfl rfl) (st_v (v_move rfl) (st_vg rfl rfl (v_move rfl) (st_vg rfl rfl (v_eql rfl rfl) (st_v (v_pick_true rfl rfl) (st_v (v_move rfl) (st_vg rfl rfl (v_move rfl) ?_)))))))))))))
      refine st_vg rfl rfl (v_eql rfl rfl) (st_v (v_pick_true rfl rfl) (st_v (v_move rfl) (st_vg rfl rfl (v_move rfl) (st_vg rfl rfl (v_eql rfl rfl) (st_v (v_pick_true rfl rfl) (st_v (v_move rfl) (st_vg rfl rfl (v_move rfl) (st_vg rfl rfl (v_move rfl) (st_vg rfl rfl (v_eql rfl rfl) (st_v (v_pick_true rfl rfl) (st_v (v_move rfl) ?_)))))))))))
      rw [beq_self_eq_true]
      refine st_vg rfl rfl (v_move rfl) (st_clrg rfl rfl rfl rfl en24 rfl (hrm) ?_)
      refine st_vg rfl rfl (v_move rfl) (st_clrg rfl rfl rfl rfl en24 rfl (hrm9) ?_)
      refine st_vg rfl rfl (v_eql_ints (xs := [M2.room.1, M2.room.2.1, M2.room.2.2]) (ys := [M2.room.1, M2.room.2.1, M2.room.2.2]) eqi54 rfl rfl rfl rfl) ?_
      rw [beq_self_eq_true]
      refine st_v (v_pick_true rfl rfl) (st_v (v_move rfl) (st_vg rfl rfl (v_move rfl) (st_clrg rfl rfl rfl rfl en23 rfl (hbz) ?_)))
      refine st_vg rfl rfl (v_move rfl) (st_clrg rfl rfl rfl rfl en23 rfl (hbz9) ?_)
      refine st_vg rfl rfl (v_eql_bool Try.underlying4 rfl rfl) ?_
      rw [beq_self_eq_true]
      refine st_v (v_pick_true rfl rfl) (st_v (v_move rfl) (st_vg rfl rfl (v_loadW rfl ld42 rfl (by repeat (first | exact Sel.here | apply Sel.there))) ?_))
      refine st_vg rfl rfl (v_loadW rfl ld42 rfl (by repeat (first | exact Sel.here | apply Sel.there))) ?_
      refine st_clrg rfl rfl rfl rfl en22 rfl (hsp) ?_
      refine st_v (v_pick_true rfl rfl) (st_v (v_move rfl) (st_vg rfl rfl (v_move rfl) (st_clrg rfl rfl rfl rfl en26 rfl (hck) ?_)))
      refine st_vg rfl rfl (v_eql rfl rfl) (st_v (v_pick_true rfl rfl) (st_v (v_move rfl) (st_vg rfl rfl (v_move rfl) (st_clrg rfl rfl rfl rfl en26 rfl (hck9) ?_))))
      refine st_vg rfl rfl (v_eql rfl rfl) (st_v (v_pick_true rfl rfl) (st_v (v_assign rfl) (st_nil (nx_kp [14] rfl (nx_then (cd_ret ?_))))))
      exact xt_rt rfl ⟨rfl, rfl⟩ (by (repeat (refine Sub.sel (by repeat (first | exact Sel.here | apply Sel.there)) ?_)); (repeat apply Sub.cons); first | exact Sub.refl _ | exact Sub.nil _)
end
end Go.Proofs.Ytmhmpjgkkpbnnaa
namespace Go.Proofs.Ytmhmpjgkkpbnnaa
open Go Go.RowKit Go.ChangeShapes Go.WideShapes Go.Ck
set_option maxRecDepth 100000 in
theorem heapSmallSteps_lifted (os : Os) (started : os.Started) (H : Type) (enc : TypeId × Value → H) :
    ReturnsInHanded {} Try.checked os 9 .any (Rows.heapSmallStepsSpec.pre6 enc Try.prog Try.f9 Rows.heapSmallStepsRow.domain false) (Rows.heapSmallStepsSpec.post enc Try.prog Try.f9 false true false false) := by
  refine returnsInHanded_of_change (C := Try.checked) own' started (by kernel_rfl) Try.func9
    (ChangeSpec.witness6 (enc := enc) (C := Try.checked) false ⟨#[], #[.slice none 0 0, .int .u16 0, .int .u16 0, .int .u8 0, .slice none 0 0, .int .u8 0, .int .u8 0], []⟩ 8 (by kernel_rfl) (by kernel_rfl) (by kernel_rfl) (by kernel_rfl)) ?_
  intro W base args ds gs before hval0 hW hcnd _
  have hval : ∀ (j : Nat) t v, Try.f9.params[j]? = some t → args[j]? = some v → Value.okWide Try.prog W .any base t v := hval0
  have hW' := hW
  obtain ⟨p, q, hA0, hV, rfl, hfz, hnd⟩ := hW
  have hA : DataW.TrodAll enc Try.prog W 0 (fun _ => true) true Try.f9.params.toList args.toList ds p := hA0
  rw [Try.params9] at hA hval
  obtain ⟨v0, vs0, d0, ds0, p0, q0, hargs, rfl, rfl, h0, r0⟩ := trodAll_cons hA
  obtain ⟨v1, vs1, d1, ds1, p1, q1, rfl, rfl, rfl, h1, r1⟩ := trodAll_cons r0
  obtain ⟨v2, vs2, d2, ds2, p2, q2, rfl, rfl, rfl, h2, r2⟩ := trodAll_cons r1
  obtain ⟨v3, vs3, d3, ds3, p3, q3, rfl, rfl, rfl, h3, r3⟩ := trodAll_cons r2
  obtain ⟨v4, vs4, d4, ds4, p4, q4, rfl, rfl, rfl, h4, r4⟩ := trodAll_cons r3
  obtain ⟨v5, vs5, d5, ds5, p5, q5, rfl, rfl, rfl, h5, r5⟩ := trodAll_cons r4
  obtain ⟨v6, vs6, d6, ds6, p6, q6, rfl, rfl, rfl, h6, r6⟩ := trodAll_cons r5
  obtain ⟨rfl, rfl, rfl⟩ := trodAll_nil r6
  obtain rfl : args = #[v0, v1, v2, v3, v4, v5, v6] := by cases args; simp_all
  obtain ⟨rfl, rfl⟩ := trodVars_none hV
  obtain ⟨y0, e0⟩ := arg_one (ty := .slice (.slice .bool)) (by kernel_rfl) (by kernel_rfl) (hval 0 22 v0 rfl rfl) h0
  obtain ⟨y1, e1⟩ := arg_one (ty := .int .u16) (by kernel_rfl) (by kernel_rfl) (hval 1 61 v1 rfl rfl) h1
  obtain ⟨y2, e2⟩ := arg_one (ty := .int .u16) (by kernel_rfl) (by kernel_rfl) (hval 2 61 v2 rfl rfl) h2
  obtain ⟨y3, e3⟩ := arg_one (ty := .int .u8) (by kernel_rfl) (by kernel_rfl) (hval 3 5 v3 rfl rfl) h3
  obtain ⟨y4, e4⟩ := arg_one (ty := .slice actTy) (by kernel_rfl) (by kernel_rfl) (hval 4 62 v4 rfl rfl) h4
  obtain ⟨y5, e5⟩ := arg_one (ty := .int .u8) (by kernel_rfl) (by kernel_rfl) (hval 5 5 v5 rfl rfl) h5
  obtain ⟨y6, e6⟩ := arg_one (ty := .int .u8) (by kernel_rfl) (by kernel_rfl) (hval 6 5 v6 rfl rfl) h6
  obtain ⟨s0, l0⟩ := shp_of e0
  obtain ⟨s4, a4⟩ := acts_of e4
  obtain ⟨rfl, w1⟩ := rep_kind e1
  obtain ⟨rfl, w2⟩ := rep_kind e2
  obtain ⟨rfl, w3⟩ := rep_kind e3
  obtain ⟨rfl, w5⟩ := rep_kind e5
  obtain ⟨rfl, w6⟩ := rep_kind e6
  refine (ct_calls (heapSmall_c s0 l0 s4 a4 (wf_u16 w1) (wf_u16 w2) (wf_u8 w3) (wf_u8 w5) (wf_u8 w6)) fun v h' h => ⟨h.1, by rw [h.2]; exact .refl _⟩).mono fun e W' ⟨he, hk⟩ => ⟨_, he, ?_⟩
  exact law_post (tys := [.slice (.slice .bool), .int .u16, .int .u16, .int .u8, .slice actTy, .int .u8, .int .u8]) hW' rfl (by kernel_rfl) Try.underlying4 (by rw [Try.params9]; kernel_rfl) rfl hk
theorem heapSmallSteps_holds : Rows.HeapSmallStepsSaid :=
  OpenClaim.holds_of_wide 9 Try.f9 rfl rfl rfl rfl rfl rfl rfl ⟨rfl, rfl, rfl, rfl, rfl⟩ rfl rfl rfl rfl rfl (by kernel_rfl) Try.func9 (by kernel_rfl)
    (of_decide_eq_true (by kernel_rfl)) (by unfold Func.isWrapper; first | (rw [if_pos (by decide +kernel)]; kernel_rfl) | (rw [if_neg (by decide +kernel)]; exact ⟨rfl, rfl⟩))
    (fun os started H enc _ => heapSmallSteps_lifted os started H enc)
end Go.Proofs.Ytmhmpjgkkpbnnaa
