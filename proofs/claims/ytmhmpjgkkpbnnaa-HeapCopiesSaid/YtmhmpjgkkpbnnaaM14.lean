/-
  The law HeapSmallSteps, walked. Conditions: what the heap holds.
  The law HeapCopies, walked. Conditions: what the heap holds.
  HeapCopies: for every input the law answers true, and the input reads as it did. No condition.
-/
import Derived.Test.YtmhmpjgkkpbnnaaM13
import Derived.Test.YtmhmpjgkkpbnnaaM12
import Derived.Test.YtmhmpjgkkpbnnaaM10
import Derived.Test.YtmhmpjgkkpbnnaaM5
import Derived.Test.YtmhmpjgkkpbnnaaRows
namespace Go.Proofs.Ytmhmpjgkkpbnnaa
open Go.Ck Fx Go.Hm Go.Hm.AM
attribute [local irreducible] St Cd Xt Nx DrL LsW
section
variable {R : Res} {v0 v4 : Value} {sh : List (List Bool)} {xs : List Go.Hm.Act} {half young n a5 a6 : Int}
theorem newErr_sz {H Y : Int} (hne : newErr sh H Y = 0) : sh.length ≤ 100 ∧ (∀ l ∈ sh, l.length ≤ 100) ∧ 1 ≤ H ∧ H ≤ 100000 ∧ 1 ≤ Y ∧ Y ≤ 400000 := by
  obtain ⟨_, _, _, _, _, g⟩ := fine_new hne
  have z := g.g.sz
  exact ⟨z.n, z.w, z.H0, z.H1, z.Y0, z.Y1⟩
theorem wst_pic {m : AM} {r : List Int} {A : Store} {ys : List Int} (h : Wst m r A ys) : (m.pictured r).2 = 0 := by
  unfold AM.pictured
  rw [if_neg (by rw [h.rooted]; simp)]
set_option maxHeartbeats 4000000 in
set_option maxRecDepth 100000 in
theorem heapSmall_c (hS : Shp R v0 sh) (hs0 : sh.length ≤ maxLen) (hX : ActsV R v4 xs) (ha : ∀ x ∈ xs, I64 x.a) (hh : 0 ≤ half ∧ half < 65536) (hy : 0 ≤ young ∧ young < 65536) (hn : 0 ≤ n ∧ n < 256) (h5 : 0 ≤ a5 ∧ a5 < 256) (h6 : 0 ≤ a6 ∧ a6 < 256) :
    Ct Try.prog 9 #[v0, .int .u16 half, .int .u16 young, .int .u8 n, v4, .int .u8 a5, .int .u8 a6] [R] fun u h' => u = .bool true ∧ h' = [R] := by
  obtain ⟨a, cp, hv, _⟩ := id hS
  obtain ⟨xa, xcp, hxv, _⟩ := id hX
  refine ct_of (n := 154) Try.func9 rfl rfl (len rfl) fun hr w0 => ?_
  simp only [List.cons_append, List.nil_append]
  refine cd_seq (cd_region (st_v (v_assign rfl) (st_nil (nx_then (cd_seq (cd_seq (cd_region (st_v (v_move rfl) (st_v (v_move rfl) (st_clr rfl rfl en28 rfl (light_ct hS hs0 hX) ?_))))))))))
  refine st_v (v_not rfl) (st_nil (nx_kp [0, 1, 2, 3, 4, 5, 6, 14, 35] rfl (nx_then (cd_cond rfl (fun hc => ?_) (fun hc => ?_)))))
  · skip
    refine cd_seq (cd_region (st_cl rfl rfl en14 rfl (sanity_c) ?_))
    rintro v' h' ⟨rfl, rfl⟩
    simp only [List.nil_append]
    refine st_v (v_assign rfl) (st_nil (nx_kp [0, 1, 2, 3, 4, 5, 6, 14] rfl (nx_then (cd_ret (xt_ret_then ?_)))))
    exact xt_rt rfl ⟨rfl, rfl⟩ (by (repeat (refine Sub.sel (by repeat (first | exact Sel.here | apply Sel.there)) ?_)); (repeat apply Sub.cons); first | exact Sub.refl _ | exact Sub.nil _)
  · skip
    have hl : lightp sh xs = true := by simpa using hc
    have hsl : sh.length ≤ 1000000 := by
      unfold lightp at hl
      simp only [Bool.and_eq_true, decide_eq_true_eq] at hl
      omega
    refine cd_skip (xt_then (cd_seq (cd_region (st_v (v_move rfl) (st_v (v_move rfl) (st_clr rfl rfl en29 rfl (spaces_ct hh hy) ?_))))))
    refine st_v (v_move rfl) (st_v (v_extract rfl rfl) (st_v (v_extract rfl rfl) (st_v (v_assign rfl) (st_v (v_assign rfl) (st_nil (nx_kp [0, 3, 4, 5, 6, 14, 15, 16] rfl (nx_then (cd_seq (cd_region (st_v (v_move rfl) (st_v (v_move rfl) (st_v (v_move rfl) (st_v (v_move rfl) ?_)))))))))))))
    have hn1 : IntKind.wrap .i64 n = n := I64.wrap (by unfold I64; omega)
    have h51 : IntKind.wrap .i64 a5 = a5 := I64.wrap (by unfold I64; omega)
    have h61 : IntKind.wrap .i64 a6 = a6 := I64.wrap (by unfold I64; omega)
    obtain ⟨p1, p2⟩ := tmod_bd (k := 21) (by omega) hn.1
    refine st_v (v_conv rfl Try.underlying5 Try.underlying3 hn1) (st_v (v_rem rfl rfl (by decide) (I64.wrap (by unfold I64; omega))) ?_)
    obtain ⟨N, hN⟩ : ∃ N : Nat, n.tmod 21 = N := ⟨(n.tmod 21).toNat, by omega⟩
    rw [hN]
    rw [hN] at p1 p2
    refine st_v (v_move rfl) (st_cl rfl rfl en30 rfl (play_c (half := pick1 600 half) (young := pick1 100 young) (n := N) hS hsl hX ha) ?_)
    rintro v' h' hu
    rcases hu with ⟨hne, rfl, rfl⟩ | ⟨hpe, hne, hN0, hN2, hxl, L0, μ0, S1, rv0, ev0, rfl, I0, rfl⟩
    · skip
      simp only [List.cons_append, List.nil_append]
      refine st_v (v_move rfl) (st_v (v_extract rfl rfl) (st_v (v_extract rfl rfl) (st_v (v_extract rfl rfl) (st_v (v_extract rfl rfl) (st_v (v_assign rfl) (st_v (v_assign rfl) (st_v (v_assign rfl) (st_v (v_assign rfl) (st_nil (nx_kp [5, 6, 14, 17, 18, 20] rfl (nx_then (cd_seq (cd_seq (cd_region (st_v (v_move rfl) ?_)))))))))))))))
      refine st_v (v_neq rfl rfl) (st_nil (nx_kp [5, 6, 14, 17, 18, 57] rfl (nx_then (cd_cond rfl (fun hA => ?_) (fun hA => ?_)))))
      · skip
        refine cd_seq (cd_region (st_cl rfl rfl en14 rfl (sanity_c) ?_))
        rintro v' h' ⟨rfl, rfl⟩
        simp only [List.nil_append]
        refine st_v (v_assign rfl) (st_nil (nx_kp [5, 6, 14, 17, 18] rfl (nx_then (cd_ret (xt_ret_then ?_)))))
        exact xt_rt rfl ⟨rfl, rfl⟩ (by (repeat (refine Sub.sel (by repeat (first | exact Sel.here | apply Sel.there)) ?_)); (repeat apply Sub.cons); first | exact Sub.refl _ | exact Sub.nil _)
      · skip
        exact absurd (by simpa using hA) hne
    · skip
      simp only [List.cons_append, List.nil_append]
      refine st_v (v_move rfl) (st_v (v_extract rfl rfl) (st_v (v_extract rfl rfl) (st_v (v_extract rfl rfl) (st_v (v_extract rfl rfl) (st_v (v_assign rfl) (st_v (v_assign rfl) (st_v (v_assign rfl) (st_v (v_assign rfl) (st_nil (nx_kp [5, 6, 14, 17, 18, 20] rfl (nx_then (cd_seq (cd_seq (cd_region (st_v (v_move rfl) ?_)))))))))))))))
      refine st_v (v_neq rfl rfl) (st_nil (nx_kp [5, 6, 14, 17, 18, 57] rfl (nx_then (cd_false rfl ?_))))
      refine cd_skip (xt_then (cd_seq (cd_region (st_v (v_move rfl) ?_))))
      obtain ⟨z5, z6, z1, z2, z3, z4⟩ := newErr_sz hne
      have hst0 := Wst.new (sh := sh) z1 z2 z3 z4 z5 z6 (n := N) (by omega)
      obtain ⟨A1, xs1, hst1⟩ := hst0.acts_any false xs
      have hF := Fine.acts false xs (fine_new hne) (List.replicate N 0)
      have hrl : (acts false xs (new' sh (pick1 600 half) (pick1 100 young)) (List.replicate N 0)).2.2.length = N := by rw [acts_len, List.length_replicate]
      rw [Int.toNat_natCast] at I0 ⊢
      generalize (acts false xs (new' sh (pick1 600 half) (pick1 100 young)) (List.replicate N 0)).2.1 = M at *
      generalize (acts false xs (new' sh (pick1 600 half) (pick1 100 young)) (List.replicate N 0)).2.2 = r0 at *
      generalize (acts false xs (new' sh (pick1 600 half) (pick1 100 young)) (List.replicate N 0)).1 = e0 at *
      obtain ⟨ly, ln, lf, φ, A, hg⟩ := id hF
      have hcp := copy_c I0 hg
      unfold memSH cpSH at hcp
      simp only [List.cons_append, List.nil_append] at hcp
      unfold memSH
      simp only [List.cons_append, List.nil_append]
      refine st_cl rfl rfl en27 rfl (hcp) ?_
      rintro v' h' ⟨L9, μ9, rfl, I9, rfl⟩
      simp only [List.cons_append, List.nil_append]
      refine st_v (v_assign rfl) (st_nil (nx_kp [5, 6, 14, 17, 18, 21] rfl (nx_then (cd_seq (cd_seq (cd_region (st_v (v_move rfl) (st_v (v_eql_ptr_nil rfl rfl pt27) (st_nil (nx_kp [5, 6, 14, 17, 18, 21, 62] rfl (nx_then (cd_false rfl ?_))))))))))))
      refine cd_skip (xt_then (cd_seq (cd_region (st_v (v_move rfl) (st_v (v_move rfl) ?_)))))
      have hs1 := step_c I0 hg a5 (by unfold I64; omega)
      have hF1 := hF.step a5
      have hw1 := hst1.stp a5
      have he1 := step_err (m := M) (w := a5) h5.1
      have hadd := hg.step_add (a := a5) (b := a6) h5.1 h6.1
      unfold memSH at hs1
      refine st_v (v_conv rfl Try.underlying5 Try.underlying3 h51) (st_cl rfl rfl en31 rfl (hs1) ?_)
      rintro v' h' ⟨L1, μ1, rfl, I1, hL1, rfl⟩
      rw [he1]
      simp only [List.cons_append, List.nil_append]
      refine st_v (v_move rfl) (st_v (v_extract rfl rfl) (st_v (v_extract rfl rfl) (st_v (v_assign rfl) (st_v (v_assign rfl) (st_nil (nx_kp [5, 6, 14, 17, 18, 21, 23] rfl (nx_then (cd_seq (cd_region (st_v (v_move rfl) (st_v (v_move rfl) ?_)))))))))))
      obtain ⟨ly1, ln1, lf1, φ1, A2, hg1⟩ := id hF1
      have hs2 := step_c I1 hg1 a6 (by unfold I64; omega)
      have hF2 := hF1.step a6
      have hw2 := hw1.stp a6
      have he2 := step_err (m := (M.step a5).2.2) (w := a6) h6.1
      unfold memSH at hs2
      rw [hL1] at hs2
      refine st_v (v_conv rfl Try.underlying5 Try.underlying3 h61) (st_cl rfl rfl en31 rfl (hs2) ?_)
      rintro v' h' ⟨L2, μ2, rfl, I2, hL2, rfl⟩
      rw [he2]
      simp only [List.cons_append, List.nil_append]
      refine st_v (v_move rfl) (st_v (v_extract rfl rfl) (st_v (v_extract rfl rfl) (st_v (v_assign rfl) (st_v (v_assign rfl) (st_nil (nx_kp [5, 6, 14, 17, 18, 21, 23, 24, 25] rfl (nx_then (cd_seq (cd_region (st_v (v_move rfl) (st_v (v_move rfl) ?_)))))))))))
      have hs3 := step_c I9 hg (a5 + a6) (by unfold I64; omega)
      have he3 := step_err (m := M) (w := a5 + a6) (by omega)
      unfold memSH at hs3
      refine st_v (v_conv rfl Try.underlying5 Try.underlying3 h51) (st_v (v_move rfl) (st_v (v_conv rfl Try.underlying5 Try.underlying3 h61) (st_v (v_add rfl rfl (by unfold I64 at *; omega)) (st_cl rfl rfl en31 rfl (hs3) ?_))))
      rintro v' h' ⟨L3, μ3, rfl, I3, hL3, rfl⟩
      rw [he3]
      rw [← hadd] at I3 ⊢
      simp only [List.cons_append, List.nil_append]
      generalize (M.step a5).2.2.step a6 = Q at *
      obtain ⟨x1, x2, M2⟩ := Q
      dsimp only at I2 I3 hF2 hw2 ⊢
      have hpe0 := wst_pic hw2
      have hzp := pictured_sz hF2 (roots := r0) (by omega)
      obtain ⟨ly2, ln2, lf2, φ2, A3, hg2⟩ := id hF2
      refine st_v (v_move rfl) (st_v (v_extract rfl rfl) (st_v (v_extract rfl rfl) (st_v (v_assign rfl) (st_v (v_assign rfl) (st_nil (nx_kp [14, 17, 18, 21, 23, 24, 25, 26, 27] rfl (nx_then (cd_seq (cd_region (st_v (v_move rfl) (st_v (v_move rfl) (st_vecshape (v := rv0) (E := 3) (sz := 1) (by repeat (first | exact Sel.here | apply Sel.there)) fun ra rcp hrv hra => ?_))))))))))))
      have hri := rowI_vec hrv hra rfl
      have hpt := hpicture_ct I2 hg2 hri (by omega)
      have hpt9 := hpicture_ct I3 hg2 hri (by omega)
      have hck := check_c I2 hg2
      have hck9 := check_c I3 hg2
      have hrm := room_c I2
      have hrm9 := room_c I3
      have hbz := busy_c I2
      have hbz9 := busy_c I3
      rw [hpe0] at hpt hpt9
      unfold memSH at hpt hpt9 hck hck9 hrm hrm9 hbz hbz9
      rw [hL2] at hpt hck hrm hbz
      rw [hL3] at hpt9 hck9 hrm9 hbz9
      simp only [List.cons_append, List.nil_append] at hpt hpt9
      refine st_cl rfl rfl en19 rfl (hpt) ?_
      rintro v' h' ⟨sv2, fv2, rv2, us2, rfl, hPF, rfl⟩
      have q1 := VForm.one hPF.s; have q2 := VForm.one hPF.f; have q3 := VForm.one hPF.r
      simp only [List.cons_append, List.nil_append]
      refine st_v (v_move rfl) (st_v (v_extract rfl rfl) (st_v (v_extract rfl rfl) (st_alc al42 fun b28 => ?_)))
      refine st_stoW rfl rfl sz42 rfl (by simp only [List.all_cons, List.all_nil, q1, q2, q3]; rfl) ?_
      refine st_v (v_assign rfl) (st_nil (nx_kp [14, 17, 18, 21, 23, 24, 25, 26, 27, 28, 29] rfl (nx_then (cd_seq (cd_region (st_v (v_move rfl) (st_v (v_move rfl) (st_cl rfl rfl en19 rfl (hpt9) ?_))))))))
      rintro v' h' ⟨sv3, fv3, rv3, us3, rfl, hPF3, rfl⟩
      have q4 := VForm.one hPF3.s; have q5 := VForm.one hPF3.f; have q6 := VForm.one hPF3.r
      simp only [List.cons_append, List.nil_append]
      refine st_v (v_move rfl) (st_v (v_extract rfl rfl) (st_v (v_extract rfl rfl) (st_alc al42 fun b30 => ?_)))
      refine st_stoW rfl rfl sz42 rfl (by simp only [List.all_cons, List.all_nil, q4, q5, q6]; rfl) ?_
      have hsp := Reads.unstar (samePictures_ct (R := Res.star [pR sv2 fv2 rv2 us2 (M2.pictured r0).1, pR sv3 fv3 rv3 us3 (M2.pictured r0).1]) (hPF.v.star .here) (hPF3.v.star (.there .here)) hzp)
      rw [samePic_self] at hsp
      refine st_v (v_assign rfl) (st_nil (nx_kp [14, 17, 21, 23, 24, 25, 26, 27, 28, 29, 30, 31] rfl (nx_then (cd_seq (cd_region (st_cl rfl rfl en14 rfl (sanity_c) ?_))))))
      rintro v' h' ⟨rfl, rfl⟩
      simp only [List.nil_append]
      refine st_v (v_move rfl) (st_vg rfl rfl (v_move rfl) (st_vg rfl rfl (v_eql rfl rfl) (st_v (v_pick_true rfl rfl) (st_v (v_move rfl) (st_vg rfl rfl (v_move rfl) (st_vg rfl rfl (v_eql rfl rfl) (st_v (v_pick_true rfl rfl) (st_v (v_move rfl) (st_vg rfl rfl (v_move rfl) (st_vg rfl rfl (v_eql rfl rfl) (st_v (v_pick_true rfl rfl) (st_v (v_move rfl) (st_vg rfl rfl (v_move rfl) ?_)))))))))))))
      refine st_vg rfl rfl (v_eql rfl rfl) (st_v (v_pick_true rfl rfl) (st_v (v_move rfl) (st_vg rfl rfl (v_move rfl) (st_vg rfl rfl (v_eql rfl rfl) (st_v (v_pick_true rfl rfl) (st_v (v_move rfl) (st_vg rfl rfl (v_move rfl) (st_vg rfl rfl (v_move rfl) (st_vg rfl rfl (v_eql rfl rfl) (st_v (v_pick_true rfl rfl) (st_v (v_move rfl) ?_)))))))))))
      rw [beq_self_eq_true]
      refine st_vg rfl rfl (v_move rfl) (st_clrg rfl rfl rfl rfl en24 rfl (hrm) ?_)
      refine st_vg rfl rfl (v_move rfl) (st_clrg rfl rfl rfl rfl en24 rfl (hrm9) ?_)
      refine st_vg rfl rfl (v_eql_ints (xs := [M2.room.1, M2.room.2.1, M2.room.2.2]) (ys := [M2.room.1, M2.room.2.1, M2.room.2.2]) eqi54 rfl rfl rfl rfl) ?_
      rw [beq_self_eq_true]
      refine st_v (v_pick_true rfl rfl) (st_v (v_move rfl) (st_vg rfl rfl (v_move rfl) (st_clrg rfl rfl rfl rfl en23 rfl (hbz) ?_)))
      refine st_vg rfl rfl (v_move rfl) (st_clrg rfl rfl rfl rfl en23 rfl (hbz9) ?_)
      refine st_vg rfl rfl (v_eql_bool Try.underlying4 rfl rfl) ?_
      rw [beq_self_eq_true]
      refine st_v (v_pick_true rfl rfl) (st_v (v_move rfl) (st_vg rfl rfl (v_loadW rfl ld42 rfl (by repeat (first | exact Sel.here | apply Sel.there))) ?_))
      refine st_vg rfl rfl (v_loadW rfl ld42 rfl (by repeat (first | exact Sel.here | apply Sel.there))) ?_
      refine st_clrg rfl rfl rfl rfl en22 rfl (hsp) ?_
      refine st_v (v_pick_true rfl rfl) (st_v (v_move rfl) (st_vg rfl rfl (v_move rfl) (st_clrg rfl rfl rfl rfl en26 rfl (hck) ?_)))
      refine st_vg rfl rfl (v_eql rfl rfl) (st_v (v_pick_true rfl rfl) (st_v (v_move rfl) (st_vg rfl rfl (v_move rfl) (st_clrg rfl rfl rfl rfl en26 rfl (hck9) ?_))))
      refine st_vg rfl rfl (v_eql rfl rfl) (st_v (v_pick_true rfl rfl) (st_v (v_assign rfl) (st_nil (nx_kp [14] rfl (nx_then (cd_ret ?_))))))
      exact xt_rt rfl ⟨rfl, rfl⟩ (by (repeat (refine Sub.sel (by repeat (first | exact Sel.here | apply Sel.there)) ?_)); (repeat apply Sub.cons); first | exact Sub.refl _ | exact Sub.nil _)
end
end Go.Proofs.Ytmhmpjgkkpbnnaa
namespace Go.Proofs.Ytmhmpjgkkpbnnaa
open Go.Ck Fx Go.Hm Go.Hm.AM
attribute [local irreducible] St Cd Xt Nx DrL LsW
theorem eqi89 : EqI Try.prog 89 2 := EqI.of Try.underlying89 (by kernel_rfl) (by kernel_rfl) (by kernel_rfl) rfl
def callX (m : AM) (x : CallV) : Int × List Int × Int × AM := m.call (kindOf x.k) x.a x.b x.c x.roots
def callsM : List CallV → AM → AM
  | [], m => m
  | x :: t, m => callsM t (callX m x).2.2.2
def callsR : List CallV → AM → List (Int × Int)
  | [], _ => []
  | x :: t, m => ((callX m x).1, (callX m x).2.2.1) :: callsR t (callX m x).2.2.2
theorem callsM_snoc : ∀ (l : List CallV) (x : CallV) (m : AM), callsM (l ++ [x]) m = (callX (callsM l m) x).2.2.2
  | [], _, _ => rfl
  | y :: t, x, m => callsM_snoc t x (callX m y).2.2.2
theorem callsR_snoc : ∀ (l : List CallV) (x : CallV) (m : AM), callsR (l ++ [x]) m = callsR l m ++ [((callX (callsM l m) x).1, (callX (callsM l m) x).2.2.1)]
  | [], _, _ => rfl
  | y :: t, x, m => by
    show _ :: callsR (t ++ [x]) _ = _
    rw [callsR_snoc t x]; rfl
theorem callsR_len : ∀ (l : List CallV) (m : AM), (callsR l m).length = l.length
  | [], _ => rfl
  | y :: t, m => by show (callsR t _).length + 1 = _; rw [callsR_len t]; rfl
theorem callsR_at : ∀ (l : List CallV) (m : AM) (i : Nat) (h : i < l.length), (callsR l m)[i]? = some ((callX (callsM (l.take i) m) l[i]).1, (callX (callsM (l.take i) m) l[i]).2.2.1)
  | [], _, _, h => by simp at h
  | y :: t, m, 0, _ => rfl
  | y :: t, m, i + 1, h => callsR_at t (callX m y).2.2.2 i (by simpa using h)
theorem Fine.callsM : ∀ (l : List CallV) {m : AM}, Fine m → Fine (callsM l m)
  | [], _, h => h
  | x :: t, _, h => Fine.callsM t (h.call ..)
theorem kc_at : ∀ (l : List (Int × Int)) (i : Nat) (p : Int × Int), l[i]? = some p → ∀ j, j < 2 → (kc l)[i * 2 + j]? = ([.int .i64 p.1, .int .i64 p.2] : List Value)[j]?
  | [], i, p, h, _, _ => by simp at h
  | q :: t, 0, p, h, j, hj => by
    have : q = p := by simpa using h
    subst this
    show (([.int .i64 q.1, .int .i64 q.2] : List Value) ++ kc t)[0 * 2 + j]? = _
    rw [List.getElem?_append_left (by show 0 * 2 + j < 2; omega), show 0 * 2 + j = j by omega]
  | q :: t, i + 1, p, h, j, hj => by
    show (([.int .i64 q.1, .int .i64 q.2] : List Value) ++ kc t)[(i + 1) * 2 + j]? = _
    rw [List.getElem?_append_right (by show 2 ≤ (i + 1) * 2 + j; omega), show (i + 1) * 2 + j - ([.int .i64 q.1, .int .i64 q.2] : List Value).length = i * 2 + j by show (i + 1) * 2 + j - 2 = _; omega]
    exact kc_at t i p (by simpa using h) j hj
theorem kc_rds {E : TypeId} {b n cp : Nat} {l : List (Int × Int)} {i : Nat} {p : Int × Int} (h : l[i]? = some p) : Rds (vec (.slice (some ⟨b, 0, none⟩) n cp) E 2 n (kc l)) b (0 + i * 2) [.int .i64 p.1, .int .i64 p.2] := fun j hj => by
  rw [Nat.zero_add]
  refine rd_vec rfl ?_
  rw [kc_at l i p h j hj]
  exact List.getElem?_eq_getElem hj
structure CoS where
  i : Nat
  L : MemL
  μ : Mem
  v : Value
section
variable {R : Res} {v0 v4 v5 : Value} {sh : List (List Bool)} {xs : List Go.Hm.Act} {cs : List CallV} {half young n : Int}
set_option maxHeartbeats 4000000 in
set_option maxRecDepth 100000 in
theorem heapCopies_c (hS : Shp R v0 sh) (hs0 : sh.length ≤ maxLen) (hX : ActsV R v4 xs) (ha : ∀ x ∈ xs, I64 x.a) (hC : Calls R v5 cs) (hc0 : cs.length ≤ maxLen) (hca : ∀ x ∈ cs, I64 x.a) (hh : 0 ≤ half ∧ half < 65536) (hy : 0 ≤ young ∧ young < 65536) (hn : 0 ≤ n ∧ n < 256) :
    Ct Try.prog 10 #[v0, .int .u16 half, .int .u16 young, .int .u8 n, v4, v5] [R] fun u h' => u = .bool true ∧ h' = [R] := by
  obtain ⟨a, cp, hv, _⟩ := id hS
  obtain ⟨xa, xcp, hxv, _⟩ := id hX
  obtain ⟨ca, ccp, hcv, _⟩ := id hC
  refine ct_of (n := 160) Try.func10 rfl rfl (len rfl) fun hr w0 => ?_
  simp only [List.cons_append, List.nil_append]
  refine cd_seq (cd_region (st_v (v_assign rfl) (st_nil (nx_then (cd_seq (cd_seq (cd_region (st_v (v_move rfl) (st_v (v_move rfl) (st_clr rfl rfl en28 rfl (light_ct hS hs0 hX) ?_))))))))))
  refine st_v (v_not rfl) (st_v (v_move rfl) (st_cut (k := 9) (d := 44) (v := .bool (!(lightp sh xs) || !(shortp cs))) (fun hcut => bool_want (b := !(lightp sh xs)) false (fun hg => ?_) (fun hg => ?_)) ?_))
  · refine st_sk rfl rfl hg ?_
    refine st_sk rfl rfl hg ?_
    refine st_sk rfl rfl hg ?_
    refine st_v (v_pick_true (bool_ev rfl hg) rfl) ?_
    exact hcut _ (ssub_head (by first | rfl | (rw [hg]; rfl) | simp_all) (ssub_skip rfl (ssub_skip rfl (ssub_skip rfl (ssub_refl)))))
  · skip
    refine st_vg rfl (bool_get rfl hg) (v_move rfl) (st_clrg rfl (bool_get rfl hg) rfl rfl en13 rfl (short_ct hC hc0) ?_)
    refine st_vg rfl (bool_get rfl hg) (v_not rfl) (st_v (v_pick_false (bool_ev rfl hg) rfl) ?_)
    exact hcut _ (ssub_head (by first | rfl | (rw [hg]; rfl) | simp_all) (ssub_skip rfl (ssub_skip rfl (ssub_skip rfl (ssub_refl)))))
  refine st_nil (nx_kp [0, 1, 2, 3, 4, 5, 12, 44] rfl (nx_then (cd_cond rfl (fun hc => ?_) (fun hc => ?_))))
  · skip
    refine cd_seq (cd_region (st_cl rfl rfl en14 rfl (sanity_c) ?_))
    rintro v' h' ⟨rfl, rfl⟩
    simp only [List.nil_append]
    refine st_v (v_assign rfl) (st_nil (nx_kp [0, 1, 2, 3, 4, 5, 12] rfl (nx_then (cd_ret (xt_ret_then ?_)))))
    exact xt_rt rfl ⟨rfl, rfl⟩ (by (repeat (refine Sub.sel (by repeat (first | exact Sel.here | apply Sel.there)) ?_)); (repeat apply Sub.cons); first | exact Sub.refl _ | exact Sub.nil _)
  · skip
    simp only [Bool.or_eq_false_iff, Bool.not_eq_false'] at hc
    obtain ⟨hl, hsc⟩ := hc
    have hsl : sh.length ≤ 1000000 := by
      unfold lightp at hl
      simp only [Bool.and_eq_true, decide_eq_true_eq] at hl
      omega
    have hcl : cs.length ≤ 60 ∧ ∀ x ∈ cs, x.roots.length ≤ 210 := by
      unfold shortp at hsc
      simp only [Bool.and_eq_true, decide_eq_true_eq, List.all_eq_true] at hsc
      refine ⟨by omega, fun x hx => ?_⟩
      have := hsc.1 x hx
      unfold shortC at this
      simp at this
      omega
    obtain ⟨hcl1, hcl2⟩ := hcl
    refine cd_skip (xt_then (cd_seq (cd_region (st_v (v_move rfl) (st_v (v_move rfl) (st_clr rfl rfl en29 rfl (spaces_ct hh hy) ?_))))))
    refine st_v (v_move rfl) (st_v (v_extract rfl rfl) (st_v (v_extract rfl rfl) (st_v (v_assign rfl) (st_v (v_assign rfl) (st_nil (nx_kp [0, 3, 4, 5, 12, 13, 14] rfl (nx_then (cd_seq (cd_region (st_v (v_move rfl) (st_v (v_move rfl) (st_v (v_move rfl) (st_v (v_move rfl) ?_)))))))))))))
    have hn1 : IntKind.wrap .i64 n = n := I64.wrap (by unfold I64; omega)
    obtain ⟨p1, p2⟩ := tmod_bd (k := 21) (by omega) hn.1
    refine st_v (v_conv rfl Try.underlying5 Try.underlying3 hn1) (st_v (v_rem rfl rfl (by decide) (I64.wrap (by unfold I64; omega))) ?_)
    obtain ⟨N, hN⟩ : ∃ N : Nat, n.tmod 21 = N := ⟨(n.tmod 21).toNat, by omega⟩
    rw [hN]
    rw [hN] at p1 p2
    refine st_v (v_move rfl) (st_cl rfl rfl en30 rfl (play_c (half := pick1 600 half) (young := pick1 100 young) (n := N) hS hsl hX ha) ?_)
    rintro v' h' hu
    rcases hu with ⟨hne, rfl, rfl⟩ | ⟨hpe, hne, hN0, hN2, hxl, L0, μ0, S1, rv0, ev0, rfl, I0, rfl⟩
    · skip
      simp only [List.cons_append, List.nil_append]
      refine st_v (v_move rfl) (st_v (v_extract rfl rfl) (st_v (v_extract rfl rfl) (st_v (v_extract rfl rfl) (st_v (v_extract rfl rfl) (st_v (v_assign rfl) (st_v (v_assign rfl) (st_v (v_assign rfl) (st_v (v_assign rfl) (st_nil (nx_kp [5, 12, 15, 16, 18] rfl (nx_then (cd_seq (cd_seq (cd_region (st_v (v_move rfl) ?_)))))))))))))))
      refine st_v (v_neq rfl rfl) (st_nil (nx_kp [5, 12, 15, 16, 66] rfl (nx_then (cd_cond rfl (fun hA => ?_) (fun hA => ?_)))))
      · skip
        refine cd_seq (cd_region (st_cl rfl rfl en14 rfl (sanity_c) ?_))
        rintro v' h' ⟨rfl, rfl⟩
        simp only [List.nil_append]
        refine st_v (v_assign rfl) (st_nil (nx_kp [5, 12, 15, 16] rfl (nx_then (cd_ret (xt_ret_then ?_)))))
        exact xt_rt rfl ⟨rfl, rfl⟩ (by (repeat (refine Sub.sel (by repeat (first | exact Sel.here | apply Sel.there)) ?_)); (repeat apply Sub.cons); first | exact Sub.refl _ | exact Sub.nil _)
      · skip
        exact absurd (by simpa using hA) hne
    · skip
      simp only [List.cons_append, List.nil_append]
      refine st_v (v_move rfl) (st_v (v_extract rfl rfl) (st_v (v_extract rfl rfl) (st_v (v_extract rfl rfl) (st_v (v_extract rfl rfl) (st_v (v_assign rfl) (st_v (v_assign rfl) (st_v (v_assign rfl) (st_v (v_assign rfl) (st_nil (nx_kp [5, 12, 15, 16, 18] rfl (nx_then (cd_seq (cd_seq (cd_region (st_v (v_move rfl) ?_)))))))))))))))
      refine st_v (v_neq rfl rfl) (st_nil (nx_kp [5, 12, 15, 16, 66] rfl (nx_then (cd_false rfl ?_))))
      refine cd_skip (xt_then (cd_seq (cd_region (st_v (v_move rfl) (st_v (v_move rfl) ?_)))))
      obtain ⟨z5, z6, z1, z2, z3, z4⟩ := newErr_sz hne
      have hst0 := Wst.new (sh := sh) z1 z2 z3 z4 z5 z6 (n := N) (by omega)
      obtain ⟨A1, xs1, hst1⟩ := hst0.acts_any false xs
      have hF := Fine.acts false xs (fine_new hne) (List.replicate N 0)
      have hrl : (acts false xs (new' sh (pick1 600 half) (pick1 100 young)) (List.replicate N 0)).2.2.length = N := by rw [acts_len, List.length_replicate]
      rw [Int.toNat_natCast] at I0 ⊢
      generalize (acts false xs (new' sh (pick1 600 half) (pick1 100 young)) (List.replicate N 0)).2.1 = M at *
      generalize (acts false xs (new' sh (pick1 600 half) (pick1 100 young)) (List.replicate N 0)).2.2 = r0 at *
      generalize (acts false xs (new' sh (pick1 600 half) (pick1 100 young)) (List.replicate N 0)).1 = e0 at *
      have hpe0 := wst_pic hst1
      have hzp := pictured_sz hF (roots := r0) (by omega)
      obtain ⟨ly, ln, lf, φ, A, hg⟩ := id hF
      refine st_vecshape (v := rv0) (E := 3) (sz := 1) (by repeat (first | exact Sel.here | apply Sel.there)) fun ra rcp hrv hra => ?_
      have hri := rowI_vec hrv hra rfl
      have hpt := hpicture_ct I0 hg hri (by omega)
      have hrm := room_c I0
      have hck := check_c I0 hg
      have hcp := copy_c I0 hg
      rw [hpe0] at hpt
      unfold memSH at hpt hrm hck hcp
      unfold cpSH at hcp
      simp only [List.cons_append, List.nil_append] at hpt hcp
      unfold memSH
      simp only [List.cons_append, List.nil_append]
      refine st_cl rfl rfl en19 rfl (hpt) ?_
      rintro v' h' ⟨sv2, fv2, rv2, us2, rfl, hPF, rfl⟩
      have q1 := VForm.one hPF.s; have q2 := VForm.one hPF.f; have q3 := VForm.one hPF.r
      simp only [List.cons_append, List.nil_append]
      refine st_v (v_move rfl) (st_v (v_extract rfl rfl) (st_v (v_extract rfl rfl) (st_alc al42 fun b19 => ?_)))
      refine st_stoW rfl rfl sz42 rfl (by simp only [List.all_cons, List.all_nil, q1, q2, q3]; rfl) ?_
      refine st_v (v_assign rfl) (st_nil (nx_kp [5, 12, 15, 16, 19, 20] rfl (nx_then (cd_seq (cd_region (st_v (v_move rfl) (st_clr rfl rfl en24 rfl (hrm) ?_)))))))
      refine st_alc al54 fun b21 => ?_
      refine st_stoW rfl rfl sz54 rfl rfl ?_
      refine st_nil (nx_kp [5, 12, 15, 16, 19, 20, 21] rfl (nx_then (cd_seq (cd_region (st_v (v_move rfl) (st_cl rfl rfl en27 rfl (hcp) ?_))))))
      rintro v' h' ⟨L9, μ9, rfl, I9, rfl⟩
      simp only [List.cons_append, List.nil_append]
      refine st_v (v_assign rfl) (st_nil (nx_kp [5, 12, 15, 16, 19, 20, 21, 22] rfl (nx_then (cd_seq (cd_seq (cd_region (st_v (v_move rfl) (st_v (v_neq rfl rfl) (st_v (v_move rfl) (st_vg rfl rfl (v_move rfl) (st_vg rfl rfl (v_eql_ptr_nil rfl rfl pt27) (st_v (v_pick_false rfl rfl) (st_nil (nx_kp [5, 12, 15, 16, 19, 21, 22, 83] rfl (nx_then (cd_false rfl ?_))))))))))))))))
      refine cd_skip (xt_then (cd_seq (cd_region (st_v (v_assign rfl) (st_nil (nx_kp [5, 12, 15, 16, 19, 21, 22, 23] rfl (nx_then (cd_seq (cd_seq (cd_region (st_v (v_move rfl) (st_v (v_len (congrArg some hcv) Try.underlying23) (st_v (v_move rfl) (st_nil (nx_then (cd_block ?_))))))))))))))))
      refine cd_vecnil 89 2 ?_
      refine cd_loop (σ := CoS) (fun s => [(5, v5), (15, .pointer (some ⟨L0.mb, 0, none⟩)), (16, rv0), (19, .pointer (some ⟨b19, 0, none⟩)), (21, .pointer (some ⟨b21, 0, none⟩)), (22, .pointer (some ⟨L9.mb, 0, none⟩)), (23, s.v), (84, v5), (85, .int .i64 cs.length), (86, .int .i64 (s.i : Nat))]) (fun s => cpSH s.L s.μ ++ (memSH L0 μ0 S1 ++ [vec s.v 89 2 s.i (kc (callsR (cs.take s.i) M)), vec rv0 3 1 r0.length (ints r0), pt b19 (cl [sv2, fv2, rv2] 42), pR sv2 fv2 rv2 us2 (M.pictured r0).1, pt b21 (cl [.int .i64 M.room.1, .int .i64 M.room.2.1, .int .i64 M.room.2.2] 54), R]) ++ hr) (fun s => s.i ≤ cs.length ∧ MI s.L s.μ S1 (callsM (cs.take s.i) M) ∧ s.L.mb = L9.mb) (fun s => cs.length - s.i) ⟨0, L9, μ9, .slice none 0 0⟩ ⟨Nat.zero_le _, I9, rfl⟩ ⟨rfl, rfl, rfl, rfl, rfl, rfl, rfl, rfl, rfl, rfl, trivial⟩ (by unfold memSH cpSH; simp only [List.cons_append, List.nil_append]; exact (by (repeat (refine Sub.sel (by repeat (first | exact Sel.here | apply Sel.there)) ?_)); (repeat apply Sub.cons); first | exact Sub.refl _ | exact Sub.nil _)) ?_
      rintro ⟨i, L, μ, fv⟩ ⟨hi, I, hL⟩
      dsimp only at hi I hL ⊢
      unfold memSH cpSH
      simp only [List.cons_append, List.nil_append, List.append_assoc]
      refine cd_seq (cd_region (st_v (v_lss rfl rfl) (st_nil (nx_then (cd_seq (cd_cond rfl (fun hd => ?_) (fun hd => ?_)))))))
      · skip
        have hlt : i < cs.length := by simpa using hd
        obtain ⟨b, o, cp', u, hv', hu, hrds⟩ := hC.at hlt
        have hrl' : cs[i].roots.length ≤ 1000000 := by have := hcl2 _ (List.getElem_mem hlt); omega
        have ha' := hca _ (List.getElem_mem hlt)
        have ou : u.oneCell' = true := by obtain ⟨_, _, rfl, _⟩ := hu; rfl
        have hFi := hF.callsM (cs.take i)
        obtain ⟨ly', ln', lf', φ', A', hgi⟩ := id hFi
        have hct := called_ct (k := cs[i].k) (a := cs[i].a) (b := cs[i].b) (c := cs[i].c) I hgi hu hrl' ha'
        unfold memSH at hct
        rw [hL] at hct
        simp only [List.cons_append, List.nil_append] at hct
        have hsM := callsM_snoc (cs.take i) cs[i] M
        have hsR := callsR_snoc (cs.take i) cs[i] M
        rw [← List.take_succ_eq_append_getElem hlt] at hsM hsR
        refine cd_skip (xt_then (cd_seq (cd_block (cd_seq (cd_region (st_v (v_indexAddr (congrArg some hv') rfl sl23 rfl hlt rfl) (st_v (v_loadR (r := R) rfl ld38 rfl (by repeat (first | exact Sel.here | apply Sel.there)) hrds) ?_)))))))
        refine st_alc al38 fun b25 => ?_
        refine st_stoW rfl rfl sz38 rfl (by simp only [List.all_cons, List.all_nil, ou]; rfl) ?_
        refine st_nil (nx_kp [5, 15, 16, 19, 21, 22, 23, 25, 84, 85, 86] rfl (nx_then (cd_seq (cd_region (st_v (v_move rfl) (st_v (v_loadW rfl ld38 rfl (by repeat (first | exact Sel.here | apply Sel.there))) ?_))))))
        refine st_cl rfl rfl en17 rfl (hct) ?_
        rintro v' h' ⟨sl1, L1, μ1, rfl, I1, hL1, rfl⟩
        simp only [List.cons_append, List.nil_append]
        refine st_v (v_move rfl) (st_v (v_extract rfl rfl) (st_v (v_extract rfl rfl) (st_v (v_extract rfl rfl) (st_v (v_assign rfl) (st_v (v_assign rfl) (st_v (v_assign rfl) (st_nil (nx_kp [5, 15, 16, 19, 21, 22, 23, 26, 28, 84, 85, 86] rfl (nx_then (cd_region (st_v (v_move rfl) (st_v (v_move rfl) (st_v (v_move rfl) (st_v (v_build (cells := [.int .i64 (callX (callsM (cs.take i) M) cs[i]).1, .int .i64 (callX (callsM (cs.take i) M) cs[i]).2.2.1]) rfl (fun _ => by kernel_rfl)) ?_))))))))))))))
        refine st_buildSlice (cells := [.int .i64 (callX (callsM (cs.take i) M) cs[i]).1, .int .i64 (callX (callsM (cs.take i) M) cs[i]).2.2.1]) rfl Try.underlying87 inf89 rfl rfl (by kernel_rfl) (ltn rfl) fun b87 => ?_
        refine st_append (news := [.int .i64 (callX (callsM (cs.take i) M) cs[i]).1, .int .i64 (callX (callsM (cs.take i) M) cs[i]).2.2.1]) rfl rfl Try.underlying87 inf89 rfl (ltn rfl) (by repeat (first | exact Sel.here | apply Sel.there)) rfl (fun j u hu => by repeat (first | exact at_here (rd_cl (by simpa using hu)) | apply at_there)) (ones rfl) (by omega) (by omega) (ltn rfl) fun fv' hfv' hfo => ?_
        refine st_v (v_assign rfl) (st_nil (nx_kp [5, 15, 16, 19, 21, 22, 23, 84, 85, 86] rfl (nx_xt (xt_normal_block (xt_then (cd_region (st_v (v_add rfl rfl (by unfold I64 at *; omega)) (st_v (v_move rfl) (st_nil (nx_kp [5, 15, 16, 19, 21, 22, 23, 84, 85, 86] rfl (nx_xt (xt_ag (⟨i + 1, L1, μ1, fv'⟩ : CoS) ⟨hlt, by dsimp only; rw [hsM]; exact I1, hL1⟩ (by dsimp only; omega) (by repeat (first | exact trivial | refine ⟨rfl, ?_⟩)) ?_))))))))))))
        dsimp only
        rw [hsR, kc_append]
        exact (by (repeat (refine Sub.sel (by repeat (first | exact Sel.here | apply Sel.there)) ?_)); (repeat apply Sub.cons); first | exact Sub.refl _ | exact Sub.nil _)
      · skip
        have hge : i = cs.length := by
          have : ¬ i < cs.length := by simpa using hd
          omega
        subst hge
        rw [List.take_length] at I ⊢
        refine cd_exit (xt_exit_then (xt_exit_then (xt_exit_block (xt_then (cd_seq (cd_region (st_v (v_move rfl) (st_v (v_move rfl) (st_cl rfl rfl en19 rfl (hpt) ?_)))))))))
        rintro v' h' ⟨sv3, fv3, rv3, us3, rfl, hPF3, rfl⟩
        have q4 := VForm.one hPF3.s; have q5 := VForm.one hPF3.f; have q6 := VForm.one hPF3.r
        simp only [List.cons_append, List.nil_append]
        refine st_v (v_move rfl) (st_v (v_extract rfl rfl) (st_v (v_extract rfl rfl) (st_alc al42 fun b29 => ?_)))
        refine st_stoW rfl rfl sz42 rfl (by simp only [List.all_cons, List.all_nil, q4, q5, q6]; rfl) ?_
        have hsp := Reads.unstar (samePictures_ct (R := Res.star [pR sv2 fv2 rv2 us2 (M.pictured r0).1, pR sv3 fv3 rv3 us3 (M.pictured r0).1]) (hPF.v.star .here) (hPF3.v.star (.there .here)) hzp)
        rw [samePic_self] at hsp
        refine st_v (v_assign rfl) (st_nil (nx_kp [5, 15, 19, 21, 22, 23, 29, 30] rfl (nx_then (cd_seq (cd_seq (cd_drawh (ork [(0, 2), (1, 2), (2, 2), (3, 1), (4, 1), (5, 1), (6, 2), (7, 2), (8, 2), (9, 2), (10, 1), (11, 1), (12, 1), (13, 2), (14, 2), (15, 2), (16, 1), (17, 2), (18, 2)] .nil) (fun _ => true) mixed (by kernel_rfl) ?_))))))
        refine dp_v rfl (v_move rfl) (dp_v rfl (v_neq rfl rfl) (dp_v rfl (v_move rfl) (dr_vg rfl rfl rfl (v_loadW rfl ld42 rfl (by repeat (first | exact Sel.here | apply Sel.there))) ?_)))
        refine dr_vg rfl rfl rfl (v_loadW rfl ld42 rfl (by repeat (first | exact Sel.here | apply Sel.there))) ?_
        refine dr_clrg rfl rfl rfl rfl rfl en22 rfl (hsp) ?_
        refine dp_vg rfl rfl rfl (v_not rfl) (dp_v rfl (v_pick_false rfl rfl) (dp_v rfl (v_move rfl) (dp_vg rfl rfl rfl (v_move rfl) (dr_clrg rfl rfl rfl rfl rfl en24 rfl (hrm) ?_))))
        refine dr_vg rfl rfl rfl (v_loadW rfl ld54 rfl (by repeat (first | exact Sel.here | apply Sel.there))) ?_
        refine dr_vg rfl rfl rfl (v_neqi_self (xs := [M.room.1, M.room.2.1, M.room.2.2]) eqi54 rfl rfl rfl) (dp_v rfl (v_pick_false rfl rfl) (dp_v rfl (v_move rfl) (dp_vg rfl rfl rfl (v_move rfl) (dr_clrg rfl rfl rfl rfl rfl en26 rfl (hck) ?_))))
        refine dp_vg rfl rfl rfl (v_neq rfl rfl) (dp_v rfl (v_pick_false rfl rfl) (dr_nil (nx_kp [5, 15, 22, 23, 128] rfl (nx_then (cd_false rfl ?_)))))
        refine cd_skip (xt_then (cd_seq (cd_seq (cd_region (st_v (v_move rfl) (st_v (v_len (congrArg some hcv) Try.underlying23) (st_v (v_move rfl) (st_nil (nx_kp [15, 22, 23, 129, 130, 131] rfl (nx_then (cd_block (cd_vecshape (v := fv) (E := 89) (sz := 2) (n := cs.length) (l := kc (callsR cs M)) (by repeat (first | exact Sel.here | apply Sel.there)) fun fa fcp hfv hfa => ?_))))))))))))
        subst hfv
        refine cd_loop (σ := CoS) (fun s => [(15, .pointer (some ⟨L0.mb, 0, none⟩)), (22, .pointer (some ⟨L9.mb, 0, none⟩)), (23, .slice fa cs.length fcp), (129, v5), (130, .int .i64 cs.length), (131, .int .i64 (s.i : Nat))]) (fun s => cpSH L μ ++ (memSH s.L s.μ S1 ++ [vec (.slice fa cs.length fcp) 89 2 cs.length (kc (callsR cs M)), R]) ++ hr) (fun s => s.i ≤ cs.length ∧ MI s.L s.μ S1 (callsM (cs.take s.i) M) ∧ s.L.mb = L0.mb) (fun s => cs.length - s.i) ⟨0, L0, μ0, .slice none 0 0⟩ ⟨Nat.zero_le _, I0, rfl⟩ ⟨rfl, rfl, rfl, rfl, rfl, rfl, trivial⟩ (by unfold memSH cpSH; simp only [List.cons_append, List.nil_append]; exact (by (repeat (refine Sub.sel (by repeat (first | exact Sel.here | apply Sel.there)) ?_)); (repeat apply Sub.cons); first | exact Sub.refl _ | exact Sub.nil _)) ?_
        rintro ⟨i, L8, μ8, _⟩ ⟨hi8, I8, hL8⟩
        dsimp only at hi8 I8 hL8 ⊢
        unfold memSH cpSH
        simp only [List.cons_append, List.nil_append, List.append_assoc]
        refine cd_seq (cd_region (st_v (v_lss rfl rfl) (st_nil (nx_then (cd_seq (cd_cond rfl (fun hd8 => ?_) (fun hd8 => ?_)))))))
        · skip
          have hlt : i < cs.length := by simpa using hd8
          obtain ⟨b, o, cp', u, hv', hu, hrds⟩ := hC.at hlt
          have hrl' : cs[i].roots.length ≤ 1000000 := by have := hcl2 _ (List.getElem_mem hlt); omega
          have ha' := hca _ (List.getElem_mem hlt)
          have ou : u.oneCell' = true := by obtain ⟨_, _, rfl, _⟩ := hu; rfl
          have hFi := hF.callsM (cs.take i)
          obtain ⟨ly', ln', lf', φ', A', hgi⟩ := id hFi
          have hct := called_ct (k := cs[i].k) (a := cs[i].a) (b := cs[i].b) (c := cs[i].c) I8 hgi hu hrl' ha'
          unfold memSH at hct
          rw [hL8] at hct
          simp only [List.cons_append, List.nil_append] at hct
          have hsM := callsM_snoc (cs.take i) cs[i] M
          rw [← List.take_succ_eq_append_getElem hlt] at hsM
          obtain ⟨fb, rfl⟩ := hfa (by omega)
          have hfr := kc_rds (E := 89) (b := fb) (n := cs.length) (cp := fcp) (callsR_at cs M i hlt)
          refine cd_skip (xt_then (cd_seq (cd_block (cd_seq (cd_region (st_v (v_move rfl) (st_v (v_indexAddr (congrArg some hv') rfl sl23 rfl hlt rfl) (st_v (v_loadR (r := R) rfl ld38 rfl (by repeat (first | exact Sel.here | apply Sel.there)) hrds) ?_))))))))
          refine st_alc al38 fun b32 => ?_
          refine st_v (v_assign rfl) (st_stoW rfl rfl sz38 rfl (by simp only [List.all_cons, List.all_nil, ou]; rfl) ?_)
          refine st_nil (nx_kp [15, 22, 23, 31, 32, 129, 130, 131] rfl (nx_then (cd_seq (cd_region (st_v (v_move rfl) (st_v (v_loadW rfl ld38 rfl (by repeat (first | exact Sel.here | apply Sel.there))) ?_))))))
          refine st_cl rfl rfl en17 rfl (hct) ?_
          rintro v' h' ⟨sl1, L1, μ1, rfl, I1, hL1, rfl⟩
          simp only [List.cons_append, List.nil_append]
          refine st_v (v_move rfl) (st_v (v_extract rfl rfl) (st_v (v_extract rfl rfl) (st_v (v_extract rfl rfl) (st_v (v_assign rfl) (st_v (v_assign rfl) (st_v (v_assign rfl) (st_nil (nx_kp [15, 22, 23, 31, 33, 35, 129, 130, 131] rfl (nx_then (cd_seq (cd_region (st_v (v_move rfl) (st_v (v_move rfl) (st_v (v_indexAddr rfl rfl sl87 rfl hlt rfl) (st_v (v_loadR rfl ld89 rfl (by repeat (first | exact Sel.here | apply Sel.there)) hfr) ?_)))))))))))))))
          refine st_v (v_move rfl) (st_v (v_move rfl) (st_v (v_build (cells := [.int .i64 (callX (callsM (cs.take i) M) cs[i]).1, .int .i64 (callX (callsM (cs.take i) M) cs[i]).2.2.1]) rfl (fun _ => by kernel_rfl)) ?_))
          refine st_v (v_neqi_self (xs := [(callX (callsM (cs.take i) M) cs[i]).1, (callX (callsM (cs.take i) M) cs[i]).2.2.1]) eqi89 rfl rfl rfl) (st_nil (nx_kp [15, 22, 23, 129, 130, 131, 150] rfl (nx_then (cd_false rfl ?_))))
          refine cd_skip (xt_normal_block (xt_then (cd_region (st_v (v_add rfl rfl (by unfold I64 at *; omega)) (st_v (v_move rfl) (st_nil (nx_kp [15, 22, 23, 129, 130, 131] rfl (nx_xt (xt_ag (⟨i + 1, L1, μ1, .slice none 0 0⟩ : CoS) ⟨hlt, by dsimp only; rw [hsM]; exact I1, hL1⟩ (by dsimp only; omega) (by repeat (first | exact trivial | refine ⟨rfl, ?_⟩)) ?_)))))))))
          dsimp only
          exact (by (repeat (refine Sub.sel (by repeat (first | exact Sel.here | apply Sel.there)) ?_)); (repeat apply Sub.cons); first | exact Sub.refl _ | exact Sub.nil _)
        · skip
          have hge : i = cs.length := by
            have : ¬ i < cs.length := by simpa using hd8
            omega
          subst hge
          rw [List.take_length] at I8
          have hrm8 := room_c I8
          have hrm9 := room_c I
          unfold memSH at hrm8 hrm9
          rw [hL8] at hrm8
          rw [hL] at hrm9
          refine cd_exit (xt_exit_then (xt_exit_then (xt_exit_block (xt_then (cd_seq (cd_region (st_cl rfl rfl en14 rfl (sanity_c) ?_)))))))
          rintro v' h' ⟨rfl, rfl⟩
          simp only [List.nil_append]
          refine st_v (v_move rfl) (st_vg rfl rfl (v_move rfl) (st_clrg rfl rfl rfl rfl en24 rfl (hrm8) ?_))
          refine st_vg rfl rfl (v_move rfl) (st_clrg rfl rfl rfl rfl en24 rfl (hrm9) ?_)
          refine st_vg rfl rfl (v_eql_ints (xs := [(callsM cs M).room.1, (callsM cs M).room.2.1, (callsM cs M).room.2.2]) (ys := [(callsM cs M).room.1, (callsM cs M).room.2.1, (callsM cs M).room.2.2]) eqi54 rfl rfl rfl rfl) ?_
          rw [beq_self_eq_true]
          refine st_v (v_pick_true rfl rfl) (st_v (v_assign rfl) (st_nil (nx_kp [12] rfl (nx_then (cd_ret ?_)))))
          exact xt_rt rfl ⟨rfl, rfl⟩ (by (repeat (refine Sub.sel (by repeat (first | exact Sel.here | apply Sel.there)) ?_)); (repeat apply Sub.cons); first | exact Sub.refl _ | exact Sub.nil _)
end
end Go.Proofs.Ytmhmpjgkkpbnnaa
namespace Go.Proofs.Ytmhmpjgkkpbnnaa
open Go Go.RowKit Go.ChangeShapes Go.WideShapes Go.Ck
set_option maxRecDepth 100000 in
theorem heapCopies_lifted (os : Os) (started : os.Started) (H : Type) (enc : TypeId × Value → H) :
    ReturnsInHanded {} Try.checked os 10 .any (Rows.heapCopiesSpec.pre6 enc Try.prog Try.f10 Rows.heapCopiesRow.domain false) (Rows.heapCopiesSpec.post enc Try.prog Try.f10 false true false false) := by
  refine returnsInHanded_of_change (C := Try.checked) own' started (by kernel_rfl) Try.func10
    (ChangeSpec.witness6 (enc := enc) (C := Try.checked) false ⟨#[], #[.slice none 0 0, .int .u16 0, .int .u16 0, .int .u8 0, .slice none 0 0, .slice none 0 0], []⟩ 8 (by kernel_rfl) (by kernel_rfl) (by kernel_rfl) (by kernel_rfl)) ?_
  intro W base args ds gs before hval0 hW hcnd _
  have hval : ∀ (j : Nat) t v, Try.f10.params[j]? = some t → args[j]? = some v → Value.okWide Try.prog W .any base t v := hval0
  have hW' := hW
  obtain ⟨p, q, hA0, hV, rfl, hfz, hnd⟩ := hW
  have hA : DataW.TrodAll enc Try.prog W 0 (fun _ => true) true Try.f10.params.toList args.toList ds p := hA0
  rw [Try.params10] at hA hval
  obtain ⟨v0, vs0, d0, ds0, p0, q0, hargs, rfl, rfl, h0, r0⟩ := trodAll_cons hA
  obtain ⟨v1, vs1, d1, ds1, p1, q1, rfl, rfl, rfl, h1, r1⟩ := trodAll_cons r0
  obtain ⟨v2, vs2, d2, ds2, p2, q2, rfl, rfl, rfl, h2, r2⟩ := trodAll_cons r1
  obtain ⟨v3, vs3, d3, ds3, p3, q3, rfl, rfl, rfl, h3, r3⟩ := trodAll_cons r2
  obtain ⟨v4, vs4, d4, ds4, p4, q4, rfl, rfl, rfl, h4, r4⟩ := trodAll_cons r3
  obtain ⟨v5, vs5, d5, ds5, p5, q5, rfl, rfl, rfl, h5, r5⟩ := trodAll_cons r4
  obtain ⟨rfl, rfl, rfl⟩ := trodAll_nil r5
  obtain rfl : args = #[v0, v1, v2, v3, v4, v5] := by cases args; simp_all
  obtain ⟨rfl, rfl⟩ := trodVars_none hV
  obtain ⟨y0, e0⟩ := arg_one (ty := .slice (.slice .bool)) (by kernel_rfl) (by kernel_rfl) (hval 0 22 v0 rfl rfl) h0
  obtain ⟨y1, e1⟩ := arg_one (ty := .int .u16) (by kernel_rfl) (by kernel_rfl) (hval 1 61 v1 rfl rfl) h1
  obtain ⟨y2, e2⟩ := arg_one (ty := .int .u16) (by kernel_rfl) (by kernel_rfl) (hval 2 61 v2 rfl rfl) h2
  obtain ⟨y3, e3⟩ := arg_one (ty := .int .u8) (by kernel_rfl) (by kernel_rfl) (hval 3 5 v3 rfl rfl) h3
  obtain ⟨y4, e4⟩ := arg_one (ty := .slice actTy) (by kernel_rfl) (by kernel_rfl) (hval 4 62 v4 rfl rfl) h4
  obtain ⟨y5, e5⟩ := arg_one (ty := .slice callTy) (by kernel_rfl) (by kernel_rfl) (hval 5 23 v5 rfl rfl) h5
  obtain ⟨s0, l0⟩ := shp_of e0
  obtain ⟨s4, a4⟩ := acts_of e4
  obtain ⟨s5, l5, a5⟩ := calls_of e5
  obtain ⟨rfl, w1⟩ := rep_kind e1
  obtain ⟨rfl, w2⟩ := rep_kind e2
  obtain ⟨rfl, w3⟩ := rep_kind e3
  refine (ct_calls (heapCopies_c s0 l0 s4 a4 s5 l5 a5 (wf_u16 w1) (wf_u16 w2) (wf_u8 w3)) fun v h' h => ⟨h.1, by rw [h.2]; exact .refl _⟩).mono fun e W' ⟨he, hk⟩ => ⟨_, he, ?_⟩
  exact law_post (tys := [.slice (.slice .bool), .int .u16, .int .u16, .int .u8, .slice actTy, .slice callTy]) hW' rfl (by kernel_rfl) Try.underlying4 (by rw [Try.params10]; kernel_rfl) rfl hk
theorem heapCopies_holds : Rows.HeapCopiesSaid :=
  OpenClaim.holds_of_wide 10 Try.f10 rfl rfl rfl rfl rfl rfl rfl ⟨rfl, rfl, rfl, rfl, rfl⟩ rfl rfl rfl rfl rfl (by kernel_rfl) Try.func10 (by kernel_rfl)
    (of_decide_eq_true (by kernel_rfl)) (by unfold Func.isWrapper; first | (rw [if_pos (by decide +kernel)]; kernel_rfl) | (rw [if_neg (by decide +kernel)]; exact ⟨rfl, rfl⟩))
    (fun os started H enc _ => heapCopies_lifted os started H enc)
end Go.Proofs.Ytmhmpjgkkpbnnaa
