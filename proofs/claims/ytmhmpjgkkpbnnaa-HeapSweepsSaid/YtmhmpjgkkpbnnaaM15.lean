/-
  The words of a picture, counted by the law. Conditions: what the heap holds, that sizes are small.
  The law HeapSweeps, walked. Conditions: what the heap holds.
  HeapSweeps: for every input the law answers true, and the input reads as it did. No condition.
-/
import Derived.Test.YtmhmpjgkkpbnnaaM12
import Derived.Test.YtmhmpjgkkpbnnaaM5
import Derived.Test.YtmhmpjgkkpbnnaaM13
import Derived.Test.YtmhmpjgkkpbnnaaRows
namespace Go.Proofs.Ytmhmpjgkkpbnnaa
open Go.Ck Fx Go.Hm Go.Hm.AM
attribute [local irreducible] St Cd Xt Nx DrL LsW
section
variable {R : Res} {s1 f1 r1 : Value} {p : Pic}
/-- The words of the first rows. -/
def wsumTo (p : Pic) (i : Nat) : Int := ((p.fields.take i).map fun f => 1 + (f.length : Int)).sum
theorem wsumTo_all (p : Pic) : wsumTo p p.fields.length = wsum p := by unfold wsumTo wsum; rw [List.take_length]
theorem wsumTo_succ {i : Nat} (h : i < p.fields.length) : wsumTo p (i + 1) = wsumTo p i + (1 + (p.fields[i].length : Int)) := by
  unfold wsumTo
  rw [List.take_succ_eq_append_getElem h, List.map_append, List.sum_append, List.map_cons, List.map_nil, List.sum_cons, List.sum_nil, Int.add_zero]
theorem wsumTo_bd (z : PicSz p) : ∀ (i : Nat), i ≤ p.fields.length → 0 ≤ wsumTo p i ∧ wsumTo p i ≤ i * 1000001
  | 0, _ => by unfold wsumTo; simp
  | i + 1, h => by
    have := wsumTo_bd z i (by omega)
    have h1 := z.zx _ (List.getElem_mem (show i < p.fields.length by omega))
    rw [wsumTo_succ (by omega)]
    omega
set_option maxHeartbeats 2000000 in
set_option maxRecDepth 100000 in
theorem words_ct (h1 : PicV R s1 f1 r1 p) (zp : PicSz p) : Reads Try.prog 36 #[.agg #[s1, f1, r1]] [R] (.int .i64 (wsum p)) := by
  have z3 := zp.zf
  obtain ⟨fa1, fc1, hf1⟩ := h1.pf.shape
  refine ct_of (n := 20) Try.func36 rfl rfl (len rfl) fun hr w0 => ?_
  simp only [List.cons_append, List.nil_append]
  refine cd_seq (cd_region (st_bx rfl rfl fun b1 => ?_))
  refine st_v (v_assign rfl) (st_nil (nx_kp [1, 2] rfl (nx_then (cd_seq (cd_region (st_v (v_assign rfl) (st_nil (nx_then (cd_seq (cd_seq (cd_region (st_v (v_fieldAddr rfl fa42_1 rfl) (st_v (v_ld rfl ld40) ?_)))))))))))))
  refine st_v (v_len (congrArg some hf1) Try.underlying40) (st_v (v_move rfl) (st_nil (nx_kp [2, 3, 7, 8, 9] rfl (nx_then (cd_block (cd_loop (σ := Nat) (fun i => [(3, .int .i64 (wsumTo p i)), (7, f1), (8, .int .i64 (p.fields.length : Nat)), (9, .int .i64 (i : Nat))]) (fun _ => pt b1 (cl [s1, f1, r1] 42) :: R :: hr) (fun i => i ≤ p.fields.length) (fun i => p.fields.length - i) 0 (Nat.zero_le _) ⟨rfl, rfl, rfl, rfl, trivial⟩ (by (repeat (refine Sub.sel (by repeat (first | exact Sel.here | apply Sel.there)) ?_)); (repeat apply Sub.cons); first | exact Sub.refl _ | exact Sub.nil _) ?_))))))
  rintro i hi
  refine cd_seq (cd_region (st_v (v_lss rfl rfl) (st_nil (nx_then (cd_seq (cd_cond rfl (fun hd => ?_) (fun hd => ?_)))))))
  · skip
    have hlt : i < p.fields.length := by simpa using hd
    obtain ⟨ba, oa, ca, ua, hva, hra, hwa⟩ := h1.pf.row hlt
    obtain ⟨xa, ya, hxa, _⟩ := id hwa
    have hbd := wsumTo_bd zp i hi
    have hrl := zp.zx _ (List.getElem_mem hlt)
    refine cd_skip (xt_then (cd_seq (cd_block (cd_seq (cd_region (st_v (v_ixo i (congrArg some hva) rfl sl40 rfl hlt) (st_v (v_ld rfl ld34) ?_)))))))
    refine st_v (v_assign rfl) (st_nil (nx_kp [3, 5, 7, 8, 9] rfl (nx_then (cd_region (st_v (v_move rfl) (st_v (v_move rfl) (st_v (v_len (congrArg some hxa) Try.underlying34) (st_v (v_add rfl rfl (by unfold I64 at *; omega)) (st_v (v_add rfl rfl (by unfold I64 at *; omega)) (st_v (v_assign rfl) (st_nil (nx_kp [3, 7, 8, 9] rfl (nx_xt (xt_normal_block (xt_then (cd_region (st_v (v_add rfl rfl (by unfold I64 at *; omega)) ?_)))))))))))))))))
    refine st_v (v_move rfl) (st_nil (nx_kp [3, 7, 8, 9] rfl (nx_xt ?_)))
    rw [show wsumTo p i + (1 + (p.fields[i].length : Int)) = wsumTo p (i + 1) from (wsumTo_succ hlt).symm]
    refine xt_ag (i + 1) hlt (by omega)
  · skip
    have hge : p.fields.length ≤ i := by simpa using hd
    have he : i = p.fields.length := by omega
    rw [he, wsumTo_all]
    refine cd_exit (xt_exit_then (xt_exit_then (xt_exit_block (xt_then (cd_seq (cd_region (st_v (v_move rfl) (st_v (v_assign rfl) (st_nil (nx_kp [2] rfl (nx_then (cd_ret ?_))))))))))))
    exact xt_rt rfl ⟨rfl, rfl⟩ (by (repeat (refine Sub.sel (by repeat (first | exact Sel.here | apply Sel.there)) ?_)); (repeat apply Sub.cons); first | exact Sub.refl _ | exact Sub.nil _)
end
end Go.Proofs.Ytmhmpjgkkpbnnaa
namespace Go.Ck
open Go
theorem v_gtr_no {P : Program} {e : Env} {h : SH} {ty t t' : TypeId} {x y : Operand} {k : IntKind} {a b : Int} (hx : e.ev? x = some (.int k a)) (hy : e.ev? y = some (.int k b)) (hn : ¬ b < a) : Vop P e h (.binOp .gtr t x y t') ty (.bool false) := by
  have := v_gtr (P := P) (h := h) (ty := ty) (t := t) (t' := t') hx hy
  rwa [decide_eq_false hn] at this
end Go.Ck
namespace Go.Proofs.Ytmhmpjgkkpbnnaa
open Go.Ck Fx Go.Hm Go.Hm.AM
attribute [local irreducible] St Cd Xt Nx DrL LsW
section
variable {R : Res} {v0 v4 : Value} {sh : List (List Bool)} {xs : List Go.Hm.Act} {half young n a5 : Int}
theorem newErr_szS {H Y : Int} (hne : newErr sh H Y = 0) : sh.length ≤ 100 ∧ (∀ l ∈ sh, l.length ≤ 100) ∧ 1 ≤ H ∧ H ≤ 100000 ∧ 1 ≤ Y ∧ Y ≤ 400000 := by
  obtain ⟨_, _, _, _, _, g⟩ := fine_new hne
  have z := g.g.sz
  exact ⟨z.n, z.w, z.H0, z.H1, z.Y0, z.Y1⟩
theorem wst_picS {m : AM} {r : List Int} {A : Store} {ys : List Int} (h : Wst m r A ys) : m.pictured r = (m.pic r, 0) := by
  unfold AM.pictured
  rw [if_neg (by rw [h.rooted]; simp)]
theorem kactsS (en : Bool) : ∀ (l : List Go.Hm.Act) {m : AM}, Fine m → (r : List Int) → Kept m (AM.acts en l m r).2.1
  | [], m, _, _ => Kept.refl m
  | x :: t, m, h, r => by
    have h' := h.act en r x
    obtain ⟨_, _, _, _, _, g⟩ := h
    exact (g.kact en r x).trans (kactsS en t h' _)
theorem wst_fine {m : AM} {r : List Int} {A : Store} {ys : List Int} (h : Wst m r A ys) : Fine m := by
  obtain ⟨_, ly, ln, lf, φ, g, _⟩ := h
  exact ⟨ly, ln, lf, φ, A, g⟩
set_option maxHeartbeats 4000000 in
set_option maxRecDepth 100000 in
theorem heapSweeps_c (hS : Shp R v0 sh) (hs0 : sh.length ≤ maxLen) (hX : ActsV R v4 xs) (ha : ∀ x ∈ xs, I64 x.a) (hh : 0 ≤ half ∧ half < 65536) (hy : 0 ≤ young ∧ young < 65536) (hn : 0 ≤ n ∧ n < 256) (h5 : 0 ≤ a5 ∧ a5 < 256) :
    Ct Try.prog 7 #[v0, .int .u16 half, .int .u16 young, .int .u8 n, v4, .int .u8 a5] [R] fun u h' => u = .bool true ∧ h' = [R] := by
  obtain ⟨a, cp, hv, _⟩ := id hS
  obtain ⟨xa, xcp, hxv, _⟩ := id hX
  refine ct_of (n := 173) Try.func7 rfl rfl (len rfl) fun hr w0 => ?_
  simp only [List.cons_append, List.nil_append]
  refine cd_seq (cd_region (st_v (v_assign rfl) (st_nil (nx_then (cd_seq (cd_seq (cd_region (st_v (v_move rfl) (st_v (v_move rfl) (st_clr rfl rfl en28 rfl (light_ct hS hs0 hX) ?_))))))))))
  refine st_v (v_not rfl) (st_nil (nx_kp [0, 1, 2, 3, 4, 5, 12, 39] rfl (nx_then (cd_cond rfl (fun hc => ?_) (fun hc => ?_)))))
  · skip
    refine cd_seq (cd_region (st_cl rfl rfl en14 rfl (sanity_c) ?_))
    rintro v' h' ⟨rfl, rfl⟩
    simp only [List.nil_append]
    refine st_v (v_assign rfl) (st_nil (nx_kp [0, 1, 2, 3, 4, 5, 12] rfl (nx_then (cd_ret (xt_ret_then ?_)))))
    exact xt_rt rfl ⟨rfl, rfl⟩ (by (repeat (refine Sub.sel (by repeat (first | exact Sel.here | apply Sel.there)) ?_)); (repeat apply Sub.cons); first | exact Sub.refl _ | exact Sub.nil _)
  · skip
    have hl : lightp sh xs = true := by simpa using hc
    have hsl : sh.length ≤ 1000000 := by
      unfold lightp at hl
      simp only [Bool.and_eq_true, decide_eq_true_eq] at hl
      omega
    refine cd_skip (xt_then (cd_seq (cd_region (st_v (v_move rfl) (st_v (v_move rfl) (st_clr rfl rfl en29 rfl (spaces_ct hh hy) ?_))))))
    refine st_v (v_move rfl) (st_v (v_extract rfl rfl) (st_v (v_extract rfl rfl) (st_v (v_assign rfl) (st_v (v_assign rfl) (st_nil (nx_kp [0, 3, 4, 5, 12, 13, 14] rfl (nx_then (cd_seq (cd_region (st_v (v_move rfl) (st_v (v_move rfl) (st_v (v_move rfl) (st_v (v_move rfl) ?_)))))))))))))
    have hn1 : IntKind.wrap .i64 n = n := I64.wrap (by unfold I64; omega)
    have h51 : IntKind.wrap .i64 a5 = a5 := I64.wrap (by unfold I64; omega)
    have hp1 := pick1_bd (k := 600) (by omega) hh.1
    obtain ⟨p1, p2⟩ := tmod_bd (k := 21) (by omega) hn.1
    refine st_v (v_conv rfl Try.underlying5 Try.underlying3 hn1) (st_v (v_rem rfl rfl (by decide) (I64.wrap (by unfold I64; omega))) ?_)
    obtain ⟨N, hN⟩ : ∃ N : Nat, n.tmod 21 = N := ⟨(n.tmod 21).toNat, by omega⟩
    rw [hN]
    rw [hN] at p1 p2
    refine st_v (v_move rfl) (st_cl rfl rfl en30 rfl (play_c (half := pick1 600 half) (young := pick1 100 young) (n := N) hS hsl hX ha) ?_)
    rintro v' h' hu
    rcases hu with ⟨hne, rfl, rfl⟩ | ⟨hpe, hne, hN0, hN2, hxl, L0, μ0, S1, rv0, ev0, rfl, I0, rfl⟩
    · skip
      simp only [List.cons_append, List.nil_append]
      refine st_v (v_move rfl) (st_v (v_extract rfl rfl) (st_v (v_extract rfl rfl) (st_v (v_extract rfl rfl) (st_v (v_extract rfl rfl) (st_v (v_assign rfl) (st_v (v_assign rfl) (st_v (v_assign rfl) (st_v (v_assign rfl) (st_nil (nx_kp [5, 12, 13, 15, 16, 18] rfl (nx_then (cd_seq (cd_seq (cd_region (st_v (v_move rfl) ?_)))))))))))))))
      refine st_v (v_neq rfl rfl) (st_nil (nx_kp [5, 12, 13, 15, 16, 61] rfl (nx_then (cd_cond rfl (fun hA => ?_) (fun hA => ?_)))))
      · skip
        refine cd_seq (cd_region (st_cl rfl rfl en14 rfl (sanity_c) ?_))
        rintro v' h' ⟨rfl, rfl⟩
        simp only [List.nil_append]
        refine st_v (v_assign rfl) (st_nil (nx_kp [5, 12, 13, 15, 16] rfl (nx_then (cd_ret (xt_ret_then ?_)))))
        exact xt_rt rfl ⟨rfl, rfl⟩ (by (repeat (refine Sub.sel (by repeat (first | exact Sel.here | apply Sel.there)) ?_)); (repeat apply Sub.cons); first | exact Sub.refl _ | exact Sub.nil _)
      · skip
        exact absurd (by simpa using hA) hne
    · skip
      simp only [List.cons_append, List.nil_append]
      refine st_v (v_move rfl) (st_v (v_extract rfl rfl) (st_v (v_extract rfl rfl) (st_v (v_extract rfl rfl) (st_v (v_extract rfl rfl) (st_v (v_assign rfl) (st_v (v_assign rfl) (st_v (v_assign rfl) (st_v (v_assign rfl) (st_nil (nx_kp [5, 12, 13, 15, 16, 18] rfl (nx_then (cd_seq (cd_seq (cd_region (st_v (v_move rfl) ?_)))))))))))))))
      refine st_v (v_neq rfl rfl) (st_nil (nx_kp [5, 12, 13, 15, 16, 61] rfl (nx_then (cd_false rfl ?_))))
      refine cd_skip (xt_then (cd_seq (cd_seq (cd_region (st_v (v_move rfl) (st_v (v_move rfl) (st_v (v_mul rfl rfl (by unfold I64 at *; omega)) ?_)))))))
      obtain ⟨z5, z6, z1, z2, z3, z4⟩ := newErr_szS hne
      have hst0 := Wst.new (sh := sh) z1 z2 z3 z4 z5 z6 (n := N) (by omega)
      obtain ⟨A1, xs1, hst1⟩ := hst0.acts_any false xs
      have hF := Fine.acts false xs (fine_new hne) (List.replicate N 0)
      have hK := kactsS false xs (fine_new hne) (List.replicate N 0)
      rw [Int.toNat_natCast] at I0 ⊢
      generalize (acts false xs (new' sh (pick1 600 half) (pick1 100 young)) (List.replicate N 0)).2.1 = M at *
      generalize (acts false xs (new' sh (pick1 600 half) (pick1 100 young)) (List.replicate N 0)).2.2 = r0 at *
      generalize (acts false xs (new' sh (pick1 600 half) (pick1 100 young)) (List.replicate N 0)).1 = e0 at *
      obtain ⟨ly, ln, lf, φ, A, hg⟩ := id hF
      have kH : M.H = pick1 600 half := hK.H
      have hst := step_c I0 hg (2 * pick1 600 half) (by unfold I64; omega)
      have hse := step_err (m := M) (w := 2 * pick1 600 half) (by omega)
      have hF1 := hF.step (2 * pick1 600 half)
      have hK1 := hg.kstep (2 * pick1 600 half)
      have hb1 := hg.step_all (w := 2 * pick1 600 half) (by omega)
      have hw1 := hst1.stp (2 * pick1 600 half)
      have kH1 := hK1.H.trans kH
      unfold memSH at hst ⊢
      simp only [List.cons_append, List.nil_append] at ⊢
      refine st_cl rfl rfl en31 rfl (hst) ?_
      rintro v' h' ⟨L1, μ1, rfl, I1, hL1, rfl⟩
      rw [hse]
      generalize (M.step (2 * pick1 600 half)).2.2 = M1 at I1 hF1 hb1 hw1 kH1
      generalize (M.step (2 * pick1 600 half)).1 = le1
      simp only [List.cons_append, List.nil_append]
      have hbz := busy_c I1
      rw [hb1] at hbz
      obtain ⟨ly1, ln1, lf1, φ1, A2, hg1⟩ := id hF1
      have hrl : r0.length ≤ 200 := hw1.1
      have hzp := pictured_sz hF1 (roots := r0) (by omega)
      have hpe0 := wst_picS hw1
      have kh0 : 1 ≤ 1 + a5.tmod 40 ∧ 1 + a5.tmod 40 ≤ 40 := by
        have := tmod_bd (k := 40) (by omega) h5.1
        omega
      obtain ⟨law1, law2⟩ := whole_law hw1 hb1 (by omega) (w := 1 + a5.tmod 40) kh0.1
      refine st_vecshape (v := rv0) (E := 3) (sz := 1) (by repeat (first | exact Sel.here | apply Sel.there)) fun ra rcp hrv hra => ?_
      have hri := rowI_vec hrv hra rfl
      have hpt := hpicture_ct I1 hg1 hri (by omega)
      have hwh := whole_c I1 hF1 hri (by omega) (w := 1 + a5.tmod 40) (by unfold I64; omega)
      rw [hpe0] at hpt hzp
      unfold memSH at hbz hpt hwh
      rw [hL1] at hbz hpt hwh
      simp only [List.cons_append, List.nil_append] at hpt hwh
      refine st_v (v_move rfl) (st_v (v_extract rfl rfl) (st_v (v_extract rfl rfl) (st_v (v_assign rfl) (st_v (v_assign rfl) (st_nil (nx_kp [5, 12, 13, 15, 16, 20] rfl (nx_then (cd_seq (cd_region (st_v (v_move rfl) (st_v (v_neq rfl rfl) (st_v (v_move rfl) (st_vg rfl rfl (v_move rfl) (st_clrg rfl rfl rfl rfl en23 rfl (hbz) ?_))))))))))))))
      refine st_v (v_pick_false rfl rfl) (st_nil (nx_kp [5, 12, 13, 15, 16, 75] rfl (nx_then (cd_false rfl ?_))))
      refine cd_skip (xt_then (cd_seq (cd_region (st_v (v_move rfl) (st_v (v_move rfl) (st_cl rfl rfl en19 rfl (hpt) ?_))))))
      rintro v' h' ⟨sv2, fv2, rv2, us2, rfl, hPF, rfl⟩
      have q1 := VForm.one hPF.s; have q2 := VForm.one hPF.f; have q3 := VForm.one hPF.r
      simp only [List.cons_append, List.nil_append]
      refine st_v (v_move rfl) (st_v (v_extract rfl rfl) (st_v (v_extract rfl rfl) (st_alc al42 fun b21 => ?_)))
      refine st_stoW rfl rfl sz42 rfl (by simp only [List.all_cons, List.all_nil, q1, q2, q3]; rfl) ?_
      refine st_v (v_assign rfl) (st_nil (nx_kp [5, 12, 13, 15, 16, 21, 22] rfl (nx_then (cd_seq (cd_seq (cd_region (st_v (v_move rfl) (st_v (v_neq rfl rfl) (st_nil (nx_kp [5, 12, 13, 15, 16, 21, 83] rfl (nx_then (cd_false rfl ?_))))))))))))
      refine cd_skip (xt_then (cd_seq (cd_region (st_v (v_move rfl) (st_v (v_move rfl) (st_v (v_move rfl) (st_v (v_conv rfl Try.underlying5 Try.underlying3 h51) (st_v (v_rem rfl rfl (by decide) (I64.wrap (by unfold I64; omega))) ?_))))))))
      refine st_v (v_add rfl rfl (by unfold I64 at *; omega)) (st_cl rfl rfl en32 rfl (hwh) ?_)
      rintro v' h' ⟨rv5, L2, μ2, rfl, I2, hL2, rfl⟩
      simp only [List.cons_append, List.nil_append]
      refine st_v (v_move rfl) (st_v (v_extract rfl rfl) (st_v (v_extract rfl rfl) (st_v (v_extract rfl rfl) (st_v (v_assign rfl) (st_v (v_assign rfl) (st_v (v_assign rfl) (st_nil (nx_kp [12, 13, 15, 16, 21, 23, 24, 25] rfl (nx_then (cd_seq (cd_seq (cd_region (st_v (v_move rfl) (st_v (v_not rfl) (st_nil (nx_kp [12, 13, 15, 16, 21, 23, 24, 96] rfl (nx_then ?_)))))))))))))))))
      refine cd_cond rfl (fun hW => ?_) (fun hW => ?_)
      · skip
        obtain ⟨l14, hw2⟩ := law1 (by simpa using hW)
        obtain ⟨ly2, ln2, lf2, φ2, A3, hg2⟩ := id (wst_fine hw2)
        have hmi := minor_c I2 hg2 hri (by omega)
        rw [l14] at hmi
        unfold memSH at hmi
        rw [hL2] at hmi
        simp only [List.cons_append, List.nil_append] at hmi
        refine cd_seq (cd_region (st_v (v_move rfl) (st_v (v_move rfl) (st_cl rfl rfl en34 rfl (hmi) ?_))))
        rintro v' h' ⟨sl4, L4, μ4, rfl, I4, hL4, rfl⟩
        simp only [List.cons_append, List.nil_append]
        refine st_v (v_move rfl) (st_v (v_extract rfl rfl) (st_v (v_extract rfl rfl) (st_v (v_assign rfl) (st_v (v_assign rfl) (st_nil (nx_kp [12, 13, 15, 21, 23, 24, 27] rfl (nx_then (cd_seq (cd_region (st_cl rfl rfl en14 rfl (sanity_c) ?_))))))))))
        rintro v' h' ⟨rfl, rfl⟩
        simp only [List.nil_append]
        refine st_v (v_move rfl) (st_vg rfl rfl (v_move rfl) (st_vg rfl rfl (v_eql rfl rfl) (st_v (v_pick_true rfl rfl) (st_v (v_assign rfl) (st_nil (nx_kp [12, 13, 15, 21, 23, 24] rfl (nx_then (cd_ret (xt_ret_then ?_)))))))))
        exact xt_rt rfl ⟨rfl, rfl⟩ (by (repeat (refine Sub.sel (by repeat (first | exact Sel.here | apply Sel.there)) ?_)); (repeat apply Sub.cons); first | exact Sub.refl _ | exact Sub.nil _)
      · skip
        have hW : (M1.whole r0 (1 + a5.tmod 40)).2.2.1 = true := by simpa using hW
        obtain ⟨hw2, ks2, hrm2, hse2, hle2, hd2, hw3, hd3, hsame⟩ := law2 hW
        rw [hse2]
        generalize hM2 : (M1.whole r0 (1 + a5.tmod 40)).2.2.2 = M2 at *
        generalize hr2 : (M1.whole r0 (1 + a5.tmod 40)).1 = r2 at *
        refine cd_skip (xt_then (cd_seq (cd_region (st_v (v_move rfl) (st_v (v_move rfl) (st_vecshape (v := rv5) (E := 3) (sz := 1) (by repeat (first | exact Sel.here | apply Sel.there)) fun ra2 rcp2 hrv2 hra2 => ?_))))))
        have hri2 := rowI_vec hrv2 hra2 rfl
        have hF2 := wst_fine hw2
        obtain ⟨ly2, ln2, lf2, φ2, A3, hg2⟩ := id hF2
        have hrl2 : r2.length ≤ 200 := hw2.1
        have hpt2 := hpicture_ct I2 hg2 hri2 (by omega)
        have hck := check_c I2 hg2
        have hrm := room_c I2
        have hpq : M2.pictured r2 = (M1.pic r0, 0) := (hw1.pic_eq hw2 ks2).symm.trans hpe0
        have hwh2 := whole_c I2 hF2 hri2 (by omega) (w := 1) (by unfold I64; omega)
        rw [hpq] at hpt2
        rw [hrm2] at hrm
        unfold memSH at hpt2 hck hrm hwh2
        rw [hL2] at hpt2 hck hrm hwh2
        simp only [List.cons_append, List.nil_append] at hpt2 hwh2
        refine st_cl rfl rfl en19 rfl (hpt2) ?_
        rintro v' h' ⟨sv6, fv6, rv6, us6, rfl, hPF6, rfl⟩
        have q4 := VForm.one hPF6.s; have q5 := VForm.one hPF6.f; have q6 := VForm.one hPF6.r
        simp only [List.cons_append, List.nil_append]
        refine st_v (v_move rfl) (st_v (v_extract rfl rfl) (st_v (v_extract rfl rfl) (st_alc al42 fun b28 => ?_)))
        refine st_stoW rfl rfl sz42 rfl (by simp only [List.all_cons, List.all_nil, q4, q5, q6]; rfl) ?_
        have hsp := Reads.unstar (samePictures_ct (R := Res.star [pR sv2 fv2 rv2 us2 (M1.pic r0), pR sv6 fv6 rv6 us6 (M1.pic r0)]) (hPF.v.star .here) (hPF6.v.star (.there .here)) hzp)
        rw [samePic_self] at hsp
        have hwd := words_ct hPF.v hzp
        generalize wsum (M1.pic r0) = W at *
        refine st_v (v_assign rfl) (st_nil (nx_kp [12, 13, 15, 21, 23, 24, 28, 29] rfl (nx_then (cd_seq (cd_seq (cd_drawh (ork [(0, 2), (1, 2), (2, 2), (3, 1), (4, 1), (5, 1), (6, 2), (7, 2), (8, 2), (9, 2), (10, 1), (11, 1), (12, 1), (13, 2), (14, 1), (15, 2), (16, 2), (17, 2), (18, 1), (19, 1), (20, 2), (21, 2), (22, 2), (23, 2), (24, 2), (25, 2), (26, 2), (27, 2), (28, 2), (29, 1), (30, 2), (31, 2)] .nil) (fun _ => true) mixed (by kernel_rfl) ?_))))))
        refine dp_v rfl (v_move rfl) (dp_v rfl (v_neq rfl rfl) (dp_v rfl (v_move rfl) (dr_vg rfl rfl rfl (v_loadW rfl ld42 rfl (by repeat (first | exact Sel.here | apply Sel.there))) ?_)))
        refine dr_vg rfl rfl rfl (v_loadW rfl ld42 rfl (by repeat (first | exact Sel.here | apply Sel.there))) ?_
        refine dr_clrg rfl rfl rfl rfl rfl en22 rfl (hsp) ?_
        refine dp_vg rfl rfl rfl (v_not rfl) (dp_v rfl (v_pick_false rfl rfl) (dp_v rfl (v_move rfl) (dp_vg rfl rfl rfl (v_move rfl) (dr_clrg rfl rfl rfl rfl rfl en24 rfl (hrm) ?_))))
        refine dr_vg rfl rfl rfl (v_loadW rfl ld42 rfl (by repeat (first | exact Sel.here | apply Sel.there))) ?_
        refine dr_clrg rfl rfl rfl rfl rfl en36 rfl (hwd) ?_
        refine dp_vg rfl rfl rfl (v_build (cells := ints [0, W, 0]) rfl (fun _ => by kernel_rfl)) ?_
        refine dr_vg rfl rfl rfl (v_neqi_self (xs := [0, W, 0]) eqi54 rfl rfl rfl) (dp_v rfl (v_pick_false rfl rfl) (dp_v rfl (v_move rfl) (dp_vg rfl rfl rfl (v_move rfl) (dr_vg rfl rfl rfl (v_loadW rfl ld42 rfl (by repeat (first | exact Sel.here | apply Sel.there))) ?_))))
        refine dr_clrg rfl rfl rfl rfl rfl en36 rfl (hwd) ?_
        refine dp_vg rfl rfl rfl (v_neq_self rfl rfl) (dp_v rfl (v_pick_false rfl rfl) (dp_v rfl (v_move rfl) (dp_vg rfl rfl rfl (v_move rfl) (dp_vg rfl rfl rfl (v_move rfl) (dp_vg rfl rfl rfl (v_gtr_no rfl rfl (by omega)) (dp_v rfl (v_pick_false rfl rfl) (dp_v rfl (v_move rfl) (dp_vg rfl rfl rfl (v_move rfl) (dr_clrg rfl rfl rfl rfl rfl en26 rfl (hck) ?_)))))))))
        refine dp_vg rfl rfl rfl (v_neq_self rfl rfl) (dp_v rfl (v_pick_false rfl rfl) (dr_nil (nx_kp [12, 13, 15, 23, 145] rfl (nx_then (cd_false rfl ?_)))))
        refine cd_skip (xt_then (cd_seq (cd_region (st_v (v_move rfl) (st_v (v_move rfl) (st_cl rfl rfl en32 rfl (hwh2) ?_))))))
        rintro v' h' ⟨rv7, L3, μ3, rfl, I3, hL3, rfl⟩
        rw [hd2]
        simp only [List.cons_append, List.nil_append]
        generalize hM3 : (M2.whole r2 1).2.2.2 = M3 at *
        generalize hr3 : (M2.whole r2 1).1 = r3 at *
        generalize (M2.whole r2 1).2.1 = s3
        refine st_vecshape (v := rv7) (E := 3) (sz := 1) (by repeat (first | exact Sel.here | apply Sel.there)) fun ra3 rcp3 hrv3 hra3 => ?_
        have hri3 := rowI_vec hrv3 hra3 rfl
        have hF3 := wst_fine hw3
        have hrl3 : r3.length ≤ 200 := hw3.1
        rw [kH1] at hd3 hsame
        have hwh3 := whole_c I3 hF3 hri3 (by omega) (w := pick1 600 half) (by unfold I64; omega)
        unfold memSH at hwh3
        rw [hL3] at hwh3
        simp only [List.cons_append, List.nil_append] at hwh3
        refine st_v (v_move rfl) (st_v (v_extract rfl rfl) (st_v (v_extract rfl rfl) (st_v (v_extract rfl rfl) (st_v (v_assign rfl) (st_v (v_assign rfl) (st_v (v_assign rfl) (st_nil (nx_kp [12, 13, 15, 23, 30, 32] rfl (nx_then (cd_seq (cd_region (st_v (v_move rfl) (st_v (v_move rfl) (st_v (v_move rfl) (st_cl rfl rfl en32 rfl (hwh3) ?_)))))))))))))))
        rintro v' h' ⟨rv8, L4, μ4, rfl, I4, hL4, rfl⟩
        rw [hd3, hsame]
        simp only [List.cons_append, List.nil_append]
        refine st_vecshape (v := rv8) (E := 3) (sz := 1) (by repeat (first | exact Sel.here | apply Sel.there)) fun ra4 rcp4 hrv4 hra4 => ?_
        have hri4 := rowI_vec hrv4 hra4 rfl
        have hsi := sameInts2_ct hri2 hri4 (by omega)
        rw [beq_self_eq_true] at hsi
        refine st_v (v_move rfl) (st_v (v_extract rfl rfl) (st_v (v_extract rfl rfl) (st_v (v_extract rfl rfl) (st_v (v_assign rfl) (st_v (v_assign rfl) (st_v (v_assign rfl) (st_nil (nx_kp [12, 23, 32, 33, 35] rfl (nx_then (cd_seq (cd_region (st_cl rfl rfl en14 rfl (sanity_c) ?_))))))))))))
        rintro v' h' ⟨rfl, rfl⟩
        simp only [List.nil_append]
        refine st_v (v_move rfl) (st_vg rfl rfl (v_move rfl) (st_v (v_pick_true rfl rfl) (st_v (v_move rfl) (st_vg rfl rfl (v_move rfl) (st_v (v_pick_true rfl rfl) (st_v (v_move rfl) (st_vg rfl rfl (v_move rfl) (st_vg rfl rfl (v_move rfl) (st_clrg rfl rfl rfl rfl en21 rfl (hsi) ?_)))))))))
        refine st_v (v_pick_true rfl rfl) (st_v (v_assign rfl) (st_nil (nx_kp [12] rfl (nx_then (cd_ret ?_)))))
        exact xt_rt rfl ⟨rfl, rfl⟩ (by (repeat (refine Sub.sel (by repeat (first | exact Sel.here | apply Sel.there)) ?_)); (repeat apply Sub.cons); first | exact Sub.refl _ | exact Sub.nil _)
end
end Go.Proofs.Ytmhmpjgkkpbnnaa
namespace Go.Proofs.Ytmhmpjgkkpbnnaa
open Go Go.RowKit Go.ChangeShapes Go.WideShapes Go.Ck
set_option maxRecDepth 100000 in
theorem heapSweeps_lifted (os : Os) (started : os.Started) (H : Type) (enc : TypeId × Value → H) :
    ReturnsInHanded {} Try.checked os 7 .any (Rows.heapSweepsSpec.pre6 enc Try.prog Try.f7 Rows.heapSweepsRow.domain false) (Rows.heapSweepsSpec.post enc Try.prog Try.f7 false true false false) := by
  refine returnsInHanded_of_change (C := Try.checked) own' started (by kernel_rfl) Try.func7
    (ChangeSpec.witness6 (enc := enc) (C := Try.checked) false ⟨#[], #[.slice none 0 0, .int .u16 0, .int .u16 0, .int .u8 0, .slice none 0 0, .int .u8 0], []⟩ 8 (by kernel_rfl) (by kernel_rfl) (by kernel_rfl) (by kernel_rfl)) ?_
  intro W base args ds gs before hval0 hW hcnd _
  have hval : ∀ (j : Nat) t v, Try.f7.params[j]? = some t → args[j]? = some v → Value.okWide Try.prog W .any base t v := hval0
  have hW' := hW
  obtain ⟨p, q, hA0, hV, rfl, hfz, hnd⟩ := hW
  have hA : DataW.TrodAll enc Try.prog W 0 (fun _ => true) true Try.f7.params.toList args.toList ds p := hA0
  rw [Try.params7] at hA hval
  obtain ⟨v0, vs0, d0, ds0, p0, q0, hargs, rfl, rfl, h0, r0⟩ := trodAll_cons hA
  obtain ⟨v1, vs1, d1, ds1, p1, q1, rfl, rfl, rfl, h1, r1⟩ := trodAll_cons r0
  obtain ⟨v2, vs2, d2, ds2, p2, q2, rfl, rfl, rfl, h2, r2⟩ := trodAll_cons r1
  obtain ⟨v3, vs3, d3, ds3, p3, q3, rfl, rfl, rfl, h3, r3⟩ := trodAll_cons r2
  obtain ⟨v4, vs4, d4, ds4, p4, q4, rfl, rfl, rfl, h4, r4⟩ := trodAll_cons r3
  obtain ⟨v5, vs5, d5, ds5, p5, q5, rfl, rfl, rfl, h5, r5⟩ := trodAll_cons r4
  obtain ⟨rfl, rfl, rfl⟩ := trodAll_nil r5
  obtain rfl : args = #[v0, v1, v2, v3, v4, v5] := by cases args; simp_all
  obtain ⟨rfl, rfl⟩ := trodVars_none hV
  obtain ⟨y0, e0⟩ := arg_one (ty := .slice (.slice .bool)) (by kernel_rfl) (by kernel_rfl) (hval 0 22 v0 rfl rfl) h0
  obtain ⟨y1, e1⟩ := arg_one (ty := .int .u16) (by kernel_rfl) (by kernel_rfl) (hval 1 61 v1 rfl rfl) h1
  obtain ⟨y2, e2⟩ := arg_one (ty := .int .u16) (by kernel_rfl) (by kernel_rfl) (hval 2 61 v2 rfl rfl) h2
  obtain ⟨y3, e3⟩ := arg_one (ty := .int .u8) (by kernel_rfl) (by kernel_rfl) (hval 3 5 v3 rfl rfl) h3
  obtain ⟨y4, e4⟩ := arg_one (ty := .slice actTy) (by kernel_rfl) (by kernel_rfl) (hval 4 62 v4 rfl rfl) h4
  obtain ⟨y5, e5⟩ := arg_one (ty := .int .u8) (by kernel_rfl) (by kernel_rfl) (hval 5 5 v5 rfl rfl) h5
  obtain ⟨s0, l0⟩ := shp_of e0
  obtain ⟨s4, a4⟩ := acts_of e4
  obtain ⟨rfl, w1⟩ := rep_kind e1
  obtain ⟨rfl, w2⟩ := rep_kind e2
  obtain ⟨rfl, w3⟩ := rep_kind e3
  obtain ⟨rfl, w5⟩ := rep_kind e5
  refine (ct_calls (heapSweeps_c s0 l0 s4 a4 (wf_u16 w1) (wf_u16 w2) (wf_u8 w3) (wf_u8 w5)) fun v h' h => ⟨h.1, by rw [h.2]; exact .refl _⟩).mono fun e W' ⟨he, hk⟩ => ⟨_, he, ?_⟩
  exact law_post (tys := [.slice (.slice .bool), .int .u16, .int .u16, .int .u8, .slice actTy, .int .u8]) hW' rfl (by kernel_rfl) Try.underlying4 (by rw [Try.params7]; kernel_rfl) rfl hk
theorem heapSweeps_holds : Rows.HeapSweepsSaid :=
  OpenClaim.holds_of_wide 7 Try.f7 rfl rfl rfl rfl rfl rfl rfl ⟨rfl, rfl, rfl, rfl, rfl⟩ rfl rfl rfl rfl rfl (by kernel_rfl) Try.func7 (by kernel_rfl)
    (of_decide_eq_true (by kernel_rfl)) (by unfold Func.isWrapper; first | (rw [if_pos (by decide +kernel)]; kernel_rfl) | (rw [if_neg (by decide +kernel)]; exact ⟨rfl, rfl⟩))
    (fun os started H enc _ => heapSweeps_lifted os started H enc)
end Go.Proofs.Ytmhmpjgkkpbnnaa
