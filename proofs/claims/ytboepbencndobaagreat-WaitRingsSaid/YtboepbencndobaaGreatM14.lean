/-
  The reference: waits, Ring, CheckRing. Conditions: what is read, that lists are not too long.
  WaitRings: for every input the law answers true. Conditions: what is read, that numbers are those of the machine.
  WaitRings: for every input the law answers true, and the input reads as it did. No condition.
-/
import Derived.Test.YtboepbencndobaaGreatM13
import Derived.Test.YtboepbencndobaaGreatM8
import Derived.Test.YtboepbencndobaaGreatRows
import Derived.Test.YtboepbencndobaaGreatM11
set_option linter.unusedVariables false
set_option linter.unusedSimpArgs false
namespace Go.Wt
open Go Go.Ck Go.Proofs Go.Proofs.YtboepbencndobaaGreat Fx
attribute [local irreducible] Go.Ck.Sub St Cd Xt Nx DrL LsW
/-! ## The reference's search finds the same rings -/
section
variable {w : Nat → Int} {n i m : Nat}
theorem rring_some (hw : ∀ j, j < n → w j < n) (hi : i < n) (hgt : ∀ j, 1 ≤ j → j < m → (i : Int) < orb w i j) (h0 : orb w i m = i) (h1 : 1 < m) : ringAt w n i (n + 1) [(i : Int)] (w i) = some ((List.range m).map (orb w i)) := by
  have hs : w i ≠ i := fun e => by
    have := hgt 1 (Nat.le_refl _) h1
    rw [orb_one, e] at this; omega
  obtain ⟨k, hk⟩ := back_of (k := m) hw hi hs (by omega) h0 fun j hj => by
    rcases Nat.eq_zero_or_pos j with rfl | hp
    · show (0 : Int) ≤ i; omega
    · have := hgt j hp hj; omega
  have hkm : k = m := by
    obtain ⟨a, b, c, d⟩ := id hk
    rcases Nat.lt_trichotomy k m with h | h | h
    · have := hgt k (by omega) h; omega
    · exact h
    · exact absurd h0 (d m (by omega) h).1
  subst hkm
  exact ring_of hk
theorem rring_none (hw : ∀ j, j < n → w j < n) (hi : i < n) (hall : ∀ k, k < i → ∀ q, ¬ Back w n k q) (hgt : ∀ j, 1 ≤ j → j < m → (i : Int) < orb w i j) (h1 : 1 ≤ m) (hex : ¬ ((i : Int) < orb w i m ∧ m ≤ n)) (hnf : ¬ (orb w i m = i ∧ 1 < m)) : ∀ k, ¬ Back w n i k := by
  intro k hk
  obtain ⟨a, b, c, d⟩ := id hk
  have hbig : ∀ j, 1 ≤ j → j < k → (i : Int) < orb w i j := fun j h2 h3 => by
    obtain ⟨e1, e2⟩ := d j h2 h3
    rcases Int.lt_trichotomy (orb w i j) i with h | h | h
    · exfalso
      obtain ⟨q, hq⟩ := Int.eq_ofNat_of_zero_le e2
      have hqi : q < i := by omega
      have hadd : ∀ t, orb w i (j + t) = orb w q t := fun t => by have := orb_add e2 t; rw [hq, Int.toNat_natCast] at this; exact this
      have hq1 : orb w q (k - j) = i := by rw [← hadd, show j + (k - j) = k by omega]; exact c
      have hq2 : ∀ t, orb w q (k - j + t) = orb w i t := fun t => by have := orb_add (w := w) (i := q) (a := k - j) (by rw [hq1]; omega) t; rw [hq1, Int.toNat_natCast] at this; exact this
      have hq3 : orb w q k = q := by have := hq2 j; rw [show k - j + j = k by omega, hq] at this; exact this
      have hpos : ∀ t, t < k → 0 ≤ orb w q t := fun t ht => by
        rcases Nat.lt_or_ge t (k - j) with h4 | h4
        · rw [← hadd]
          exact (d (j + t) (by omega) (by omega)).2
        · have := hq2 (t - (k - j))
          rw [show k - j + (t - (k - j)) = t by omega] at this
          rw [this]
          rcases Nat.eq_zero_or_pos (t - (k - j)) with h5 | h5
          · rw [h5]; show (0 : Int) ≤ i; omega
          · exact (d _ h5 (by omega)).2
      have hqs : w q ≠ q := fun e => by
        have : ∀ t, orb w q t = q := by
          intro t
          induction t with
          | zero => rfl
          | succ t ih => rw [orb_succ (by rw [ih]; omega), ih, Int.toNat_natCast, e]
        rw [this] at hq1; omega
      obtain ⟨k', hk'⟩ := back_of (w := w) (n := n) (i := q) (k := k) hw (by omega) hqs (by omega) hq3 hpos
      exact hall q hqi k' hk'
    · exact absurd h e1
    · exact h
  rcases Nat.lt_trichotomy m k with h | h | h
  · exact hex ⟨hbig m h1 h, by omega⟩
  · subst h; exact hnf ⟨c, by omega⟩
  · have := hgt k (by omega) h; omega
end
theorem wf_lt {y : Yard} (h : y.right = true) {i : Nat} (hi : i < y.procs.length) : y.wf i < y.procs.length := by
  unfold Yard.wf
  rw [pr_get hi]
  rcases Int.lt_or_le (y.procs[i]).waitsFor 0 with h0 | h0
  · omega
  · have := waitsFor_lt h hi h0; omega
theorem ld103 : LdN Tryz.prog 103 3 := LdN.of Tryz.underlying103 sz103
section
variable {S : Res}
set_option maxRecDepth 100000 in
theorem rwaits_ct {jv pv : Value} {procs : List Proc} {i : Nat} (hp : Row S 9 (procR S) pv procs) (hi : i < procs.length) (hw : (procs[i]).job < 0 → (procs[i]).waits < 0) (hj1 : jv.oneCell' = true) : Reads Tryz.prog 92 #[.agg #[jv, pv], .int .i64 i] [S] (.int .i64 (procs[i]).waitsFor) := by
  have hst := rstate_ct (jv := jv) hp hi hw hj1
  obtain ⟨b, off, cp2, us, rfl, hus, hrd, lv, pv', hv, dv, rfl, hL, hP, hH, hD⟩ := hp.at (List.getElem?_eq_getElem hi)
  obtain ⟨al, cl', rfl, _⟩ := id hL
  obtain ⟨ap', cp', rfl, _⟩ := id hP
  obtain ⟨ah, ch', rfl, _⟩ := id hH
  obtain ⟨ad, cd', rfl, _⟩ := id hD
  generalize hpe : procs[i] = p at *
  generalize hst0 : p.waitsFor = st
  unfold Proc.waitsFor at hst0
  refine ct_of (n := 26) Tryz.func92 rfl rfl (len rfl) fun hr w0 => ?_
  refine cS (cR (st_bx rfl rfl fun b2 => ?_))
  refine sV (vA rfl) (sN (nK [1, 2, 4] rfl (nT (cS (cR (sV (vF rfl fa27_1 rfl) (sV (v_ldy rfl ld25) ?_)))))))
  refine sV (vM rfl) (sV (v_indexAddr (k := i) rfl rfl sl25 rfl hi rfl) (sV (v_ldn rfl ld77 hus hrd) ?_))
  refine st_alc al77 fun b5 => ?_
  refine st_stoW rfl rfl sz77 rfl rfl ?_
  refine sN (nK [1, 2, 4, 5] rfl (nT (cS (cS (cR (sV (vF rfl fa77_6 rfl) (sV (v_ldy rfl ld3) ?_)))))))
  refine sV (v_geq rfl rfl) (sN (nK [1, 2, 4, 5, 13] rfl (nT (cC rfl (fun h1 => ?_) (fun h1 => ?_)))))
  · skip
    rw [if_pos (by simpa using h1)] at hst0
    subst hst0
    refine cS (cR (sV (vF rfl fa77_6 rfl) (sV (v_ldy rfl ld3) ?_)))
    refine sV (vA rfl) (sN (nK [4] rfl (nT (cT (xR ?_)))))
    exact xt_rt rfl ⟨rfl, rfl⟩ (by (repeat (refine Sub.sel (by repeat (first | exact Sel.here | apply Sel.there)) ?_)); (repeat apply Sub.cons); first | exact Sub.refl _ | exact Sub.nil _)
  · skip
    rw [if_neg (by simpa using h1)] at hst0
    refine cK (xT (cS (cS (cR (sV (v_ldn rfl ld27 rfl rds_pt) ?_)))))
    refine sV (vM rfl) (st_clr rfl rfl en70 rfl (hst) ?_)
    refine sV (v_eql rfl rfl) (sN (nK [4, 5, 19] rfl (nT (cC rfl (fun h2 => ?_) (fun h2 => ?_)))))
    · skip
      have h2' : p.state = 4 := by simpa using h2
      rw [if_pos h2'] at hst0
      obtain ⟨l, ls, hl⟩ := state4 h2'
      have hhd : (p.lines.headD Line.none).key.1 = l.key.1 := by rw [hl]; rfl
      rw [hhd] at hst0
      subst hst0
      obtain ⟨b2, o2, cp3, us2, hv2, hus2, hrd2, av, rfl, hA⟩ := hL.at (show p.lines[0]? = some l by rw [hl]; rfl)
      have hlen : 0 < p.lines.length := by rw [hl]; simp
      refine cS (cR (sV (vF rfl fa77_0 rfl) (sV (v_ldy rfl ld73) ?_)))
      refine sV (v_indexAddr (k := 0) (congrArg some hv2) rfl sl73 rfl hlen rfl) (sV (vF rfl fa120_0 rfl) (sV (vF rfl fa79_0 rfl) (sV (v_ldy rfl ld3) ?_)))
      refine sV (vA rfl) (sN (nK [4] rfl (nT (cT (xR ?_)))))
      exact xt_rt rfl ⟨rfl, rfl⟩ (by (repeat (refine Sub.sel (by repeat (first | exact Sel.here | apply Sel.there)) ?_)); (repeat apply Sub.cons); first | exact Sub.refl _ | exact Sub.nil _)
    · skip
      rw [if_neg (by simpa using h2)] at hst0
      subst hst0
      refine cK (xT (cS (cR (sV (vA rfl) (sN (nK [4] rfl (nT (cT ?_))))))))
      exact xt_rt rfl ⟨rfl, rfl⟩ (by (repeat (refine Sub.sel (by repeat (first | exact Sel.here | apply Sel.there)) ?_)); (repeat apply Sub.cons); first | exact Sub.refl _ | exact Sub.nil _)
set_option maxHeartbeats 1000000 in
set_option maxRecDepth 100000 in
theorem rRing_ct {ys : List Value} {y : Yard} (hy : yardR S ys y) (hf : Fit y) : CtN Tryz.prog 44 #[.agg ys.toArray] [S] fun u T => ∃ v, u = .agg #[v, .bool (ringYE y).2.1, .int .i64 (ringYE y).2.2] ∧ T = VR v 3 1 ((ringYE y).1.map iC) := by
  obtain ⟨jv, pv, rfl, hj, hp⟩ := id hy
  obtain ⟨aj, cj, rfl, _⟩ := id hj
  obtain ⟨ap, cp, rfl, _⟩ := id hp
  have hfp := hf.2.1
  unfold ringYE
  refine ct_of (n := 54) Tryz.func44 rfl rfl (len rfl) fun hr w0 => ?_
  refine cS (cR (st_bx rfl rfl fun b1 => ?_))
  refine st_alc al103 fun b2 => ?_
  refine sN (nK [1, 2] rfl (nT (cS (cR (sV (v_ldn rfl ld27 rfl rds_pt) ?_)))))
  refine st_clr rfl rfl en73 rfl (rRight_ct hy hf) ?_
  refine sV (vA rfl) (sN (nK [1, 2, 3] rfl (nT (cS (cS (cR (sV (vM rfl) (sV (v_neq rfl rfl) (sN (nK [1, 2, 3, 10] rfl (nT (cC rfl (fun h1 => ?_) (fun h1 => ?_)))))))))))))
  · skip
    have hyr : y.right = false := by
      cases hyr : y.right with
      | false => rfl
      | true => rw [hyr] at h1; cases h1
    rw [hyr]
    refine cS (cR (sV (vM rfl) (sV (v_build (cells := [.slice none 0 0, .bool false, .int .i64 2]) rfl (fun _ => by kernel_rfl)) ?_)))
    refine st_stoW rfl rfl sz103 rfl rfl ?_
    refine sN (nK [2] rfl (nT (cT (xR (xt_vw (vw_nil 3 1) ?_)))))
    exact xt_retV (.cellN rfl ld103 rfl (by repeat (first | exact Sel.here | apply Sel.there)) .nil) ⟨VR (.slice none 0 0) 3 1 [], rfl, .slice none 0 0, rfl, rfl⟩ (by repeat (first | exact Sub.refl _ | exact Sub.nil _ | refine Sub.sel (by repeat (first | exact Sel.here | apply Sel.there)) ?_ | apply Sub.cons))
  · skip
    have hyr : y.right = true := by
      cases hyr : y.right with
      | true => rfl
      | false => rw [hyr] at h1; cases h1
    rw [if_pos hyr]
    have hwl : ∀ j, j < y.procs.length → y.wf j < y.procs.length := fun j hj => wf_lt hyr hj
    have hwc : ∀ (x : Nat), x < y.procs.length → Reads Tryz.prog 92 #[.agg #[.slice aj y.jobs.length cj, .slice ap y.procs.length cp], .int .i64 x] [S] (.int .i64 (y.wf x)) := fun x hx => by
      have := rwaits_ct (jv := .slice aj y.jobs.length cj) hp hx (right_waits hyr hx) rfl
      unfold Yard.wf; rw [pr_get hx]; exact this
    refine cK (xT (cS (cS (cR (sV (vA rfl) (sN (nK [1, 2, 4] rfl (nT (cd_block (cd_lq (σ := Nat) (fun i => [(1, .pointer (some ⟨b1, 0, none⟩)), (2, .pointer (some ⟨b2, 0, none⟩)), (4, .int .i64 (i : Nat))]) (fun _ => pt b2 (cl [.slice none 0 0, .bool false, .int .i64 0] 103) :: pt b1 (cl [.slice aj y.jobs.length cj, .slice ap y.procs.length cp] 27) :: S :: hr) (fun i => i ≤ y.procs.length ∧ ∀ k, k < i → ringAt y.wf y.procs.length k (y.procs.length + 1) [(k : Int)] (y.wf k) = none) (fun i => y.procs.length - i) 0 ⟨Nat.zero_le _, fun k hk => by omega⟩ ?_))))))))))
    rintro i ⟨hi, hall⟩
    refine cS (cS (cR (sV (vM rfl) (sV (vF rfl fa27_1 rfl) (sV (v_ldy rfl ld25) ?_)))))
    refine sV (v_len rfl Tryz.underlying25) (sV (v_lss rfl rfl) (sN (nK [1, 2, 4, 17] rfl (nT (cC rfl (fun hd => ?_) (fun hd => ?_))))))
    · skip
      have hlt : i < y.procs.length := by simpa using hd
      have hallb : ∀ k, k < i → ∀ q, ¬ Back y.wf y.procs.length k q := fun k hk => ring_iff_none.1 (hall k hk)
      refine cK (xT (cS (cd_block (cS (cR (sV (vM rfl) (st_buildSlice (cells := [.int .i64 i]) rfl Tryz.underlying43 inf3 rfl rfl (by kernel_rfl) (ltn rfl) fun b21 => ?_)))))))
      refine sV (vA rfl) (sN (nK [1, 2, 4, 5] rfl (nT (cS (cR (sV (v_ldn rfl ld27 rfl rds_pt) ?_))))))
      refine sV (vM rfl) (st_clr rfl rfl en92 rfl (hwc i hlt) ?_)
      refine sV (vA rfl) (sN (nK [1, 2, 4, 5, 6] rfl (nT (cS (cd_block (cd_pv (pv_of (E := 3) (sz := 1) [iC (i : Int)] rfl (by simp [iC]) rfl (show 1 ≤ maxLen by decide)) ?_))))))
      refine cd_lq (σ := Nat × Int × Value) (fun s => [(1, .pointer (some ⟨b1, 0, none⟩)), (2, .pointer (some ⟨b2, 0, none⟩)), (4, .int .i64 (i : Nat)), (5, s.2.2), (6, .int .i64 s.2.1)]) (fun s => VR s.2.2 3 1 (((List.range s.1).map (orb y.wf i)).map iC) :: pt b2 (cl [.slice none 0 0, .bool false, .int .i64 0] 103) :: pt b1 (cl [.slice aj y.jobs.length cj, .slice ap y.procs.length cp] 27) :: S :: hr) (fun s => 1 ≤ s.1 ∧ s.1 ≤ y.procs.length + 1 ∧ s.2.1 = orb y.wf i s.1 ∧ s.2.1 < y.procs.length ∧ ∀ j, 1 ≤ j → j < s.1 → (i : Int) < orb y.wf i j) (fun s => y.procs.length + 1 - s.1) (1, y.wf i, .slice (some ⟨b21, 0, none⟩) 1 1) ⟨Nat.le_refl _, by omega, (show y.wf i = orb y.wf i 1 from orb_one.symm), hwl i hlt, fun j a b => by have : j < 1 := b; omega⟩ ?_
      rintro ⟨m, x, v⟩ ⟨hm1, hmn, hx, hxl, hgt⟩
      simp only at hm1 hmn hx hxl hgt
      dsimp only
      refine cd_rowf (v := v) (by repeat (first | exact Sel.here | apply Sel.there)) (fun va vc hve _ _ => ?_)
      simp only [List.length_map, List.length_range] at hve
      subst hve
      refine cS (cS (cR (sV (vM rfl) (sV (vM rfl) (sV (v_gtr rfl rfl) (sV (vM rfl) (st_cut (k := 11) (d := 35) (v := .bool (decide ((i : Int) < x) && decide ((m : Int) ≤ y.procs.length))) (fun hcut => bool_want (b := decide ((i : Int) < x)) true (fun hg => ?_) (fun hg => ?_)) ?_)))))))
      · refine st_sk rfl rfl hg ?_
        refine st_sk rfl rfl hg ?_
        refine st_sk rfl rfl hg ?_
        refine st_sk rfl rfl hg ?_
        refine st_sk rfl rfl hg ?_
        refine st_sk rfl rfl hg ?_
        refine sV (vP (bool_ev rfl hg) rfl) ?_
        exact hcut _ (ssub_head (by first | rfl | (rw [hg]; rfl) | simp_all) (uS rfl (uS rfl (uS rfl (uS rfl (uS rfl (uS rfl (ssub_refl))))))))
      · skip
        refine st_vg rfl (bG rfl hg) (vM rfl) (st_vg rfl (bG rfl hg) (v_len rfl Tryz.underlying43) (st_vg rfl (bG rfl hg) (vF rfl fa27_1 rfl) (st_vg rfl (bG rfl hg) (v_ldy rfl ld25) ?_)))
        refine st_vg rfl (bG rfl hg) (v_len rfl Tryz.underlying25) (st_vg rfl (bG rfl hg) (v_leq rfl rfl) (sV (v_pick_true (bool_ev rfl hg) rfl) ?_))
        exact hcut _ (ssub_head (by first | rfl | (rw [hg]; rfl) | simp_all) (uS rfl (uS rfl (uS rfl (uS rfl (uS rfl (uS rfl (ssub_refl))))))))
      refine sN (nK [1, 2, 4, 5, 6, 35] rfl (nT (cC rfl (fun h2 => ?_) (fun h2 => ?_))))
      · skip
        have h2' : (i : Int) < x ∧ m ≤ y.procs.length := by
          rw [Bool.and_eq_true, decide_eq_true_eq, decide_eq_true_eq] at h2
          omega
        obtain ⟨x', rfl⟩ := Int.eq_ofNat_of_zero_le (show 0 ≤ x by omega)
        have hx' : x' < y.procs.length := by omega
        have hnext : y.wf x' = orb y.wf i (m + 1) := by rw [orb_succ (by rw [← hx]; omega), ← hx, Int.toNat_natCast]
        refine cK (xT (cd_block (cS (cR (sV (vM rfl) (sV (vM rfl) (st_buildSlice (cells := [.int .i64 x']) rfl Tryz.underlying43 inf3 rfl rfl (by kernel_rfl) (ltn rfl) fun b38 => ?_)))))))
        refine st_app [[.int .i64 x']] rfl rfl Tryz.underlying43 inf3 rfl (by decide) (by repeat (first | exact Sel.here | apply Sel.there)) (by simp) rfl (fun j u2 hu2 => at_here (rd_cl (by simpa using hu2))) (by simp [Value.oneCell']) (by simp; omega) (by simp; omega) (ltn rfl) fun v' hv' _ => ?_
        refine sV (vA rfl) (sN (nK [1, 2, 4, 5, 6] rfl (nT (cR (sV (v_ldn rfl ld27 rfl rds_pt) ?_)))))
        refine sV (vM rfl) (st_clr rfl rfl en92 rfl (hwc x' hx') ?_)
        refine sV (vA rfl) (sN (nK [1, 2, 4, 5, 6] rfl (nx_xt (xB ?_))))
        rw [show ((List.range m).map (orb y.wf i)).map iC ++ [[.int .i64 (x' : Int)]] = ((List.range (m + 1)).map (orb y.wf i)).map iC by rw [← map_orb_succ, List.map_append, ← hx]; rfl]
        refine xt_aq (m + 1, y.wf x', v') ⟨by show 1 ≤ m + 1; omega, by show m + 1 ≤ _; omega, hnext, hwl x' hx', fun j a b => ?_⟩ (by show _ - _ < _ - _; omega)
        by_cases hjm : j = m
        · subst hjm; rw [← hx]; exact h2'.1
        · exact hgt j a (by have : j < m + 1 := b; omega)
      · skip
        have h2' : ¬ ((i : Int) < x ∧ m ≤ y.procs.length) := fun h => by
          rw [decide_eq_true h.1, decide_eq_true (by omega)] at h2; cases h2
        refine cd_exit (xE (xE (xt_exit_block (xT (cS (cR (sV (vM rfl) (sV (vM rfl) (sV (v_eql rfl rfl) (sV (vM rfl) (st_cut (k := 8) (d := 50) (v := .bool ((x == (i : Int)) && decide (1 < (m : Int)))) (fun hcut => bool_want (b := (x == (i : Int))) true (fun hg => ?_) (fun hg => ?_)) ?_)))))))))))
        · refine st_sk rfl rfl hg ?_
          refine st_sk rfl rfl hg ?_
          refine st_sk rfl rfl hg ?_
          refine sV (vP (bool_ev rfl hg) rfl) ?_
          exact hcut _ (ssub_head (by first | rfl | (rw [hg]; rfl) | simp_all) (uS rfl (uS rfl (uS rfl (ssub_refl)))))
        · skip
          refine st_vg rfl (bG rfl hg) (vM rfl) (st_vg rfl (bG rfl hg) (v_len rfl Tryz.underlying43) (st_vg rfl (bG rfl hg) (v_gtr rfl rfl) (sV (v_pick_true (bool_ev rfl hg) rfl) ?_)))
          exact hcut _ (ssub_head (by first | rfl | (rw [hg]; rfl) | simp_all) (uS rfl (uS rfl (uS rfl (ssub_refl)))))
        refine sN (nK [1, 2, 4, 5, 50] rfl (nT (cC rfl (fun h3 => ?_) (fun h3 => ?_))))
        · skip
          have h3' : x = i ∧ 1 < m := by
            rw [Bool.and_eq_true, beq_iff_eq, decide_eq_true_eq] at h3
            omega
          have hrs := rring_some hwl hlt hgt (by rw [← hx]; exact h3'.1) h3'.2
          have hre : ringE y = (List.range m).map (orb y.wf i) := ringE_some hlt hrs hall
          have hl0 : decide (0 < ((ringE y).length : Int)) = true := by rw [hre]; simp; omega
          rw [hl0, hre]
          refine cS (cR (sV (vM rfl) (sV (v_build (cells := [.slice va m vc, .bool true, .int .i64 0]) rfl (fun _ => by kernel_rfl)) ?_)))
          refine st_stoW rfl rfl sz103 rfl rfl ?_
          refine sN (nK [2] rfl (nT (cT (xt_ret_block (xR (xR (xt_ret_block (xR ?_))))))))
          exact xt_retV (.cellN rfl ld103 rfl (by repeat (first | exact Sel.here | apply Sel.there)) .nil) ⟨_, rfl, .slice va m vc, rfl, rfl⟩ (by repeat (first | exact Sub.refl _ | exact Sub.nil _ | refine Sub.sel (by repeat (first | exact Sel.here | apply Sel.there)) ?_ | apply Sub.cons))
        · skip
          have h3' : ¬ (orb y.wf i m = i ∧ 1 < m) := fun h => by
            rw [beq_iff_eq.2 (by rw [hx]; exact h.1), decide_eq_true (by omega)] at h3; cases h3
          have hrn := ring_iff_none.2 (rring_none hwl hlt hallb hgt hm1 (by rw [← hx]; exact h2') h3')
          refine cK (xB (xT (cR (sV (vM rfl) (sV (v_add rfl rfl (by unfold I64 at *; omega)) (sV (vA rfl) (sN (nK [1, 2, 4] rfl (nx_xt (xt_aq (i + 1) ⟨hlt, fun k hk => ?_⟩ (by show _ - _ < _ - _; omega)))))))))))
          by_cases hki : k = i
          · subst hki; exact hrn
          · exact hall k (by omega)
    · skip
      have hin : i = y.procs.length := by have : ¬ i < y.procs.length := by simpa using hd
                                          omega
      have hre : ringE y = [] := ringE_none fun k hk => hall k (by omega)
      rw [hre]
      refine cd_exit (xE (xE (xt_exit_block (xT (cS (cR (sV (v_build (cells := [.slice none 0 0, .bool false, .int .i64 0]) rfl (fun _ => by kernel_rfl)) ?_)))))))
      refine st_stoW rfl rfl sz103 rfl rfl ?_
      refine sN (nK [2] rfl (nT (cT (xt_vw (vw_nil 3 1) ?_))))
      exact xt_retV (.cellN rfl ld103 rfl (by repeat (first | exact Sel.here | apply Sel.there)) .nil) ⟨VR (.slice none 0 0) 3 1 [], rfl, .slice none 0 0, rfl, rfl⟩ (by repeat (first | exact Sub.refl _ | exact Sub.nil _ | refine Sub.sel (by repeat (first | exact Sel.here | apply Sel.there)) ?_ | apply Sub.cons))
set_option maxHeartbeats 1000000 in
set_option maxRecDepth 100000 in
theorem rCheckRing_ct {ys : List Value} {y : Yard} {rv : Value} {l : List Int} (hy : yardR S ys y) (hf : Fit y) (hv : Row S 1 (eqC iC) rv l) (hl : l.length ≤ 1000000) : Reads Tryz.prog 47 #[.agg ys.toArray, rv] [S] (.int .i64 (checkRingE y l)) := by
  obtain ⟨jv, pv, rfl, hj, hp⟩ := id hy
  obtain ⟨aj, cj, rfl, _⟩ := id hj
  obtain ⟨ap, cp, rfl, _⟩ := id hp
  obtain ⟨ar, cr, hrv, _⟩ := id hv
  have hfp := hf.2.1
  generalize hr0 : checkRingE y l = r0
  unfold checkRingE at hr0
  refine ct_of (n := 76) Tryz.func47 rfl rfl (len rfl) fun hr w0 => ?_
  refine cS (cR (st_bx rfl rfl fun b2 => ?_))
  refine sV (vA rfl) (sN (nK [1, 2, 4] rfl (nT (cS (cR (sV (v_ldn rfl ld27 rfl rds_pt) ?_))))))
  refine st_clr rfl rfl en73 rfl (rRight_ct hy hf) ?_
  generalize he : (if y.right = true then (0 : Int) else 2) = e
  refine sV (vA rfl) (sN (nK [1, 2, 4, 5] rfl (nT (cS (cS (cR (sV (vM rfl) (sV (v_neq rfl rfl) (sN (nK [1, 2, 4, 5, 12] rfl (nT (cC rfl (fun h1 => ?_) (fun h1 => ?_)))))))))))))
  · skip
    have hyr : y.right = false := by
      cases hyr : y.right with
      | false => rfl
      | true => rw [hyr, if_pos rfl] at he; subst he; cases h1
    rw [hyr, if_neg (by decide)] at hr0 he
    have h2 : r0 = e := by rw [← hr0, ← he]
    subst h2
    refine cS (cR (sV (vM rfl) (sV (vA rfl) (sN (nK [4] rfl (nT (cT (xR ?_))))))))
    exact xt_rt rfl ⟨rfl, rfl⟩ (by (repeat (refine Sub.sel (by repeat (first | exact Sel.here | apply Sel.there)) ?_)); (repeat apply Sub.cons); first | exact Sub.refl _ | exact Sub.nil _)
  · skip
    have hyr : y.right = true := by
      cases hyr : y.right with
      | true => rfl
      | false => rw [hyr, if_neg (by decide)] at he; subst he; cases h1
    rw [if_pos hyr] at hr0
    refine cK (xT (cS (cS (cR (sV (vM rfl) (sV (v_len (congrArg some hrv) Tryz.underlying43) (sV (v_lss rfl rfl) (sV (vM rfl) (st_cut (k := 11) (d := 24) (v := .bool (decide ((l.length : Int) < 2) || decide ((y.procs.length : Int) < l.length))) (fun hcut => bool_want (b := decide ((l.length : Int) < 2)) false (fun hg => ?_) (fun hg => ?_)) ?_)))))))))
    · refine st_sk rfl rfl hg ?_
      refine st_sk rfl rfl hg ?_
      refine st_sk rfl rfl hg ?_
      refine st_sk rfl rfl hg ?_
      refine st_sk rfl rfl hg ?_
      refine st_sk rfl rfl hg ?_
      refine sV (v_pick_true (bool_ev rfl hg) rfl) ?_
      exact hcut _ (ssub_head (by first | rfl | (rw [hg]; rfl) | simp_all) (uS rfl (uS rfl (uS rfl (uS rfl (uS rfl (uS rfl (ssub_refl))))))))
    · skip
      refine st_vg rfl (bG rfl hg) (vM rfl) (st_vg rfl (bG rfl hg) (v_len (congrArg some hrv) Tryz.underlying43) (st_vg rfl (bG rfl hg) (vF rfl fa27_1 rfl) (st_vg rfl (bG rfl hg) (v_ldy rfl ld25) ?_)))
      refine st_vg rfl (bG rfl hg) (v_len rfl Tryz.underlying25) (st_vg rfl (bG rfl hg) (v_gtr rfl rfl) (sV (vP (bool_ev rfl hg) rfl) ?_))
      exact hcut _ (ssub_head (by first | rfl | (rw [hg]; rfl) | simp_all) (uS rfl (uS rfl (uS rfl (uS rfl (uS rfl (uS rfl (ssub_refl))))))))
    refine sN (nK [1, 2, 4, 24] rfl (nT (cC rfl (fun h3 => ?_) (fun h3 => ?_))))
    · skip
      rw [if_pos (by
        rw [Bool.or_eq_true, decide_eq_true_eq, decide_eq_true_eq] at h3
        omega)] at hr0
      subst hr0
      refine cS (cR (sV (vA rfl) (sN (nK [4] rfl (nT (cT (xR ?_)))))))
      exact xt_rt rfl ⟨rfl, rfl⟩ (by (repeat (refine Sub.sel (by repeat (first | exact Sel.here | apply Sel.there)) ?_)); (repeat apply Sub.cons); first | exact Sub.refl _ | exact Sub.nil _)
    · skip
      have h3' : ¬ (l.length < 2 ∨ y.procs.length < l.length) := fun h => by
        rw [Bool.or_eq_false_iff, decide_eq_false_iff_not, decide_eq_false_iff_not] at h3
        omega
      rw [if_neg h3'] at hr0
      have hgd : ∀ (j : Nat) (hj : j < l.length), l.getD j 0 = l[j] := fun j hj => by rw [List.getD_eq_getElem?_getD, List.getElem?_eq_getElem hj]; rfl
      have hbad : ∀ (j : Nat) (hj : j < l.length), ringOk y l j l[j] = false → r0 = 11 := fun j hj h => by
        rw [← hr0, if_neg]
        intro h4
        have := List.all_eq_true.1 h4 j (List.mem_range.2 hj)
        rw [hgd j hj, h] at this; cases this
      refine cK (xT (cS (cS (cR (sV (vA rfl) (sN (nK [1, 2, 4, 6] rfl (nT (cd_block (cd_lq (σ := Nat) (fun i => [(1, rv), (2, .pointer (some ⟨b2, 0, none⟩)), (6, .int .i64 (i : Nat))]) (fun _ => pt b2 (cl [.slice aj y.jobs.length cj, .slice ap y.procs.length cp] 27) :: S :: hr) (fun i => i ≤ l.length ∧ ∀ (j : Nat) (hj : j < l.length), j < i → within l[j] 0 ((y.procs.length : Int) - 1) = true ∧ (l.take j).contains l[j] = false) (fun i => l.length - i) 0 ⟨Nat.zero_le _, fun j _ hj => by omega⟩ ?_))))))))))
      rintro i ⟨hi, hall⟩
      refine cS (cS (cR (sV (vM rfl) (sV (vM rfl) (sV (v_len (congrArg some hrv) Tryz.underlying43) (sV (v_lss rfl rfl) (sN (nK [1, 2, 6, 28] rfl (nT (cC rfl (fun hd => ?_) (fun hd => ?_)))))))))))
      · skip
        have hlt : i < l.length := by simpa using hd
        obtain ⟨b, off, cp2, u, hv2, hrd, hX⟩ := hv.at1 (List.getElem?_eq_getElem hlt)
        simp only [eqC, iC, List.cons.injEq, and_true] at hX
        subst hX
        have hbad1 := hbad i hlt
        have hgood : within l[i] 0 ((y.procs.length : Int) - 1) = true → (l.take i).contains l[i] = false → ∀ (j : Nat) (hj : j < l.length), j < i + 1 → within l[j] 0 ((y.procs.length : Int) - 1) = true ∧ (l.take j).contains l[j] = false := fun h1 h2 j hj' hji => by
          by_cases hjk : j = i
          · subst hjk; exact ⟨h1, h2⟩
          · exact hall j hj' (by omega)
        have hcon : ∀ (k : Nat) (hk : k < l.length), k < i → l[k] = l[i] → (l.take i).contains l[i] = true := fun k hk hki he => by
          rw [List.contains_iff_mem, List.mem_take_iff_getElem]
          exact ⟨k, by omega, he⟩
        have hncon : (∀ (k : Nat) (hk : k < l.length), k < i → l[k] ≠ l[i]) → (l.take i).contains l[i] = false := fun h => by
          cases hc : (l.take i).contains l[i] with
          | false => rfl
          | true =>
            rw [List.contains_iff_mem, List.mem_take_iff_getElem] at hc
            obtain ⟨k, hk, he⟩ := hc
            exact absurd he (h k (by omega) (by omega))
        unfold ringOk at hbad1
        generalize hxe : l[i] = x at *
        refine cK (xT (cS (cd_block (cS (cS (cd_drawh (ork [(0, 2), (1, 2), (2, 2), (3, 1), (4, 2), (5, 1), (6, 2), (7, 2), (8, 1), (9, 2)] .nil) (fun _ => true) mixed (by kernel_rfl) ?_))))))
        refine dV rfl (vM rfl) (dV rfl (vM rfl) (dV rfl (v_indexAddr (k := i) (congrArg some hv2) rfl sl43 rfl hlt rfl) (dr_v rfl (v_ldy rfl ld3) ?_)))
        refine dV rfl (vF rfl fa27_1 rfl) (dr_v rfl (v_ldy rfl ld25) ?_)
        refine dV rfl (v_len rfl Tryz.underlying25) (dV rfl (v_sub rfl rfl (by unfold I64 at *; omega)) (dr_clr rfl rfl rfl en89 rfl (in_ct x 0 ((y.procs.length : Int) - 1)) ?_))
        refine dV rfl (v_not rfl) (dr_nil (nK [1, 2, 6, 40] rfl (nT (cC rfl (fun h4 => ?_) (fun h4 => ?_)))))
        · skip
          obtain rfl := hbad1 (by rw [show within x 0 ((y.procs.length : Int) - 1) = false by simpa using h4]; rfl)
          refine cS (cR (sV (vA rfl) (sN (nK [4] rfl (nT (cT (xR (xt_ret_block (xR (xR (xt_ret_block (xR ?_))))))))))))
          exact xt_rt rfl ⟨rfl, rfl⟩ (by (repeat (refine Sub.sel (by repeat (first | exact Sel.here | apply Sel.there)) ?_)); (repeat apply Sub.cons); first | exact Sub.refl _ | exact Sub.nil _)
        · skip
          have h4' : within x 0 ((y.procs.length : Int) - 1) = true := by simpa using h4
          refine cK (xT (cS (cR (sV (vA rfl) (sN (nK [1, 2, 6, 7] rfl (nT (cd_block (cd_lq (σ := Nat) (fun k => [(1, rv), (2, .pointer (some ⟨b2, 0, none⟩)), (6, .int .i64 (i : Nat)), (7, .int .i64 (k : Nat))]) (fun _ => pt b2 (cl [.slice aj y.jobs.length cj, .slice ap y.procs.length cp] 27) :: S :: hr) (fun k => k ≤ i ∧ ∀ (j : Nat) (hj : j < l.length), j < k → l[j] ≠ x) (fun k => i - k) 0 ⟨Nat.zero_le _, fun j _ hj => by omega⟩ ?_)))))))))
          rintro k ⟨hk, hallk⟩
          refine cS (cS (cR (sV (vM rfl) (sV (vM rfl) (sV (v_lss rfl rfl) (sN (nK [1, 2, 6, 7, 43] rfl (nT (cC rfl (fun hd2 => ?_) (fun hd2 => ?_))))))))))
          · skip
            have hki : k < i := by simpa using hd2
            have hkl : k < l.length := by omega
            obtain ⟨b', off', cp2', u', hv2', hrd', hX'⟩ := hv.at1 (List.getElem?_eq_getElem hkl)
            simp only [eqC, iC, List.cons.injEq, and_true] at hX'
            subst hX'
            refine cK (xT (cS (cd_block (cS (cd_drawh (ork [(0, 2), (1, 2), (2, 2), (3, 1), (4, 2), (5, 2), (6, 2), (7, 1), (8, 2)] .nil) (fun _ => true) mixed (by kernel_rfl) ?_)))))
            refine dV rfl (vM rfl) (dV rfl (vM rfl) (dV rfl (v_indexAddr (k := k) (congrArg some hv2') rfl sl43 rfl hkl rfl) (dr_v rfl (v_ldy rfl ld3) ?_)))
            refine dV rfl (vM rfl) (dV rfl (vM rfl) (dV rfl (v_indexAddr (k := i) (congrArg some hv2) rfl sl43 rfl hlt rfl) (dr_v rfl (v_ldy rfl ld3) ?_)))
            refine dV rfl (v_eql rfl rfl) (dr_nil (nK [1, 2, 6, 7, 54] rfl (nT (cC rfl (fun h5 => ?_) (fun h5 => ?_)))))
            · skip
              obtain rfl := hbad1 (by rw [hcon k hkl hki (by simpa using h5), h4']; rfl)
              refine cS (cR (sV (vA rfl) (sN (nK [4] rfl (nT (cT (xt_ret_block (xR (xR (xt_ret_block (xt_ret_block (xR (xR (xt_ret_block (xR ?_)))))))))))))))
              exact xt_rt rfl ⟨rfl, rfl⟩ (by (repeat (refine Sub.sel (by repeat (first | exact Sel.here | apply Sel.there)) ?_)); (repeat apply Sub.cons); first | exact Sub.refl _ | exact Sub.nil _)
            · skip
              refine cK (xB (xT (cR (sV (vM rfl) (sV (v_add rfl rfl (by unfold I64 at *; omega)) (sV (vA rfl) (sN (nK [1, 2, 6, 7] rfl (nx_xt (xt_aq (k + 1) ⟨hki, fun j hj' hjk => ?_⟩ (by show _ - _ < _ - _; omega)))))))))))
              by_cases hjk' : j = k
              · subst hjk'; simpa using h5
              · exact hallk j hj' (by omega)
          · skip
            have hkl : k = i := by have : ¬ k < i := by simpa using hd2
                                   omega
            refine cd_exit (xE (xE (xt_exit_block (xB (xT (cR (sV (vM rfl) (sV (v_add rfl rfl (by unfold I64 at *; omega)) (sV (vA rfl) (sN (nK [1, 2, 6] rfl (nx_xt ?_))))))))))))
            refine xt_aq (i + 1) ⟨hlt, hgood h4' (hncon fun k hk hki => hallk k hk (by omega))⟩ (by show _ - _ < _ - _; omega)
      · skip
        have hil : i = l.length := by have : ¬ i < l.length := by simpa using hd
                                      omega
        refine cd_exit (xE (xE (xt_exit_block (xT (cS (cS (cR (sV (vA rfl) (sN (nK [1, 2, 8] rfl (nT (cd_block (cd_lq (σ := Nat) (fun i => [(1, rv), (2, .pointer (some ⟨b2, 0, none⟩)), (8, .int .i64 (i : Nat))]) (fun _ => pt b2 (cl [.slice aj y.jobs.length cj, .slice ap y.procs.length cp] 27) :: S :: hr) (fun i => i ≤ l.length ∧ ∀ (j : Nat) (hj : j < l.length), j < i → ringOk y l j l[j] = true) (fun i => l.length - i) 0 ⟨Nat.zero_le _, fun j _ hj => by omega⟩ ?_)))))))))))))
        rintro i2 ⟨hi2, hall2⟩
        refine cS (cS (cR (sV (vM rfl) (sV (vM rfl) (sV (v_len (congrArg some hrv) Tryz.underlying43) (sV (v_lss rfl rfl) (sN (nK [1, 2, 8, 58] rfl (nT (cC rfl (fun hd2 => ?_) (fun hd2 => ?_)))))))))))
        · skip
          have hlt : i2 < l.length := by simpa using hd2
          obtain ⟨hw1, hc1⟩ := hall i2 hlt (by omega)
          have hnx : (i2 + 1) % l.length < l.length := Nat.mod_lt _ (by omega)
          obtain ⟨b, off, cp2, u, hv2, hrd, hX⟩ := hv.at1 (List.getElem?_eq_getElem hlt)
          obtain ⟨b', off', cp2', u', hv2', hrd', hX'⟩ := hv.at1 (List.getElem?_eq_getElem hnx)
          simp only [eqC, iC, List.cons.injEq, and_true] at hX hX'
          subst hX hX'
          have hok : ringOk y l i2 l[i2] = (y.wf l[i2].toNat == l[(i2 + 1) % l.length]) := by
            unfold ringOk
            rw [hw1, hc1, hgd _ hnx]; rfl
          have hx0 : 0 ≤ l[i2] ∧ l[i2].toNat < y.procs.length := by unfold within at hw1; rw [Bool.and_eq_true, decide_eq_true_eq, decide_eq_true_eq] at hw1; omega
          have hwx : Reads Tryz.prog 92 #[.agg #[.slice aj y.jobs.length cj, .slice ap y.procs.length cp], .int .i64 l[i2]] [S] (.int .i64 (y.wf l[i2].toNat)) := by
            have := rwaits_ct (jv := .slice aj y.jobs.length cj) hp hx0.2 (right_waits hyr hx0.2) rfl
            rw [Int.toNat_of_nonneg hx0.1] at this
            unfold Yard.wf; rw [pr_get hx0.2]; exact this
          refine cK (xT (cS (cd_block (cS (cd_drawh (ork [(0, 1), (1, 2), (2, 2), (3, 2), (4, 1), (5, 1), (6, 2), (7, 2), (8, 2), (9, 2), (10, 2), (11, 2), (12, 2), (13, 1), (14, 2)] .nil) (fun _ => true) mixed (by kernel_rfl) ?_)))))
          refine dr_v rfl (v_ldn rfl ld27 rfl rds_pt) ?_
          refine dV rfl (vM rfl) (dV rfl (vM rfl) (dV rfl (v_indexAddr (k := i2) (congrArg some hv2) rfl sl43 rfl hlt rfl) (dr_v rfl (v_ldy rfl ld3) ?_)))
          refine dr_clr rfl rfl rfl en92 rfl (hwx) ?_
          refine dV rfl (vM rfl) (dV rfl (vM rfl) (dV rfl (v_add rfl rfl (by unfold I64 at *; omega)) (dV rfl (vM rfl) (dV rfl (v_len (congrArg some hrv) Tryz.underlying43) (dV rfl (v_remp rfl rfl (by omega) (by omega) (by unfold I64; omega)) ?_)))))
          refine dV rfl (v_indexAddr (k := (i2 + 1) % l.length) (congrArg some hv2') rfl sl43 (by simp [Int.natCast_emod]) hnx rfl) ?_
          refine dr_v rfl (v_ldy rfl ld3) ?_
          refine dV rfl (v_neq rfl rfl) (dr_nil (nK [1, 2, 8, 75] rfl (nT (cC rfl (fun h5 => ?_) (fun h5 => ?_)))))
          · skip
            obtain rfl := hbad i2 hlt (by rw [hok]; simpa using h5)
            refine cS (cR (sV (vA rfl) (sN (nK [4] rfl (nT (cT (xt_ret_block (xR (xR (xt_ret_block (xR ?_)))))))))))
            exact xt_rt rfl ⟨rfl, rfl⟩ (by (repeat (refine Sub.sel (by repeat (first | exact Sel.here | apply Sel.there)) ?_)); (repeat apply Sub.cons); first | exact Sub.refl _ | exact Sub.nil _)
          · skip
            refine cK (xB (xT (cR (sV (vM rfl) (sV (v_add rfl rfl (by unfold I64 at *; omega)) (sV (vA rfl) (sN (nK [1, 2, 8] rfl (nx_xt (xt_aq (i2 + 1) ⟨hlt, fun j hj' hji => ?_⟩ (by show _ - _ < _ - _; omega)))))))))))
            by_cases hjk : j = i2
            · subst hjk; rw [hok]; simpa using h5
            · exact hall2 j hj' (by omega)
        · skip
          have hil2 : i2 = l.length := by have : ¬ i2 < l.length := by simpa using hd2
                                          omega
          have h6 : r0 = 0 := by
            rw [← hr0, if_pos]
            rw [List.all_eq_true]
            intro j hj'
            have hjl := List.mem_range.1 hj'
            rw [hgd j hjl]; exact hall2 j hjl (by omega)
          subst h6
          refine cd_exit (xE (xE (xt_exit_block (xT (cS (cR (sV (vA rfl) (sN (nK [4] rfl (nT (cT ?_)))))))))))
          exact xt_rt rfl ⟨rfl, rfl⟩ (by (repeat (refine Sub.sel (by repeat (first | exact Sel.here | apply Sel.there)) ?_)); (repeat apply Sub.cons); first | exact Sub.refl _ | exact Sub.nil _)
end
end Go.Wt
namespace Go.Wt
open Go Go.Ck Go.Proofs Go.Proofs.YtboepbencndobaaGreat Fx
attribute [local irreducible] Go.Ck.Sub St Cd Xt Nx DrL LsW
theorem ringE_len {y : Yard} : (ringYE y).1.length ≤ y.procs.length := by
  unfold ringYE
  split
  · rcases ringE_cases y with ⟨h, _⟩ | ⟨i, k, _, ⟨_, hk, _⟩, h⟩
    · simp [h]
    · simp [h]; exact hk
  · simp
section
variable {S : Res}
set_option maxHeartbeats 2000000 in
set_option maxRecDepth 100000 in
theorem waitRings_ct {ys zs : List Value} {y z : Yard} {rv : Value} {l : List Int} (hy : yardR S ys y) (hz : yardR S zs z) (hv : Row S 1 (eqC iC) rv l) : Ct Tryz.prog 11 #[.agg ys.toArray, .agg zs.toArray, rv] [S] fun u h' => u = .bool true ∧ h' = [S] := by
  obtain ⟨jv, pv, rfl, hj, hp⟩ := id hy
  obtain ⟨aj, cj, rfl, _⟩ := id hj
  obtain ⟨ap, cp, rfl, _⟩ := id hp
  obtain ⟨jv', pv', rfl, hj', hp'⟩ := id hz
  obtain ⟨aj', cj', rfl, _⟩ := id hj'
  obtain ⟨ap', cp', rfl, _⟩ := id hp'
  obtain ⟨ar, cr, hrv, _⟩ := id hv
  have hrl := hv.lenle
  unfold maxLen at hrl
  refine ct_of (n := 87) Tryz.func11 rfl rfl (len rfl) fun hr w0 => ?_
  refine cS (cR (st_bx rfl rfl fun b3 => ?_))
  refine st_bx rfl rfl fun b4 => ?_
  refine sV (vA rfl) (sN (nK [2, 3, 4, 6] rfl (nT (cS (cS (cR (sV (v_ldn rfl ld27 rfl rds_pt) ?_)))))))
  refine st_clr rfl rfl en19 rfl (small_ct hy) ?_
  refine sV (v_not rfl) (sV (vM rfl) (st_cut (k := 8) (d := 22) (v := .bool (!smallE y || !smallE z)) (fun hcut => bool_want (b := !smallE y) false (fun hg => ?_) (fun hg => ?_)) ?_))
  · refine st_sk rfl rfl hg ?_
    refine st_sk rfl rfl hg ?_
    refine st_sk rfl rfl hg ?_
    refine sV (v_pick_true (bool_ev rfl hg) rfl) ?_
    exact hcut _ (ssub_head (by first | rfl | (rw [hg]; rfl) | simp_all) (uS rfl (uS rfl (uS rfl (ssub_refl)))))
  · skip
    refine st_vg rfl (bG rfl hg) (v_ldn rfl ld27 rfl rds_pt) ?_
    refine st_clrg rfl (bG rfl hg) rfl rfl en19 rfl (small_ct hz) ?_
    refine st_vg rfl (bG rfl hg) (v_not rfl) (sV (vP (bool_ev rfl hg) rfl) ?_)
    exact hcut _ (ssub_head (by first | rfl | (rw [hg]; rfl) | simp_all) (uS rfl (uS rfl (uS rfl (ssub_refl)))))
  refine sV (vM rfl) (st_cut (k := 13) (d := 27) (v := .bool (!smallE y || !smallE z || decide (20 < (l.length : Int)))) (fun hcut => bool_want (b := (!smallE y || !smallE z)) false (fun hg => ?_) (fun hg => ?_)) ?_)
  · refine st_sk rfl rfl hg ?_
    refine st_sk rfl rfl hg ?_
    refine st_sk rfl rfl hg ?_
    refine sV (v_pick_true (bool_ev rfl hg) rfl) ?_
    exact hcut _ (ssub_head (by first | rfl | (rw [hg]; rfl) | simp_all) (uS rfl (uS rfl (uS rfl (ssub_refl)))))
  · skip
    refine st_vg rfl (bG rfl hg) (vM rfl) (st_vg rfl (bG rfl hg) (v_len (congrArg some hrv) Tryz.underlying43) (st_vg rfl (bG rfl hg) (v_gtr rfl rfl) (sV (vP (bool_ev rfl hg) rfl) ?_)))
    exact hcut _ (ssub_head (by first | rfl | (rw [hg]; rfl) | simp_all) (uS rfl (uS rfl (uS rfl (ssub_refl)))))
  refine sN (nK [2, 3, 4, 6, 27] rfl (nT (cC rfl (fun h0 => ?_) (fun h0 => ?_))))
  · skip
    refine cS (cR (st_cl rfl rfl en13 rfl (sanity_ct) ?_))
    rintro u h' ⟨rfl, rfl⟩
    refine sV (vA rfl) (sN (nK [6] rfl (nT (cT (xR (xt_law rfl ?_))))))
    refine Sub.sel (by repeat (first | exact Sel.here | apply Sel.there)) ?_
    repeat apply Sub.cons
    exact Sub.refl _
  · skip
    rw [Bool.or_eq_false_iff, Bool.or_eq_false_iff, Bool.not_eq_false', Bool.not_eq_false', decide_eq_false_iff_not] at h0
    obtain ⟨⟨hsy, hsz⟩, hl20⟩ := h0
    have hfy := small_fit hsy
    have hfz := small_fit hsz
    refine cK (xT (cS (cR (sV (v_ldn rfl ld27 rfl rds_pt) ?_))))
    refine st_cl rfl rfl en32 rfl (Ring_ct hy hfy) ?_
    rintro u h' ⟨T1, rfl, v1, rfl, hT1⟩
    subst hT1
    refine sV (vM rfl) (sV (v_extract rfl rfl) (sV (v_extract rfl rfl) (sV (v_extract rfl rfl) (sV (vA rfl) (sV (vA rfl) (sV (vA rfl) (sN (nK [2, 3, 4, 6, 7, 8, 9] rfl (nT (cS (cR (sV (v_ldn rfl ld27 rfl rds_pt) ?_))))))))))))
    refine st_cl rfl rfl en44 rfl (rRing_ct hy hfy) ?_
    rintro u h' ⟨T2, rfl, v2, rfl, hT2⟩
    subst hT2
    have hrn : (ringYE y).1.length ≤ 1000000 := by have := ringE_len (y := y); have := hfy.2.1; omega
    generalize ringYE y = re at *
    obtain ⟨rl, rb, re2⟩ := re
    simp only at hrn ⊢
    refine st_rowf (v := v2) (by repeat (first | exact Sel.here | apply Sel.there)) (fun va vc hve _ _ => ?_)
    subst hve
    refine st_alc al103 fun b10 => ?_
    refine st_stoW rfl rfl sz103 rfl rfl ?_
    refine sN (nK [2, 3, 4, 6, 7, 8, 9, 10] rfl (nT (cS (cR (sV (v_ldn rfl ld27 rfl rds_pt) ?_)))))
    refine sV (v_ldn rfl ld27 rfl rds_pt) ?_
    refine st_clr rfl rfl en45 rfl (Same_ct hy hz hfy hfz) ?_
    refine sV (vM rfl) (sV (v_extract rfl rfl) (sV (v_extract rfl rfl) (sV (vA rfl) (sV (vA rfl) (sN (nK [2, 3, 4, 6, 7, 8, 9, 10, 11, 12] rfl (nT (cS (cR (sV (v_ldn rfl ld27 rfl rds_pt) ?_))))))))))
    refine sV (v_ldn rfl ld27 rfl rds_pt) ?_
    refine st_clr rfl rfl en46 rfl (rSame_ct hy hz hfy hfz) ?_
    generalize sameE y z = se
    obtain ⟨sb, se2⟩ := se
    simp only
    refine st_alc al52 fun b13 => ?_
    refine st_stoW rfl rfl sz52 rfl rfl ?_
    refine sN (nK [2, 3, 6, 7, 8, 9, 10, 11, 12, 13] rfl (nT (cS (cR (sV (vM rfl) (sV (vF rfl fa103_0 rfl) (sV (v_ldy rfl ld43) ?_)))))))
    refine st_ok (r := VR v1 3 1 (rl.map iC)) (by repeat (first | exact Sel.here | apply Sel.there)) fun hk1 => ?_
    refine st_ok (r := VR (.slice va (rl.map iC).length vc) 3 1 (rl.map iC)) (by repeat (first | exact Sel.here | apply Sel.there)) fun hk2 => ?_
    refine st_clr rfl rfl en28 rfl (reads_star (same28_ct (S := Res.star [VR v1 3 1 (rl.map iC), VR (.slice va (rl.map iC).length vc) 3 1 (rl.map iC)]) (l := rl) (l' := rl) (vr_rowS (.head _) hk1) (vr_rowS (.tail _ (.head _)) hk2) hrn)) ?_
    rw [show (rl == rl) = true from beq_self_eq_true rl]
    refine sV (vA rfl) (sN (nK [2, 3, 6, 8, 9, 10, 11, 12, 13, 14] rfl (nT (cS (cd_drawh (ork [(0, 0), (1, 2), (2, 2), (3, 2), (4, 2), (5, 2), (6, 2), (7, 1), (8, 1), (9, 2), (10, 2), (11, 2), (12, 2), (13, 1), (14, 2), (15, 2), (16, 2), (17, 2), (18, 2), (19, 1), (20, 1), (21, 2), (22, 2), (23, 2), (24, 2), (25, 1), (26, 2), (27, 2), (28, 2), (29, 1), (30, 2), (31, 1), (32, 1), (33, 2), (34, 1), (35, 2), (36, 2), (37, 2)] .nil) (fun i => !(Nat.beq i 0)) mixed (by kernel_rfl) ?_)))))
    refine dr_eff rfl (st_cl rfl rfl en13 rfl (sanity_ct) ?_)
    rintro u h' ⟨rfl, rfl⟩
    simp only [List.nil_append]
    refine dr_nx ?_
    refine dV rfl (vM rfl) (dp_vg rfl rfl rfl (vM rfl) (dV rfl (v_pick_true rfl rfl) (dV rfl (vM rfl) (dp_vg rfl rfl rfl (vM rfl) (dp_vg rfl rfl rfl (vF rfl fa103_1 rfl) (dr_vg rfl rfl rfl (v_ldy rfl ld4) ?_))))))
    refine dr_vg rfl rfl rfl (v_is (show Value.bool (rb == rb) = .bool true by simp) (v_eql_bool Tryz.underlying4 rfl rfl)) ?_
    refine dV rfl (v_pick_true rfl rfl) (dV rfl (vM rfl) (dp_vg rfl rfl rfl (vM rfl) (dp_vg rfl rfl rfl (vF rfl fa103_2 rfl) (dr_vg rfl rfl rfl (v_ldy rfl ld28) ?_))))
    refine dp_vg rfl rfl rfl (v_is (show Value.bool (re2 == re2) = .bool true by simp) (v_eql rfl rfl)) ?_
    refine dV rfl (v_pick_true rfl rfl) (dV rfl (vM rfl) (dp_vg rfl rfl rfl (vM rfl) (dp_vg rfl rfl rfl (vF rfl fa52_0 rfl) (dr_vg rfl rfl rfl (v_ldy rfl ld4) ?_))))
    refine dr_vg rfl rfl rfl (v_is (show Value.bool (sb == sb) = .bool true by simp) (v_eql_bool Tryz.underlying4 rfl rfl)) ?_
    refine dV rfl (v_pick_true rfl rfl) (dV rfl (vM rfl) (dp_vg rfl rfl rfl (vM rfl) (dp_vg rfl rfl rfl (vF rfl fa52_1 rfl) (dr_vg rfl rfl rfl (v_ldy rfl ld28) ?_))))
    refine dp_vg rfl rfl rfl (v_is (show Value.bool (se2 == se2) = .bool true by simp) (v_eql rfl rfl)) ?_
    refine dV rfl (v_pick_true rfl rfl) (dV rfl (vM rfl) (dr_vg rfl rfl rfl (v_ldn rfl ld27 rfl rds_pt) ?_))
    refine dp_vg rfl rfl rfl (vM rfl) (dr_clrg rfl rfl rfl rfl rfl en36 rfl (CheckRing_ct hy hfy hv (by omega)) ?_)
    refine dr_vg rfl rfl rfl (v_ldn rfl ld27 rfl rds_pt) ?_
    refine dp_vg rfl rfl rfl (vM rfl) (dr_clrg rfl rfl rfl rfl rfl en47 rfl (rCheckRing_ct hy hfy hv (by omega)) ?_)
    refine dp_vg rfl rfl rfl (v_is (show Value.bool (checkRingE y l == checkRingE y l) = .bool true by simp) (v_eql rfl rfl)) ?_
    refine dV rfl (v_pick_true rfl rfl) (dV rfl (vA rfl) (dr_nil (nK [6] rfl (nT (cT (xt_law rfl ?_))))))
    refine Sub.sel (by repeat (first | exact Sel.here | apply Sel.there)) ?_
    repeat apply Sub.cons
    exact Sub.refl _
end
end Go.Wt
namespace Go.Proofs.YtboepbencndobaaGreat
open Go Go.RowKit Go.ChangeShapes Go.WideShapes Go.Ck Go.Wt
set_option maxRecDepth 100000 in
theorem waitRings_lifted (os : Os) (started : os.Started) (H : Type) (enc : TypeId × Value → H) :
    ReturnsInHanded {} Tryz.checked os 11 .any (Rows.waitRingsSpec.pre6 enc Tryz.prog Tryz.f11 Rows.waitRingsRow.domain false) (Rows.waitRingsSpec.post enc Tryz.prog Tryz.f11 false true false false) := by
  refine returnsInHanded_of_change (C := Tryz.checked) (show ownKnob Tryz.prog.godebug = none by kernel_rfl) started (by kernel_rfl) Tryz.func11
    (ChangeSpec.witness6 (enc := enc) (C := Tryz.checked) false ⟨#[], #[.agg #[.slice none 0 0, .slice none 0 0], .agg #[.slice none 0 0, .slice none 0 0], .slice none 0 0], []⟩ 8 (by kernel_rfl) (by kernel_rfl) (by kernel_rfl) (by kernel_rfl)) ?_
  intro W base args ds gs before hval0 hW hcnd _
  have hval : ∀ (j : Nat) t v, Tryz.f11.params[j]? = some t → args[j]? = some v → Value.okWide Tryz.prog W .any base t v := hval0
  have hW' := hW
  obtain ⟨p, q, hA0, hV, rfl, hfz, hnd⟩ := hW
  have hA : DataW.TrodAll enc Tryz.prog W 0 (fun _ => true) true Tryz.f11.params.toList args.toList ds p := hA0
  rw [Tryz.params11] at hA hval
  obtain ⟨v0, vs0, d0, ds0, p0, q0, hargs, rfl, rfl, h0, r0⟩ := trodAll_cons hA
  obtain ⟨v1, vs1, d1, ds1, p1, q1, rfl, rfl, rfl, h1, r1⟩ := trodAll_cons r0
  obtain ⟨v2, vs2, d2, ds2, p2, q2, rfl, rfl, rfl, h2, r2⟩ := trodAll_cons r1
  obtain ⟨rfl, rfl, rfl⟩ := trodAll_nil r2
  obtain rfl : args = #[v0, v1, v2] := by cases args; simp_all
  obtain ⟨rfl, rfl⟩ := trodVars_none hV
  obtain ⟨y0, e0⟩ := arg_rep (ty := yardTy) (by kernel_rfl) h0
  have g0 := okWide_agg (Tryz.underlying27) (hval 0 27 v0 rfl rfl)
  obtain ⟨y1, e1⟩ := arg_rep (ty := yardTy) (by kernel_rfl) h1
  have g1 := okWide_agg (Tryz.underlying27) (hval 1 27 v1 rfl rfl)
  obtain ⟨y2, e2⟩ := arg_one (ty := intsTy) (by kernel_rfl) (by kernel_rfl) (hval 2 43 v2 rfl rfl) h2
  have s0 := yard_of e0
  have c0 : v0 = .agg (v0.cells.toList).toArray := by rw [Array.toArray_toList]; exact g0
  generalize v0.cells.toList = us0 at s0 c0
  subst c0
  have s1 := yard_of e1
  have c1 : v1 = .agg (v1.cells.toList).toArray := by rw [Array.toArray_toList]; exact g1
  generalize v1.cells.toList = us1 at s1 c1
  subst c1
  obtain ⟨s2, a2⟩ := ints_of e2
  refine (ct_calls (waitRings_ct s0 s1 s2) fun v h' h => ⟨h.1, by rw [h.2]; exact .refl _⟩).mono fun e W' ⟨he, hk⟩ => ⟨_, he, ?_⟩
  exact law_post (tys := [yardTy, yardTy, intsTy]) hW' rfl (by kernel_rfl) Tryz.underlying4 (by rw [Tryz.params11]; kernel_rfl) rfl hk
theorem waitRings_holds : Rows.WaitRingsSaid :=
  OpenClaim.holds_of_wide 11 Tryz.f11 rfl rfl rfl rfl rfl rfl rfl ⟨rfl, rfl, rfl, rfl, rfl⟩ rfl rfl rfl rfl rfl (by kernel_rfl) Tryz.func11 (by kernel_rfl)
    (of_decide_eq_true (by kernel_rfl)) (by unfold Func.isWrapper; first | (rw [if_pos (by decide +kernel)]; kernel_rfl) | (rw [if_neg (by decide +kernel)]; exact ⟨rfl, rfl⟩))
    (fun os started H enc _ => waitRings_lifted os started H enc)
end Go.Proofs.YtboepbencndobaaGreat
