/-
  Package wait: Run. Conditions: what is read, that the yard has come about by steps.
  Package wait: goes. Conditions: what is read, that the yard has come about by steps.
  Package wait: counted, Finish, puts. Conditions: what is read, that the yard has come about by steps.
  Package wait: puts; Replay's choice. Conditions: what is read, that the processor is right.
  Package wait: Replay. Conditions: what is read.
  Package wait: Replay. Conditions: what is read.
  The reference: SameInts, SameKeys, SameDid, sameLines, sameProc, SameYards. Conditions: what is read, that lists are not too long.
-/
import Derived.Test.YtboepbencndobaaGreatM10
set_option linter.unusedVariables false
set_option linter.unusedSimpArgs false
namespace Go.Wt
open Go Go.Ck Go.Proofs Go.Proofs.YtboepbencndobaaGreat Fx
attribute [local irreducible] St Cd Xt Nx DrL LsW
theorem v_negi {P : Program} {e : Env} {h : SH} {ty : TypeId} {t : TypeId} {x : Operand} {a : Int} (hx : e.ev? x = some (.int .i64 a)) (hr : I64 (-a)) : Vop P e h (.unOp .neg t x) ty (.int .i64 (-a)) :=
  ⟨by simp, by simp, fun ρ w d pos after g hρ _ => by simp [execOp, hρ x _ hx, Op.unary, Op.intArith, I64.wrap hr]⟩
theorem copied_rd {S : Res} {ys : List Value} {y : Yard} (hy : yardR S ys y) (hf : Fit y) : Ct Tryz.prog 75 #[.agg ys.toArray] [S] fun u h' => ∃ jv pv T, u = .agg #[jv, pv] ∧ h' = [T, S] ∧ yardR T [jv, pv] y := fun hr w hh =>
  (copied_ct hy hf hr w hh).mono fun e w' ⟨v, h', he, ⟨jv, pv, H, hs, hv, hh'⟩, hH, hS⟩ => by
    subst hh' he
    have h1 : Holds w' (Res.star (JO jv hs y.jobs ++ YO pv y.procs.length H y.pr) :: ([S] ++ hr)) := holds_star1.2 (by simpa using hH)
    have h2 := own_yard (jv := jv) (pv := pv) (L := JO jv hs y.jobs ++ YO pv y.procs.length H y.pr) ⟨_, h1.1⟩ (fun r h => h) (fun g hg => (HoldsF.append.1 hg).1) (fun g hg => (HoldsF.append.1 hg).2.1)
    rw [own_range rfl] at h2
    exact ⟨v, [_, S], rfl, ⟨jv, pv, _, hv, rfl, h2⟩, h1, hS⟩
theorem yardR_cells {S : Res} {ys : List Value} {y : Yard} (hy : yardR S ys y) : ∃ jv pv, ys = [jv, pv] ∧ jv.oneCell' = true ∧ pv.oneCell' = true := by
  obtain ⟨jv, pv, rfl, hj, hp⟩ := hy
  exact ⟨jv, pv, rfl, hj.one, hp.one⟩
theorem rdy_get {y : Yard} {k : Nat} (h : k < (rdy y.procs y.procs.length).length) : ∃ i : Nat, (rdy y.procs y.procs.length)[k]? = some (i : Int) ∧ y.ready.getD k 0 = i ∧ i < y.procs.length ∧ (y.pr i).goes = true := by
  rw [← ready_rdy] at h ⊢
  have hk : k < y.ready.length := by simpa using h
  refine ⟨y.ready[k], by simp [List.getElem?_map, List.getElem?_eq_getElem hk], by rw [List.getD_eq_getElem?_getD, List.getElem?_eq_getElem hk]; rfl, ?_⟩
  have h2 : y.ready[k] ∈ (List.range y.procs.length).filter fun i => (y.pr i).goes := List.getElem_mem hk
  rw [List.mem_filter] at h2
  exact ⟨List.mem_range.1 h2.1, h2.2⟩
theorem pick_nn (n : Int) : 0 ≤ pick n := by unfold pick; split <;> omega
theorem Live.stepE {y : Yard} {M : Nat} (H : Live y M) {i : Nat} (hi : i < y.procs.length) (hg : (y.pr i).goes = true) (h0 : (y.stepE i).2 = 0) : Live (y.stepE i).1 (M + 1) := by
  have he : y.stepE i = if (y.step i).full = true then (Yard.nil, 3) else (y.step i, 0) := rfl
  cases hf : (y.step i).full with
  | true => rw [he, if_pos hf] at h0; cases h0
  | false =>
    rw [he, if_neg (by simp [hf])]
    exact H.step hi hg hf
set_option maxRecDepth 100000 in
theorem stepL_ct {S : Res} {ys : List Value} {y : Yard} {M i : Nat} (hy : yardR S ys y) (H : Live y M) (hM : M ≤ 900000) (hi : i < y.procs.length) (hg : (y.pr i).goes = true) :
    CtN Tryz.prog 76 #[.agg ys.toArray, .int .i64 i] [S] fun u T => ∃ ys', u = .tuple #[.agg ys'.toArray, .int .i64 (y.stepE i).2] ∧ yardR T ys' (y.stepE i).1 := by
  have := H.len_pos
  exact step_ct hy (H.fit (by omega)) (H.bd (B := 900000) hM (by omega)) (by omega) hi (fun h => right_job H.right rfl hi h) (goes_lines hg)
def yRunE (y : Yard) (picks : List Int) : YE := if y.right = true then y.run picks else (Yard.nil, 2)
theorem run_cons (y : Yard) (n : Int) (t : List Int) : y.run (n :: t) = if y.ready = [] then (y, 0) else if (y.stepE (y.ready.getD (pick n % y.ready.length).toNat 0)).2 = 0 then (y.stepE (y.ready.getD (pick n % y.ready.length).toNat 0)).1.run t else y.stepE (y.ready.getD (pick n % y.ready.length).toNat 0) := rfl
theorem stepE_err {y : Yard} {i : Nat} (h : (y.stepE i).2 ≠ 0) : (y.stepE i).1 = Yard.nil := by
  unfold Yard.stepE at h ⊢
  split
  · rfl
  · rename_i hf; rw [if_neg hf] at h; exact absurd rfl h
section
variable {S : Res}
set_option maxHeartbeats 1000000 in
set_option maxRecDepth 100000 in
theorem Run_ct {ys : List Value} {y : Yard} {M : Nat} {pv0 : Value} {picks : List Int} (hy : yardR S ys y) (hf : Fit y) (hL : y.right = true → Live y M) (hM : M + picks.length ≤ 900000) (hpk : Row S 1 (eqC iC) pv0 picks) (hi64 : ∀ n ∈ picks, I64 n) :
    CtN Tryz.prog 31 #[.agg ys.toArray, pv0] [S] fun u T => ∃ ys', u = .tuple #[.agg ys'.toArray, .int .i64 (yRunE y picks).2] ∧ yardR T ys' (yRunE y picks).1 := by
  obtain ⟨jv, pv, rfl, hj, hp⟩ := id hy
  obtain ⟨ak, ck, rfl, _⟩ := id hpk
  unfold yRunE
  refine ct_of (n := 54) Tryz.func31 rfl rfl (len rfl) fun hr w0 => ?_
  refine cS (cR (st_bx rfl rfl fun b2 => ?_))
  refine st_alc al27 fun b4 => ?_
  refine sV (vA rfl) (sN (nK [1, 2, 4, 5] rfl (nT (cS (cS (cR (sV (v_ldn rfl ld27 rfl rds_pt) ?_)))))))
  refine st_clr rfl rfl en67 rfl (opened_ct (l := []) hy hf Row.nil (by simp)) ?_
  refine sV (vA rfl) (sN (nK [1, 2, 4, 5, 6] rfl (nT (cS (cR (sV (vM rfl) (sV (v_neq rfl rfl) (sN (nK [1, 2, 4, 5, 6, 14] rfl (nT ?_))))))))))
  rw [openedE_nil]
  refine cC rfl (fun h1 => ?_) (fun h1 => ?_)
  · skip
    have h2 : ¬ y.right = true := fun h => by rw [if_pos h] at h1; cases h1
    refine cS (cR ?_)
    rw [if_neg h2, if_neg h2]
    refine sV (v_build (cells := [.slice none 0 0, .slice none 0 0]) rfl (fun _ => by kernel_rfl)) ?_
    refine sV (vM rfl) (st_stoW rfl rfl sz27 rfl rfl ?_)
    refine sV (vA rfl) (sN (nK [1, 2, 4, 5] rfl (nT (cT (xR (xt_vw (vw_pure (φ := True) trivial) ?_))))))
    exact xt_retV (.cellN rfl ld27 rfl (by repeat (first | exact Sel.here | apply Sel.there)) (.tmp rfl .nil)) ⟨pureR True, rfl, _, rfl, nil_yard _⟩ (by repeat (first | exact Sub.refl _ | exact Sub.nil _ | refine Sub.sel (by repeat (first | exact Sel.here | apply Sel.there)) ?_ | apply Sub.cons))
  · skip
    have h2 : y.right = true := by
      cases hr : y.right with
      | true => rfl
      | false => rw [hr] at h1; cases h1
    rw [if_pos h2]
    have hLy := hL h2
    refine cK (xT (cS (cR (sV (v_ldn rfl ld27 rfl rds_pt) ?_))))
    refine st_cl rfl rfl en75 rfl (copied_rd hy hf) ?_
    rintro u h' ⟨jv', pv', T0, rfl, rfl, hy0⟩
    obtain ⟨_, _, he0, hc1, hc2⟩ := yardR_cells hy0
    simp only [List.cons.injEq, and_true] at he0
    obtain ⟨rfl, rfl⟩ := he0
    refine st_stoW rfl rfl sz27 rfl (by simp [hc1, hc2]) ?_
    refine sN (nK [1, 2, 4, 5] rfl (nT (cS (cS (cR (sV (vM rfl) (sV (v_len rfl Tryz.underlying43) (sV (vM rfl) (sN (nK [2, 4, 5, 19, 20, 21] rfl (nT (cd_block (cd_lp (σ := Nat × Value × Value × Yard × Res) (fun q => [(2, .pointer (some ⟨b2, 0, none⟩)), (4, .pointer (some ⟨b4, 0, none⟩)), (19, .slice ak picks.length ck), (20, .int .i64 picks.length), (21, .int .i64 (q.1 : Nat))]) (fun q => pt b2 (cl [q.2.1, q.2.2.1] 27) :: q.2.2.2.2 :: pt b4 (cl [.slice none 0 0, .slice none 0 0] 27) :: S :: hr) (fun q => q.1 ≤ picks.length ∧ yardR q.2.2.2.2 [q.2.1, q.2.2.1] q.2.2.2.1 ∧ Live q.2.2.2.1 (M + q.1) ∧ q.2.2.2.1.run (picks.drop q.1) = y.run picks) (fun q => picks.length - q.1) (0, jv', pv', y, T0) ⟨Nat.zero_le _, hy0, hLy, rfl⟩ ?_)))))))))))))
    rintro ⟨k, jv, pv, z, T⟩ ⟨hk, hz, hzL, hzr⟩
    simp only at hk hz hzL hzr
    dsimp only
    refine cS (cR (sV (v_lss rfl rfl) (sN (nT (cS (cC rfl (fun hd => ?_) (fun hd => ?_)))))))
    · skip
      have hlt : k < picks.length := by simpa using hd
      obtain ⟨b, o, cp2, u0, hv2, hrd, hX⟩ := hpk.at1 (List.getElem?_eq_getElem hlt)
      cases hX
      have hni := hi64 _ (List.getElem_mem hlt)
      rw [List.drop_eq_getElem_cons hlt, run_cons] at hzr
      generalize hne : picks[k] = n at *
      have hzf := hzL.fit (by omega)
      obtain ⟨_, _, he0, hc1, hc2⟩ := yardR_cells hz
      simp only [List.cons.injEq, and_true] at he0
      obtain ⟨rfl, rfl⟩ := he0
      obtain ⟨_, _, he0, hzj, hzp⟩ := id hz
      simp only [List.cons.injEq, and_true] at he0
      obtain ⟨rfl, rfl⟩ := he0
      refine cK (xT (cS (cd_block (cS (cR (sV (v_indexAddr (k := k) (congrArg some hv2) rfl sl43 rfl hlt rfl) (sV (v_ldy rfl ld3) ?_)))))))
      refine sV (vA rfl) (sN (nK [2, 4, 8, 19, 20, 21] rfl (nT (cS (cR (sV (v_ldn rfl ld27 rfl rds_pt) ?_))))))
      refine st_cl rfl rfl en72 rfl (going_ct (jv := jv) (pv := pv)) ?_
      rintro u h' ⟨c1, rfl, rfl⟩
      refine st_cl rfl rfl en71 rfl (collect_ct (jv := jv) hzp hzf.2.1) ?_
      rintro u h' ⟨h3, rfl⟩
      refine sV (vA rfl) (sN (nK [2, 4, 8, 9, 19, 20, 21] rfl (nT (cS (cS ?_)))))
      have hrl := rdy_len z.procs z.procs.length
      have hzn := hzf.2.1
      have hrr : z.ready.length = (rdy z.procs z.procs.length).length := by rw [← ready_rdy, List.length_map]
      have hpn := pick_nn n
      refine cd_rowf (by repeat (first | exact Sel.here | apply Sel.there)) fun ra rc hre hrc _ => ?_
      rw [List.length_map] at hre
      subst hre
      refine cR (sV (vM rfl) (sV (v_len rfl Tryz.underlying43) (sV (v_eql rfl rfl) (sN (nK [2, 4, 8, 9, 19, 20, 21, 30] rfl (nT (cC rfl (fun h0 => ?_) (fun h0 => ?_))))))))
      · skip
        have hr0 : z.ready = [] := List.eq_nil_of_length_eq_zero (by have := eq_of_beq h0; omega)
        rw [if_pos hr0] at hzr
        rw [← hzr]
        refine cd_exit (xE (xt_exit_block_ne (by decide) ?_))
        refine xE (xE (xt_exit_block (xT (cS (cR (sV (v_ldn rfl ld27 rfl rds_pt) ?_))))))
        refine st_stoW rfl rfl sz27 rfl (by simp [hc1, hc2]) ?_
        refine sV (vA rfl) (sN (nK [4, 5] rfl (nT (cT ?_))))
        exact xt_retV (.cellN rfl ld27 rfl (by repeat (first | exact Sel.here | apply Sel.there)) (.tmp rfl .nil)) ⟨T, rfl, _, rfl, hz⟩ (by repeat (first | exact Sub.refl _ | exact Sub.nil _ | refine Sub.sel (by repeat (first | exact Sel.here | apply Sel.there)) ?_ | apply Sub.cons))
      · skip
        have hr0 : z.ready ≠ [] := fun h => by rw [h] at hrr; rw [← hrr] at h0; exact absurd h0 (by simp)
        have hrp : 0 < (rdy z.procs z.procs.length).length := by rw [← hrr]; exact List.length_pos_iff.2 hr0
        rw [if_neg hr0, hrr] at hzr
        have hkl := Int.emod_lt_of_pos (pick n) (show (0 : Int) < ((rdy z.procs z.procs.length).length : Int) by omega)
        have hk0 := Int.emod_nonneg (pick n) (show ((rdy z.procs z.procs.length).length : Int) ≠ 0 by omega)
        obtain ⟨q, hq1, hq2, hq3, hq4⟩ := rdy_get (y := z) (k := (pick n % ((rdy z.procs z.procs.length).length : Int)).toNat) (by omega)
        rw [hq2] at hzr
        refine cd_row (v := .slice ra (rdy z.procs z.procs.length).length rc) (by repeat (first | exact Sel.here | apply Sel.there)) (fun _ h00 => by rw [List.map_eq_nil_iff] at h00; rw [h00] at hrp; simp at hrp) fun rb ro rc2 hve _ _ => ?_
        rw [List.length_map] at hve
        simp only [Value.slice.injEq] at hve
        obtain ⟨rfl, _, rfl⟩ := hve
        have hrdq := rd_vrk (E := 3) (b := rb) (o := ro) (n := (rdy z.procs z.procs.length).length) (cp := rc) (sz := 1) (k := 0) (rows := (rdy z.procs z.procs.length).map iC) (m := (pick n % ((rdy z.procs z.procs.length).length : Int)).toNat) (r := iC q) (by rw [List.getElem?_map, hq1]; rfl) rfl
        refine cK (xT (cS (cS (cR (sV (vM rfl) (sV (v_lss rfl rfl) (sN (nK [2, 4, 8, 9, 19, 20, 21, 32] rfl (nT (cC rfl (fun hn0 => ?_) (fun hn0 => ?_)))))))))))
        · skip
          have hpe : pick n = -(n + 1) := by unfold pick; rw [if_pos (by simpa using hn0)]
          rw [hpe] at hkl hk0 hq1 hrdq hpn
          refine cR (sV (vM rfl) (sV (v_add rfl rfl (by unfold I64 at *; omega)) (sV (v_negi rfl (by unfold I64 at *; omega)) (sV (vA rfl) (sN (nK [2, 4, 8, 9, 19, 20, 21] rfl (nT (cS (cR (sV (vA rfl) (sN (nT (cS (cd_drawh (ork [(0, 1), (1, 2), (2, 2), (3, 2), (4, 2), (5, 2), (6, 2), (7, 1), (8, 0), (9, 2), (10, 2), (11, 2), (12, 0), (13, 2)] .nil) (fun i => !(Nat.beq i 8 || Nat.beq i 12)) mixed (by kernel_rfl) ?_))))))))))))))
          refine dr_v rfl (v_ldn rfl ld27 rfl rds_pt) ?_
          refine dV rfl (vM rfl) (dV rfl (vM rfl) (dV rfl (vM rfl) (dV rfl (v_len rfl Tryz.underlying43) (dV rfl (v_remp rfl rfl (by omega) (by omega) (by unfold I64; omega)) ?_))))
          refine dV rfl (v_indexAddr (k := (-(n + 1) % ((rdy z.procs z.procs.length).length : Int)).toNat) rfl rfl sl43 (by omega) (by omega) rfl) (dr_v rfl (v_ldy rfl ld3) ?_)
          refine dr_eff rfl (st_cl rfl rfl en76 rfl (stepL_ct hz hzL (by omega) hq3 hq4) ?_)
          rintro u h' ⟨T2, rfl, ys2, rfl, hz2⟩
          refine dr_nx ?_
          refine dV rfl (vM rfl) (dV rfl (v_extract rfl rfl) (dV rfl (v_extract rfl rfl) ?_))
          obtain ⟨jv2, pv2, rfl, hd1, hd2⟩ := yardR_cells hz2
          refine dr_eff rfl (st_stoW rfl rfl sz27 rfl (by simp [hd1, hd2]) (dr_nx ?_))
          refine dV rfl (vA rfl) (dr_nil (nK [2, 4, 10, 19, 20, 21] rfl (nT (cS (cR (sV (vM rfl) (sV (v_neq rfl rfl) (sN (nK [2, 4, 10, 19, 20, 21, 49] rfl (nT (cC rfl (fun he => ?_) (fun he => ?_))))))))))))
          · skip
            have hne2 : (z.stepE q).2 ≠ 0 := by simpa using he
            rw [if_neg hne2] at hzr
            have hnil := stepE_err hne2
            refine cS (cR (sV (v_build (cells := [.slice none 0 0, .slice none 0 0]) rfl (fun _ => by kernel_rfl)) ?_))
            refine sV (vM rfl) (st_stoW rfl rfl sz27 rfl rfl ?_)
            refine sV (vA rfl) (sN (nK [2, 4, 5, 19, 20, 21] rfl (nT (cT (xt_ret_block (xR (xR (xt_ret_block (xR (xt_vw (vw_pure (φ := True) trivial) ?_))))))))))
            exact xt_retV (.cellN rfl ld27 rfl (by repeat (first | exact Sel.here | apply Sel.there)) (.tmp rfl .nil)) ⟨pureR True, rfl, [.slice none 0 0, .slice none 0 0], by rw [← hzr]; rfl, by rw [← hzr, hnil]; exact nil_yard _⟩ (by repeat (first | exact Sub.refl _ | exact Sub.nil _ | refine Sub.sel (by repeat (first | exact Sel.here | apply Sel.there)) ?_ | apply Sub.cons))
          · skip
            have he2 : (z.stepE q).2 = 0 := by simpa using he
            rw [if_pos he2] at hzr
            refine cK (xB (xT (cR (sV (v_add rfl rfl (by unfold I64 at *; omega)) (sV (vM rfl) (sN (nK [2, 4, 19, 20, 21] rfl (nx_xt ?_))))))))
            refine xt_ag (k + 1, jv2, pv2, (z.stepE q).1, T2) ⟨hlt, hz2, hzL.stepE hq3 hq4 he2, hzr⟩ (by show _ - _ < _ - _; omega)
        · skip
          have hpe : pick n = n := by unfold pick; rw [if_neg (by simpa using hn0)]
          rw [hpe] at hkl hk0 hq1 hrdq hpn
          refine cK (xT (cS (cR (sV (vA rfl) (sN (nK [2, 4, 8, 9, 10, 19, 20, 21] rfl (nT (cS (cd_drawh (ork [(0, 1), (1, 2), (2, 2), (3, 2), (4, 2), (5, 2), (6, 2), (7, 1), (8, 0), (9, 2), (10, 2), (11, 2), (12, 0), (13, 2)] .nil) (fun i => !(Nat.beq i 8 || Nat.beq i 12)) mixed (by kernel_rfl) ?_)))))))))
          refine dr_v rfl (v_ldn rfl ld27 rfl rds_pt) ?_
          refine dV rfl (vM rfl) (dV rfl (vM rfl) (dV rfl (vM rfl) (dV rfl (v_len rfl Tryz.underlying43) (dV rfl (v_remp rfl rfl (by omega) (by omega) (by unfold I64; omega)) ?_))))
          refine dV rfl (v_indexAddr (k := (n % ((rdy z.procs z.procs.length).length : Int)).toNat) rfl rfl sl43 (by omega) (by omega) rfl) (dr_v rfl (v_ldy rfl ld3) ?_)
          refine dr_eff rfl (st_cl rfl rfl en76 rfl (stepL_ct hz hzL (by omega) hq3 hq4) ?_)
          rintro u h' ⟨T2, rfl, ys2, rfl, hz2⟩
          refine dr_nx ?_
          refine dV rfl (vM rfl) (dV rfl (v_extract rfl rfl) (dV rfl (v_extract rfl rfl) ?_))
          obtain ⟨jv2, pv2, rfl, hd1, hd2⟩ := yardR_cells hz2
          refine dr_eff rfl (st_stoW rfl rfl sz27 rfl (by simp [hd1, hd2]) (dr_nx ?_))
          refine dV rfl (vA rfl) (dr_nil (nK [2, 4, 10, 19, 20, 21] rfl (nT (cS (cR (sV (vM rfl) (sV (v_neq rfl rfl) (sN (nK [2, 4, 10, 19, 20, 21, 49] rfl (nT (cC rfl (fun he => ?_) (fun he => ?_))))))))))))
          · skip
            have hne2 : (z.stepE q).2 ≠ 0 := by simpa using he
            rw [if_neg hne2] at hzr
            have hnil := stepE_err hne2
            refine cS (cR (sV (v_build (cells := [.slice none 0 0, .slice none 0 0]) rfl (fun _ => by kernel_rfl)) ?_))
            refine sV (vM rfl) (st_stoW rfl rfl sz27 rfl rfl ?_)
            refine sV (vA rfl) (sN (nK [2, 4, 5, 19, 20, 21] rfl (nT (cT (xt_ret_block (xR (xR (xt_ret_block (xR (xt_vw (vw_pure (φ := True) trivial) ?_))))))))))
            exact xt_retV (.cellN rfl ld27 rfl (by repeat (first | exact Sel.here | apply Sel.there)) (.tmp rfl .nil)) ⟨pureR True, rfl, [.slice none 0 0, .slice none 0 0], by rw [← hzr]; rfl, by rw [← hzr, hnil]; exact nil_yard _⟩ (by repeat (first | exact Sub.refl _ | exact Sub.nil _ | refine Sub.sel (by repeat (first | exact Sel.here | apply Sel.there)) ?_ | apply Sub.cons))
          · skip
            have he2 : (z.stepE q).2 = 0 := by simpa using he
            rw [if_pos he2] at hzr
            refine cK (xB (xT (cR (sV (v_add rfl rfl (by unfold I64 at *; omega)) (sV (vM rfl) (sN (nK [2, 4, 19, 20, 21] rfl (nx_xt ?_))))))))
            refine xt_ag (k + 1, jv2, pv2, (z.stepE q).1, T2) ⟨hlt, hz2, hzL.stepE hq3 hq4 he2, hzr⟩ (by show _ - _ < _ - _; omega)
    · skip
      refine cd_exit (xE (xE (xt_exit_block (xT (cS (cR ?_))))))
      have hkj : k = picks.length := by have : ¬ k < picks.length := by simpa using hd
                                        omega
      subst hkj
      rw [List.drop_length] at hzr
      have hzr2 : (z, (0 : Int)) = y.run picks := hzr
      rw [← hzr2]
      obtain ⟨_, _, he0, hc1, hc2⟩ := yardR_cells hz
      simp only [List.cons.injEq, and_true] at he0
      obtain ⟨rfl, rfl⟩ := he0
      refine sV (v_ldn rfl ld27 rfl rds_pt) ?_
      refine st_stoW rfl rfl sz27 rfl (by simp [hc1, hc2]) ?_
      refine sV (vA rfl) (sN (nK [4, 5] rfl (nT (cT ?_))))
      exact xt_retV (.cellN rfl ld27 rfl (by repeat (first | exact Sel.here | apply Sel.there)) (.tmp rfl .nil)) ⟨T, rfl, _, rfl, hz⟩ (by repeat (first | exact Sub.refl _ | exact Sub.nil _ | refine Sub.sel (by repeat (first | exact Sel.here | apply Sel.there)) ?_ | apply Sub.cons))
end
end Go.Wt
namespace Go.Ck
open Go
section
variable {P : Program} {r : Option Nat} {n : Nat} {w0 : World} {hr : SH} {R : Value → SH → Prop} {fn : Func} {e : Env} {h h' k : SH} {vs : List Value} {bs : List Nat} {ds : List Deferred}
theorem xt_retSV (hds : ds = bs.map mk) (hv : ResV P k e fn.results.toList vs) (hR : R (outOf vs) h') (hk : Sub (h' ++ hr) k) (hp : Sub (Res.star (marks bs) :: k) h) : Xt ⟨P, r, n, ds, w0⟩ .ret (bodyPostM (Fw none) 0 P fn (Post w0 hr R)) e h :=
  fun a w hk' hh hw => by
    show LeavesInM (Fw none) 0 P fn a.tmps _ a.defers .returning w
    rw [hk'.defers, hds]
    exact leavesM bs w (star_iff.1 (hh.sub hp)) hw fun w' h1 h2 => ⟨_, run_resultsV hk' hv h1, _, h', rfl, hR, h1.sub hk, h2⟩
end
end Go.Ck
namespace Go.Wt
open Go Go.Ck Go.Proofs Go.Proofs.YtboepbencndobaaGreat Fx
attribute [local irreducible] St Cd Xt Nx DrL LsW
theorem gos_eq (may : Yard → Nat → Bool) (n : Nat) (y : Yard) : Yard.gos may n y = match y.ready.find? (may y) with
    | none => (y, 0)
    | some i => match n with
      | 0 => (Yard.nil, 13)
      | n + 1 => if (y.stepE i).2 = 0 then Yard.gos may n (y.stepE i).1 else y.stepE i := by
  cases n <;> (conv => lhs; unfold Yard.gos) <;> (cases y.ready.find? (may y) <;> rfl)
theorem ready_find_none {y : Yard} {g : Nat → Bool} (h : ∀ i, i < y.procs.length → (y.pr i).goes = true → g i = false) : y.ready.find? g = none := by
  rw [List.find?_eq_none]
  intro i hi
  unfold Yard.ready at hi
  rw [List.mem_filter] at hi
  rw [h i (List.mem_range.1 hi.1) hi.2]; simp
theorem find_range : ∀ (n m : Nat) {i : Nat} {f g : Nat → Bool}, m ≤ i → i < m + n → f i = true → g i = true → (∀ j, m ≤ j → j < i → f j = true → g j = false) → ((List.range' m n).filter f).find? g = some i
  | 0, m, i, f, g, h1, h2, _, _, _ => by omega
  | n + 1, m, i, f, g, h1, h2, h3, h4, h5 => by
    rw [List.range'_succ]
    by_cases hm : m = i
    · subst hm; rw [List.filter_cons_of_pos h3, List.find?_cons_of_pos h4]
    · have ih := find_range n (m + 1) (i := i) (f := f) (g := g) (by omega) (by omega) h3 h4 fun j hj => h5 j (by omega)
      by_cases hf : f m = true
      · rw [List.filter_cons_of_pos hf, List.find?_cons_of_neg (by rw [h5 m (Nat.le_refl _) (by omega) hf]; simp)]; exact ih
      · rw [List.filter_cons_of_neg hf]; exact ih
theorem ready_find_some {y : Yard} {g : Nat → Bool} {i : Nat} (hi : i < y.procs.length) (hg : (y.pr i).goes = true) (h : g i = true) (hb : ∀ j, j < i → (y.pr j).goes = true → g j = false) : y.ready.find? g = some i := by
  unfold Yard.ready
  rw [List.range_eq_range']
  exact find_range _ 0 (Nat.zero_le _) (by omega) hg h fun j _ hj hf => hb j hj hf
theorem stepE_zero {y : Yard} {i : Nat} (h : (y.stepE i).2 = 0) : (y.stepE i).1 = y.step i := by
  unfold Yard.stepE at h ⊢
  split
  · rename_i hf; rw [if_pos hf] at h; cases h
  · rfl
theorem stepE_jobs {y : Yard} {i : Nat} (h : (y.stepE i).2 = 0) : (y.stepE i).1.jobs = y.jobs := by rw [stepE_zero h]; exact step_jobs y i
theorem stepE_len {y : Yard} {M i : Nat} (H : Live y M) (hi : i < y.procs.length) (_hg : (y.pr i).goes = true) (h : (y.stepE i).2 = 0) : (y.stepE i).1.procs.length = y.procs.length := by
  rw [stepE_zero h]
  exact ((H.bd (B := M + 400) (by omega) (by omega)).step hi fun h => right_job H.right rfl hi h).len
def goStop (may : Yard → Nat → Bool) (b3 b4 b5 b6 b7 nb yl db : Nat) (bs : List Nat) (jv pv mv : Value) (k steps : Nat) (z : Yard) (S T : Res) (hr : SH) (i : Nat) (h' : SH) : Prop :=
  i < z.procs.length ∧ (z.pr i).goes = true ∧ may z i = true ∧ (∀ j, j < i → (z.pr j).goes = true → may z j = false) ∧ ∃ rec' : Loop, rec'.state ≠ .busy ∧
    ((k = steps ∧ rec'.pending = some .ret ∧ h' = pt yl (.loop rec') :: pt db (.deferred (some [])) :: pt b6 (cl [.slice none 0 0, .slice none 0 0] 27) :: pt b7 (cl [.int .i64 13] 28) :: S :: Res.star (marks bs) :: hr)
    ∨ (k < steps ∧ (z.stepE i).2 ≠ 0 ∧ rec'.pending = some .ret ∧ h' = pt yl (.loop rec') :: pt db (.deferred (some [])) :: pt b6 (cl [.slice none 0 0, .slice none 0 0] 27) :: pt b7 (cl [.int .i64 (z.stepE i).2] 28) :: S :: Res.star (marks bs) :: hr)
    ∨ (k < steps ∧ (z.stepE i).2 = 0 ∧ rec'.pending = some (.exit 1) ∧ ∃ T' jv' pv', yardR T' [jv', pv'] (z.stepE i).1 ∧ h' = pt yl (.loop rec') :: pt db (.deferred (some [])) :: pt b3 (cl [jv', pv'] 27) :: T' :: pt nb (cl [.int .i64 k] 3) :: Res.star (marks bs) :: pt b4 (cl [.int .i64 steps] 3) :: pt b5 (cl [mv] 63) :: pt b6 (cl [.slice none 0 0, .slice none 0 0] 27) :: pt b7 (cl [.int .i64 0] 28) :: S :: hr))
section
variable {S : Res}
def goS (b3 b4 b5 b6 b7 nb : Nat) (bs : List Nat) (jv pv mv : Value) (k steps : Nat) (T S : Res) (hr : SH) : SH := pt b3 (cl [jv, pv] 27) :: T :: pt nb (cl [.int .i64 k] 3) :: Res.star (marks bs) :: pt b4 (cl [.int .i64 steps] 3) :: pt b5 (cl [mv] 63) :: pt b6 (cl [.slice none 0 0, .slice none 0 0] 27) :: pt b7 (cl [.int .i64 0] 28) :: S :: hr
set_option maxHeartbeats 1000000 in
set_option maxRecDepth 100000 in
theorem goes_ct {T0 : Res} {ys : List Value} {y : Yard} {M steps : Nat} {kf : FuncId} {cp : Array Value} (may : Yard → Nat → Bool) (hy : yardR T0 ys y) (hL : Live y M) (hM : M + steps ≤ 900000) (hE : Enters Tryz.prog kf)
    (hm : ∀ (z : Yard) (T : Res) (jv pv : Value) (i m : Nat), Live z m → z.procs.length = y.procs.length → z.jobs = y.jobs → m ≤ 900000 → yardR T [jv, pv] z → i < z.procs.length → Reads Tryz.prog kf (#[] ++ [.agg #[jv, pv], .int .i64 i].toArray ++ cp) [T, S] (.bool (may z i))) :
    Ct Tryz.prog 86 #[.agg ys.toArray, .int .i64 steps, .func (.func kf) #[] cp] [T0, S] fun u h' => ∃ T ys', u = .tuple #[.agg ys'.toArray, .int .i64 (Yard.gos may steps y).2] ∧ h' = [T, S] ∧ yardR T ys' (Yard.gos may steps y).1 := by
  obtain ⟨jv0, pv0, rfl, hc01, hc02⟩ := yardR_cells hy
  refine ct_ofM (n := 37) Tryz.func86 rfl rfl (len rfl) fun hr w0 => ?_
  refine cS (cR (st_bx rfl rfl fun b3 => ?_))
  refine st_bx rfl rfl fun b4 => ?_
  refine st_bx rfl rfl fun b5 => ?_
  refine st_alc al27 fun b6 => ?_
  refine st_alc al28 fun b7 => ?_
  refine sN (nK [3, 4, 5, 6, 7] rfl (nT (cd_scope (cS (cd_label (xT (cS (cS (cR (st_alc al3 fun b8 => ?_))))))))))
  refine st_sto rfl rfl sz3 ?_
  refine sN (nT (cd_block (cd_marks0 (cd_loopD (σ := Nat × (Value × Value) × Yard × Res × Nat × List Nat) (fun q => q.2.2.2.2.2.map mk) (fun q => [(3, .pointer (some ⟨b3, 0, none⟩)), (4, .pointer (some ⟨b4, 0, none⟩)), (5, .pointer (some ⟨b5, 0, none⟩)), (6, .pointer (some ⟨b6, 0, none⟩)), (7, .pointer (some ⟨b7, 0, none⟩)), (8, .pointer (some ⟨q.2.2.2.2.1, 0, none⟩))]) (fun q => goS b3 b4 b5 b6 b7 q.2.2.2.2.1 q.2.2.2.2.2 q.2.1.1 q.2.1.2 (.func (.func kf) #[] cp) q.1 steps q.2.2.2.1 S hr) (fun q => q.1 ≤ steps ∧ yardR q.2.2.2.1 [q.2.1.1, q.2.1.2] q.2.2.1 ∧ Live q.2.2.1 (M + q.1) ∧ q.2.2.1.procs.length = y.procs.length ∧ q.2.2.1.jobs = y.jobs ∧ Yard.gos may (steps - q.1) q.2.2.1 = Yard.gos may steps y) (fun q => steps - q.1) (0, (jv0, pv0), y, T0, b8, []) ⟨Nat.zero_le _, hy, hL, rfl, rfl, rfl⟩ rfl ⟨rfl, rfl, rfl, rfl, rfl, rfl, trivial⟩ (by unfold goS; dsimp only; exact (by repeat (first | exact Sub.refl _ | exact Sub.nil _ | refine Sub.sel (by repeat (first | exact Sel.here | apply Sel.there)) ?_ | apply Sub.cons))) ?_))))
  rintro ⟨k, ⟨jv, pv⟩, z, T, nb, bs⟩ ⟨hk, hz, hzL, hzn, hzj, hzg⟩
  simp only at hk hz hzL hzn hzj hzg
  obtain ⟨_, _, he0, hc1, hc2⟩ := yardR_cells hz
  simp only [List.cons.injEq, and_true] at he0
  obtain ⟨rfl, rfl⟩ := he0
  obtain ⟨_, _, he0, hzj2, hzp⟩ := id hz
  simp only [List.cons.injEq, and_true] at he0
  obtain ⟨rfl, rfl⟩ := he0
  rw [gos_eq] at hzg
  have hzf := hzL.fit (by omega)
  dsimp only
  unfold goS
  refine cS (cd_block (cS (cS (cR (sV (v_ldn rfl ld27 rfl rds_pt) ?_)))))
  refine st_cl rfl rfl en72 rfl (going_ct (jv := jv) (pv := pv)) ?_
  rintro u h' ⟨c1, rfl, rfl⟩
  refine sN (nK [3, 4, 5, 6, 7, 8, 14] rfl (nT (cd_block ?_)))
  simp only [List.cons_append, List.nil_append]
  refine cd_range' rfl en112 fun yl db rec hst hpe hps has hbo hkn2 => ?_
  refine ⟨_, Ct.perm (going1_ct (σ := Unit) (S := T) (yl := yl) (jv := jv) (b1 := c1) (fun _ => pt yl (.loop rec) :: pt db (.deferred (some [])) :: pt b3 (cl [jv, pv] 27) :: pt nb (cl [.int .i64 k] 3) :: Res.star (marks bs) :: pt b4 (cl [.int .i64 steps] 3) :: pt b5 (cl [.func (.func kf) #[] cp] 63) :: pt b6 (cl [.slice none 0 0, .slice none 0 0] 27) :: pt b7 (cl [.int .i64 0] 28) :: S :: hr)
    (fun i _ => ∀ j, j < i → (z.pr j).goes = true → may z j = false) (fun i h' => goStop may b3 b4 b5 b6 b7 nb yl db bs jv pv (.func (.func kf) #[] cp) k steps z S T hr i h') () (fun j hj => absurd hj (Nat.not_lt_zero _)) hzp hzf.2.1 ?_ ?_) ?_, ?_⟩
  · rintro i ⟨⟩ hi hg hb
    rw [← pr_get hi] at hg
    have hmz := hm z T jv pv i (M + k) hzL hzn hzj (by omega) hz hi
    refine Yc.perm (yc_of (n := 37) (rec := rec) (args := [.int .i64 i]) (hf := T :: pt db (.deferred (some [])) :: pt b3 (cl [jv, pv] 27) :: pt nb (cl [.int .i64 k] 3) :: Res.star (marks bs) :: pt b4 (cl [.int .i64 steps] 3) :: pt b5 (cl [.func (.func kf) #[] cp] 63) :: pt b6 (cl [.slice none 0 0, .slice none 0 0] 27) :: pt b7 (cl [.int .i64 0] 28) :: S :: hr) (by rw [hps]; rfl) hkn2 (by rw [hps]; decide) ?_) (.swap _ _ _)
    intro hr2 w1
    rw [has, hps, hbo]
    simp only [List.cons_append, List.nil_append]
    refine cR (sV (vA rfl) (sN (nK [3, 4, 5, 6, 7, 8, 9] rfl (nx_xt (xt_mid rfl (by repeat (first | exact Sel.here | apply Sel.there)) (by first | rfl | assumption) ?_)))))
    refine cd_block (cS (cS (cR (sV (v_ldy rfl ld63) ?_))))
    refine sV (v_ldn rfl ld27 rfl rds_pt) ?_
    refine sV (vM rfl) (st_clr rfl rfl hE rfl (hmz) ?_)
    refine sV (v_not rfl) (sN (nK [3, 4, 6, 7, 8, 9, 20] rfl (nT (cC rfl (fun hq => ?_) (fun hq => ?_)))))
    · skip
      have hq2 : may z i = false := by simpa using hq
      refine cd_exit (xE (xt_exit_block (xt_round (by repeat (first | exact Sel.here | apply Sel.there)) (.inl ⟨rfl, (), fun j hj hg2 => ?_, rfl⟩) ?_)))
      · by_cases hji : j = i
        · subst hji; exact hq2
        · exact hb j (by omega) hg2
      · rw [rec_back hst hpe]
        exact (by repeat (first | exact Sub.refl _ | exact Sub.nil _ | refine Sub.sel (by repeat (first | exact Sel.here | apply Sel.there)) ?_ | apply Sub.cons))
    · skip
      have hq2 : may z i = true := by simpa using hq
      refine cK (xT (cS (cS (cR (sV (v_ldy rfl ld3) ?_)))))
      refine sV (v_ldy rfl ld3) ?_
      refine sV (v_eql rfl rfl) (sN (nK [3, 6, 7, 9, 23] rfl (nT (cC rfl (fun hn => ?_) (fun hn => ?_)))))
      · skip
        have hks : k = steps := by have := eq_of_beq hn; omega
        refine cS (cR (sV (v_build (cells := [.slice none 0 0, .slice none 0 0]) rfl (fun _ => by kernel_rfl)) ?_))
        refine st_stoW rfl rfl sz27 rfl rfl ?_
        refine st_sto rfl rfl sz28 ?_
        refine sN (nK [3, 6, 7, 9] rfl (nT (cT (xR (xt_ret_block (xt_round_ret (by repeat (first | exact Sel.here | apply Sel.there)) (.inr ⟨rfl, _, rfl, hi, hg, hq2, hb, { ({ rec with state := .busy } : Loop) with state := .done, pending := some .ret }, by simp, .inl ⟨hks, rfl, rfl⟩⟩) ?_))))))
        exact (by repeat (first | exact Sub.refl _ | exact Sub.nil _ | refine Sub.sel (by repeat (first | exact Sel.here | apply Sel.there)) ?_ | apply Sub.cons))
      · skip
        have hks : k < steps := by
          have : k ≠ steps := fun h => by subst h; simp at hn
          omega
        refine cK (xT (cS (cR (sV (vA rfl) (sN (nK [3, 6, 7, 9, 10] rfl (nT (cS (cS (cR (sV (v_ldn rfl ld27 rfl rds_pt) ?_)))))))))))
        refine sV (vM rfl) (st_cl rfl rfl en76 rfl (stepL_ct hz hzL (by omega) hi hg) ?_)
        rintro u h' ⟨T2, rfl, ys2, rfl, hz2⟩
        obtain ⟨jv2, pv2, rfl, hd1, hd2⟩ := yardR_cells hz2
        refine sV (vM rfl) (sV (v_extract rfl rfl) (sV (v_extract rfl rfl) (st_stoW rfl rfl sz27 rfl (by simp [hd1, hd2]) ?_)))
        refine sV (vA rfl) (sN (nK [6, 7, 10] rfl (nT (cS (cR (sV (vM rfl) (sV (v_neq rfl rfl) (sN (nK [6, 7, 10, 32] rfl (nT (cC rfl (fun he => ?_) (fun he => ?_))))))))))))
        · skip
          have hse : (z.stepE i).2 ≠ 0 := by simpa using he
          refine cS (cR (sV (v_build (cells := [.slice none 0 0, .slice none 0 0]) rfl (fun _ => by kernel_rfl)) ?_))
          refine sV (vM rfl) (st_stoW rfl rfl sz27 rfl rfl ?_)
          refine st_sto rfl rfl sz28 ?_
          refine sN (nK [6, 7] rfl (nT (cT (xR (xt_ret_block (xt_round_ret (by repeat (first | exact Sel.here | apply Sel.there)) (.inr ⟨rfl, _, rfl, hi, hg, hq2, hb, { ({ rec with state := .busy } : Loop) with state := .done, pending := some .ret }, by simp, .inr (.inl ⟨hks, hse, rfl, rfl⟩)⟩) ?_))))))
          exact (by repeat (first | exact Sub.refl _ | exact Sub.nil _ | refine Sub.sel (by repeat (first | exact Sel.here | apply Sel.there)) ?_ | apply Sub.cons))
        · skip
          have hse : (z.stepE i).2 = 0 := by simpa using he
          refine cK (xT (cd_exit (xt_exit_block_ne (by decide) ?_)))
          refine xt_round_exit (by repeat (first | exact Sel.here | apply Sel.there)) (.inr ⟨rfl, _, rfl, hi, hg, hq2, hb, { ({ rec with state := .busy } : Loop) with state := .done, pending := some (.exit 1) }, by simp, .inr (.inr ⟨hks, hse, rfl, T2, jv2, pv2, hz2, rfl⟩)⟩) ?_
          exact (by repeat (first | exact Sub.refl _ | exact Sub.nil _ | refine Sub.sel (by repeat (first | exact Sel.here | apply Sel.there)) ?_ | apply Sub.cons))
  · rintro i ⟨⟩ hi hg hb j hj hg2
    rw [← pr_get hi] at hg
    by_cases hji : j = i
    · subst hji; rw [hg] at hg2; cases hg2
    · exact hb j (by omega) hg2
  · exact (by repeat (first | exact Pm.refl | refine Pm.cons (by repeat (first | exact Sel.here | apply Sel.there)) ?_) : Pm _ _).perm
  · rintro v' h' ⟨rfl, (⟨⟨⟩, hnone, rfl⟩ | ⟨i, h0, ⟨hi, hg, hmi, hb, rec', hbusy, hcase⟩, rfl⟩)⟩
    · rw [ready_find_none hnone] at hzg
      refine ⟨rec, _, (by repeat (first | exact Sel.here | apply Sel.there)), (by rw [hst]; simp), ?_⟩
      rw [hpe]
      dsimp only
      refine xB (xT (cd_exit (xt_exit_block_ne (by decide) ?_)))
      refine xE (xE (xt_exit_block (xT (cS (cR ?_)))))
      rw [← hzg]
      refine sV (v_ldn rfl ld27 rfl rds_pt) ?_
      refine st_stoW rfl rfl sz27 rfl (by simp [hc1, hc2]) ?_
      refine st_sto rfl rfl sz28 ?_
      refine sN (nK [6, 7] rfl (nT (cT (xt_ret_scope (xt_mark (by repeat (first | exact Sel.here | apply Sel.there)) (by repeat (first | exact Sel.here | apply Sel.there)) ?_)))))
      refine xt_retSV (bs := db :: bs) (k := pt b6 (cl [jv, pv] 27) :: pt b7 (cl [.int .i64 0] 28) :: ([T, S] ++ hr)) rfl (.cellN rfl ld27 rfl (by repeat (first | exact Sel.here | apply Sel.there)) (.cell1 rfl ld28 (at_there (at_here (rd_cl rfl))) .nil)) ⟨T, [jv, pv], rfl, rfl, hz⟩ ?_ ?_
      · exact Sub.cons (Sub.cons (Sub.refl _))
      · simp only [List.cons_append, List.nil_append]
        exact (by repeat (first | exact Sub.refl _ | exact Sub.nil _ | refine Sub.sel (by repeat (first | exact Sel.here | apply Sel.there)) ?_ | apply Sub.cons))
    · rw [ready_find_some hi hg hmi hb] at hzg
      rcases hcase with ⟨hks, hpend, rfl⟩ | ⟨hks, hse, hpend, rfl⟩ | ⟨hks, hse, hpend, T', jv', pv', hz', rfl⟩
      · refine ⟨rec', _, (by repeat (first | exact Sel.here | apply Sel.there)), hbusy, ?_⟩
        rw [hpend]
        dsimp only
        refine cT (xt_ret_block (xR (xt_ret_block (xR (xR (xt_ret_block (xR (xt_ret_scope ?_))))))))
        have hk0 : steps - k = 0 := by omega
        rw [hk0] at hzg
        simp only at hzg
        refine xt_mark (by repeat (first | exact Sel.here | apply Sel.there)) (by repeat (first | exact Sel.here | apply Sel.there)) ?_
        refine xt_vw (vw_pure (φ := True) trivial) (xt_retSV (bs := db :: bs) (k := pt b6 (cl [.slice none 0 0, .slice none 0 0] 27) :: pt b7 (cl [.int .i64 13] 28) :: ([pureR True, S] ++ hr)) rfl (.cellN rfl ld27 rfl (by repeat (first | exact Sel.here | apply Sel.there)) (.cell1 rfl ld28 (at_there (at_here (rd_cl rfl))) .nil)) ⟨pureR True, [.slice none 0 0, .slice none 0 0], by rw [← hzg]; rfl, rfl, by rw [← hzg]; exact nil_yard _⟩ ?_ ?_)
        · exact Sub.cons (Sub.cons (Sub.refl _))
        · simp only [List.cons_append, List.nil_append]
          exact (by repeat (first | exact Sub.refl _ | exact Sub.nil _ | refine Sub.sel (by repeat (first | exact Sel.here | apply Sel.there)) ?_ | apply Sub.cons))
      · refine ⟨rec', _, (by repeat (first | exact Sel.here | apply Sel.there)), hbusy, ?_⟩
        rw [hpend]
        dsimp only
        refine cT (xt_ret_block (xR (xt_ret_block (xR (xR (xt_ret_block (xR (xt_ret_scope ?_))))))))
        obtain ⟨m, hm2⟩ : ∃ m, steps - k = m + 1 := ⟨steps - k - 1, by omega⟩
        rw [hm2] at hzg
        simp only at hzg
        rw [if_neg hse] at hzg
        have hnil := stepE_err hse
        refine xt_mark (by repeat (first | exact Sel.here | apply Sel.there)) (by repeat (first | exact Sel.here | apply Sel.there)) ?_
        refine xt_vw (vw_pure (φ := True) trivial) (xt_retSV (bs := db :: bs) (k := pt b6 (cl [.slice none 0 0, .slice none 0 0] 27) :: pt b7 (cl [.int .i64 (z.stepE i).2] 28) :: ([pureR True, S] ++ hr)) rfl (.cellN rfl ld27 rfl (by repeat (first | exact Sel.here | apply Sel.there)) (.cell1 rfl ld28 (at_there (at_here (rd_cl rfl))) .nil)) ⟨pureR True, [.slice none 0 0, .slice none 0 0], by rw [← hzg]; rfl, rfl, by rw [← hzg, hnil]; exact nil_yard _⟩ ?_ ?_)
        · exact Sub.cons (Sub.cons (Sub.refl _))
        · simp only [List.cons_append, List.nil_append]
          exact (by repeat (first | exact Sub.refl _ | exact Sub.nil _ | refine Sub.sel (by repeat (first | exact Sel.here | apply Sel.there)) ?_ | apply Sub.cons))
      · refine ⟨rec', _, (by repeat (first | exact Sel.here | apply Sel.there)), hbusy, ?_⟩
        rw [hpend]
        dsimp only
        refine cd_exit (xt_exit_block_ne (by decide) ?_)
        refine xE (xt_exit_block (xT (cS (cS (cR (sV (v_ldy rfl ld3) ?_))))))
        refine sN (nK [3, 4, 5, 6, 7, 8, 35] rfl (nT (cR (st_alc al3 fun b8 => ?_))))
        refine st_sto rfl rfl sz3 ?_
        refine sN (nK [3, 4, 5, 6, 7, 8] rfl (nT (cR (sV (v_ldy rfl ld3) ?_))))
        refine sV (v_add rfl rfl (by unfold I64 at *; omega)) (st_sto rfl rfl sz3 ?_)
        refine sN (nK [3, 4, 5, 6, 7, 8] rfl (nx_xt (xt_mark (by repeat (first | exact Sel.here | apply Sel.there)) (by repeat (first | exact Sel.here | apply Sel.there)) ?_)))
        obtain ⟨m, hm2⟩ : ∃ m, steps - k = m + 1 := ⟨steps - k - 1, by omega⟩
        rw [hm2] at hzg
        simp only at hzg
        rw [if_pos hse] at hzg
        refine xt_againD (k + 1, (jv', pv'), (z.stepE i).1, T', b8, db :: bs) ⟨hks, hz', hzL.stepE hi hg hse, ?_, ?_, ?_⟩ (by show _ - _ < _ - _; omega) rfl ⟨rfl, rfl, rfl, rfl, rfl, rfl, trivial⟩ ?_
        · show (z.stepE i).1.procs.length = _
          rw [stepE_len hzL hi hg hse]; exact hzn
        · show (z.stepE i).1.jobs = _
          rw [stepE_jobs hse]; exact hzj
        · show Yard.gos may (steps - (k + 1)) (z.stepE i).1 = _
          rw [show steps - (k + 1) = m by omega]; exact hzg
        · dsimp only
          exact (by repeat (first | exact Sub.refl _ | exact Sub.nil _ | refine Sub.sel (by repeat (first | exact Sel.here | apply Sel.there)) ?_ | apply Sub.cons))
end
end Go.Wt
namespace Go.Wt
open Go Go.Ck Go.Proofs Go.Proofs.YtboepbencndobaaGreat Fx
attribute [local irreducible] St Cd Xt Nx DrL LsW
def cntE (steps : Int) : Int := if within steps 0 100000 = true then 0 else 1
set_option maxRecDepth 100000 in
theorem counted_ct (steps : Int) : Reads Tryz.prog 85 #[.int .i64 steps] [] (.int .i64 (cntE steps)) := by
  unfold cntE
  refine ct_of (n := 6) Tryz.func85 rfl rfl (len rfl) fun hr w0 => ?_
  refine cS (cR (sV (vA rfl) (sN (nT (cS (cR (sV (vM rfl) (st_clr rfl rfl en80 rfl (within_ct steps 0 100000) ?_))))))))
  refine st_clr rfl rfl en63 rfl (unless_ct (within steps 0 100000) 1) ?_
  refine sV (vA rfl) (sN (nK [2] rfl (nT (cT ?_))))
  exact xt_rt rfl ⟨rfl, rfl⟩
set_option maxRecDepth 100000 in
theorem always_ct {S S2 : Res} (a : Value) (b : Value) {jv pv : Value} (ha : a = .agg #[jv, pv]) (hb : ∃ i, b = .int .i64 i) : Reads Tryz.prog 102 (#[] ++ [a, b].toArray ++ #[]) [S, S2] (.bool true) := by
  subst ha
  obtain ⟨i, rfl⟩ := hb
  refine ct_of (n := 5) Tryz.func102 rfl rfl (len rfl) fun hr w0 => ?_
  refine cS (cR (st_bx rfl rfl fun b2 => ?_))
  refine sV (vA rfl) (sN (nK [4] rfl (nT (cS (cR (sV (vA rfl) (sN (nT (cT ?_)))))))))
  exact xt_rt rfl ⟨rfl, rfl⟩
def yFinE (y : Yard) (steps : Int) : YE := if firstE [openedE y [], cntE steps] = 0 then Yard.gos (fun _ _ => true) steps.toNat y else (Yard.nil, firstE [openedE y [], cntE steps])
theorem first2_zero {a b : Int} (h : firstE [a, b] = 0) : a = 0 ∧ b = 0 := by
  unfold firstE at h
  by_cases ha : a = 0
  · subst ha
    by_cases hb : b = 0
    · exact ⟨rfl, hb⟩
    · simp [hb] at h
  · simp [ha] at h
theorem cnt_zero {s : Int} (h : cntE s = 0) : 0 ≤ s ∧ s ≤ 100000 := by
  unfold cntE within at h
  split at h
  · rename_i h1; simp at h1; exact h1
  · cases h
section
variable {S : Res}
set_option maxRecDepth 100000 in
theorem Finish_ct {ys : List Value} {y : Yard} {M : Nat} {steps : Int} (hy : yardR S ys y) (hf : Fit y) (hL : y.right = true → Live y M) (hM : M ≤ 500000) :
    CtN Tryz.prog 52 #[.agg ys.toArray, .int .i64 steps] [S] fun u T => ∃ ys', u = .tuple #[.agg ys'.toArray, .int .i64 (yFinE y steps).2] ∧ yardR T ys' (yFinE y steps).1 := by
  obtain ⟨jv, pv, rfl, hj, hp⟩ := id hy
  unfold yFinE
  refine ct_of (n := 23) Tryz.func52 rfl rfl (len rfl) fun hr w0 => ?_
  refine cS (cR (st_bx rfl rfl fun b2 => ?_))
  refine st_alc al27 fun b4 => ?_
  refine sV (vA rfl) (sN (nK [1, 2, 4, 5] rfl (nT (cS (cS (cR (sV (v_ldn rfl ld27 rfl rds_pt) ?_)))))))
  refine st_clr rfl rfl en67 rfl (opened_ct (l := []) hy hf Row.nil (by simp)) ?_
  refine sV (vM rfl) (st_clr rfl rfl en85 rfl (counted_ct steps) ?_)
  generalize hcnt : cntE steps = c1
  generalize hop : openedE y [] = o1
  refine st_buildSlice (cells := [.int .i64 o1, .int .i64 c1]) rfl Tryz.underlying166 inf28 rfl rfl (by kernel_rfl) (ltn rfl) fun b11 => ?_
  refine st_cl rfl rfl en62 rfl (first_ct (S := pt b11 (cl [.int .i64 o1, .int .i64 c1] 28)) (l := [o1, c1]) (row_pt rfl (by simp [iC]) rfl (by decide)) (by simp)) ?_
  rintro u h' ⟨rfl, rfl⟩
  refine sV (vA rfl) (sN (nK [1, 2, 4, 5, 6] rfl (nT (cS (cR (sV (vM rfl) (sV (v_neq rfl rfl) (sN (nK [1, 2, 4, 5, 6, 14] rfl (nT (cC rfl (fun h1 => ?_) (fun h1 => ?_))))))))))))
  · skip
    have h2 : ¬ firstE [o1, c1] = 0 := by simpa using h1
    refine cS (cR ?_)
    rw [if_neg h2]
    refine sV (v_build (cells := [.slice none 0 0, .slice none 0 0]) rfl (fun _ => by kernel_rfl)) ?_
    refine sV (vM rfl) (st_stoW rfl rfl sz27 rfl rfl ?_)
    refine sV (vA rfl) (sN (nK [1, 2, 4, 5] rfl (nT (cT (xR (xt_vw (vw_pure (φ := True) trivial) ?_))))))
    exact xt_retV (.cellN rfl ld27 rfl (by repeat (first | exact Sel.here | apply Sel.there)) (.tmp rfl .nil)) ⟨pureR True, rfl, _, rfl, nil_yard _⟩ (by repeat (first | exact Sub.refl _ | exact Sub.nil _ | refine Sub.sel (by repeat (first | exact Sel.here | apply Sel.there)) ?_ | apply Sub.cons))
  · skip
    have h2 : firstE [o1, c1] = 0 := by simpa using h1
    rw [if_pos h2]
    obtain ⟨ho0, hc0⟩ := first2_zero h2
    rw [← hop] at ho0
    rw [← hcnt] at hc0
    have hyr := (openedE_zero ho0).1
    have hLy := hL hyr
    obtain ⟨hs0, hs1⟩ := cnt_zero hc0
    obtain ⟨n, rfl⟩ := Int.eq_ofNat_of_zero_le hs0
    rw [Int.toNat_natCast]
    refine cK (xT (cS (cR (sV (v_ldn rfl ld27 rfl rds_pt) ?_))))
    refine st_cl rfl rfl en75 rfl (copied_rd hy hf) ?_
    rintro u h' ⟨jv', pv', T0, rfl, rfl, hy0⟩
    refine sV (vM rfl) (st_cl rfl rfl en86 rfl (goes_ct (T0 := T0) (S := S) (fun _ _ => true) hy0 hLy (by omega) en102 (fun z T a b i m _ _ _ _ _ _ => always_ct _ _ rfl ⟨_, rfl⟩)) ?_)
    rintro u h' ⟨T, ys', rfl, rfl, hz⟩
    obtain ⟨ja, pa, rfl, hd1, hd2⟩ := yardR_cells hz
    refine sV (v_extract rfl rfl) (sV (v_extract rfl rfl) (st_stoW rfl rfl sz27 rfl (by simp [hd1, hd2]) ?_))
    refine sV (vA rfl) (sN (nK [4, 5] rfl (nT (cT ?_))))
    exact xt_retV (.cellN rfl ld27 rfl (by repeat (first | exact Sel.here | apply Sel.there)) (.tmp rfl .nil)) ⟨T, rfl, _, rfl, hz⟩ (by repeat (first | exact Sub.refl _ | exact Sub.nil _ | refine Sub.sel (by repeat (first | exact Sel.here | apply Sel.there)) ?_ | apply Sub.cons))
end
end Go.Wt
namespace Go.Wt
open Go Go.Ck Go.Proofs Go.Proofs.YtboepbencndobaaGreat Fx
attribute [local irreducible] Go.Ck.Sub St Cd Xt Nx DrL LsW
def putsE (y : Yard) (i : Nat) : Int × Bool :=
  let p := y.pr i
  if (decide (p.job < 0) || (p.pc == (y.jlen p.job : Int))) = true then (0, false)
  else ((y.mv p.job p.pc).2.1, (y.mv p.job p.pc).1 == 5 || ((y.mv p.job p.pc).1 == 1 && ((y.mv p.job p.pc).2.1 != (i : Int)) && !(p.hold (y.mv p.job p.pc).2.1).isSome))
section
variable {S : Res}
set_option maxRecDepth 100000 in
theorem puts_ct {jv pv : Value} {y : Yard} {n i : Nat} (hy : yardR S [jv, pv] y) (hf : Fit y) (hn : y.procs.length = n) (hi : i < n) (hok : 0 ≤ (y.pr i).job → JobOk y n i) :
    Reads Tryz.prog 88 #[.agg #[jv, pv], .int .i64 i] [S] (.tuple #[.int .i64 (putsE y i).1, .bool (putsE y i).2]) := by
  obtain ⟨_, _, he0, hj, hp⟩ := id hy
  simp only [List.cons.injEq, and_true] at he0
  obtain ⟨rfl, rfl⟩ := he0
  subst hn
  obtain ⟨b, off, cp2, us, rfl, hus, hrd, lv, pv', hv, dv, rfl, hL, hP, hH, hD⟩ := hp.at (List.getElem?_eq_getElem hi)
  have hfp := hf.2.2 _ (List.getElem_mem hi)
  have hpr := pr_get hi
  have hpe0 : putsE y i = if (decide ((y.pr i).job < 0) || ((y.pr i).pc == (y.jlen (y.pr i).job : Int))) = true then (0, false)
    else ((y.mv (y.pr i).job (y.pr i).pc).2.1, (y.mv (y.pr i).job (y.pr i).pc).1 == 5 || ((y.mv (y.pr i).job (y.pr i).pc).1 == 1 && ((y.mv (y.pr i).job (y.pr i).pc).2.1 != (i : Int)) && !((y.pr i).hold (y.mv (y.pr i).job (y.pr i).pc).2.1).isSome)) := rfl
  obtain ⟨al, cl', rfl, _⟩ := id hL
  obtain ⟨ap', cp', rfl, _⟩ := id hP
  obtain ⟨ah, ch', rfl, _⟩ := id hH
  obtain ⟨ad, cd', rfl, _⟩ := id hD
  rw [← hpr] at hrd hL hP hH hD hfp
  generalize hpe : y.pr i = p at *
  refine ct_of (n := 68) Tryz.func88 rfl rfl (len rfl) fun hr w0 => ?_
  refine cS (cR (st_bx rfl rfl fun b2 => ?_))
  refine sV (vA rfl) (sV (vA rfl) (sN (nK [1, 2, 4, 5] rfl (nT (cS (cR (sV (vF rfl fa27_1 rfl) (sV (v_ldy rfl ld25) ?_))))))))
  refine sV (vM rfl) (sV (v_indexAddr (k := i) rfl rfl sl25 rfl hi rfl) (sV (v_ldn rfl ld77 rfl hrd) ?_))
  refine st_alc al77 fun b6 => ?_
  refine st_stoW rfl rfl sz77 rfl rfl ?_
  refine sN (nK [1, 2, 4, 5, 6] rfl (nT (cS (cS (cd_drawh (ork [(0, 2), (1, 1), (2, 2), (3, 2), (4, 2), (5, 1), (6, 2), (7, 1), (8, 2), (9, 1), (10, 2), (11, 1), (12, 2), (13, 2), (14, 2)] .nil) (fun _ => true) mixed (by kernel_rfl) ?_)))))
  refine dV rfl (vF rfl fa77_2 rfl) (dr_v rfl (v_ldy rfl ld3) ?_)
  refine dV rfl (v_lss rfl rfl) (dV rfl (vM rfl) (dr_cut (k := 11) (d := 29) (v := .bool (decide (p.job < 0) || (p.pc == (y.jlen p.job : Int)))) (fun hcut => bool_want (b := decide (p.job < 0)) false (fun hg => ?_) (fun hg => ?_)) ?_))
  · refine dp_sk rfl rfl rfl hg ?_
    refine dr_sk rfl rfl rfl hg ?_
    refine dp_sk rfl rfl rfl hg ?_
    refine dr_sk rfl rfl rfl hg ?_
    refine dp_sk rfl rfl rfl hg ?_
    refine dr_sk rfl rfl rfl hg ?_
    refine dp_sk rfl rfl rfl hg ?_
    refine dr_sk rfl rfl rfl hg ?_
    refine dp_sk rfl rfl rfl hg ?_
    refine dp_sk rfl rfl rfl hg ?_
    refine dV rfl (v_pick_true (bool_ev rfl hg) rfl) ?_
    exact hcut _ (ssub_head (by first | rfl | (rw [hg]; rfl) | simp_all) (uS rfl (uS rfl (uS rfl (uS rfl (uS rfl (uS rfl (uS rfl (uS rfl (uS rfl (uS rfl (ssub_refl))))))))))))
  · skip
    have hj0 : 0 ≤ p.job := by have := of_decide_eq_false hg; omega
    have hk := hok hj0
    obtain ⟨⟨_, hj1⟩, hpc, hmv⟩ := hk
    rw [hpe] at hj1
    obtain ⟨bj, oj, cj, uj, hjv, hrdj, vj, hvj, hrj⟩ := hj.at1 (List.getElem?_eq_getElem hj1)
    simp only [List.cons.injEq, and_true] at hvj
    subst hvj
    obtain ⟨aj, cj2, rfl, _⟩ := id hrj
    have hjl : y.jlen p.job = (y.jobs[p.job.toNat]).length := by unfold Yard.jlen; rw [List.getD_eq_getElem?_getD, List.getElem?_eq_getElem hj1]; rfl
    rw [← hjl] at hrdj
    refine dp_vg rfl rfl (bG rfl hg) (vF rfl fa77_3 rfl) (dr_vg rfl rfl (bG rfl hg) (v_ldy rfl ld3) ?_)
    refine dp_vg rfl rfl (bG rfl hg) (vF rfl fa27_0 rfl) (dr_vg rfl rfl (bG rfl hg) (v_ldy rfl ld22) ?_)
    refine dp_vg rfl rfl (bG rfl hg) (vF rfl fa77_2 rfl) (dr_vg rfl rfl (bG rfl hg) (v_ldy rfl ld3) ?_)
    refine dp_vg rfl rfl (bG rfl hg) (v_indexAddr (k := p.job.toNat) (congrArg some hjv) rfl sl22 (by omega) hj1 rfl) (dr_vg rfl rfl (bG rfl hg) (v_ldy rfl ld108) ?_)
    refine dp_vg rfl rfl (bG rfl hg) (v_len rfl Tryz.underlying108) (dp_vg rfl rfl (bG rfl hg) (v_eql rfl rfl) (dV rfl (vP (bool_ev rfl hg) rfl) ?_))
    exact hcut _ (ssub_head (by first | rfl | (rw [hg]; rfl) | simp_all) (uS rfl (uS rfl (uS rfl (uS rfl (uS rfl (uS rfl (uS rfl (uS rfl (uS rfl (uS rfl (ssub_refl))))))))))))
  refine dr_nil (nK [1, 2, 4, 5, 6, 29] rfl (nT (cC rfl (fun hc => ?_) (fun hc => ?_))))
  · skip
    rw [if_pos hc] at hpe0
    rw [hpe0]
    refine cS (cR (sV (vA rfl) (sV (vA rfl) (sN (nK [4, 5] rfl (nT (cT (xR ?_))))))))
    exact xt_rt rfl ⟨rfl, rfl⟩
  · skip
    rw [if_neg (by simpa using hc)] at hpe0
    have hc2 : 0 ≤ p.job ∧ p.pc ≠ (y.jlen p.job : Int) := by
      simp only [Bool.or_eq_false_iff, decide_eq_false_iff_not, beq_eq_false_iff_ne] at hc
      exact ⟨by omega, hc.2⟩
    obtain ⟨⟨_, hj1⟩, ⟨hpc0, hpc1⟩, hmv⟩ := hok hc2.1
    rw [hpe] at hj1 hpc0 hpc1 hmv
    obtain ⟨bj, oj, cj, uj, hjv, hrdj, vj, hvj, hrj⟩ := hj.at1 (List.getElem?_eq_getElem hj1)
    simp only [List.cons.injEq, and_true] at hvj
    subst hvj
    have hjl : y.jlen p.job = (y.jobs[p.job.toNat]).length := by unfold Yard.jlen; rw [List.getD_eq_getElem?_getD, List.getElem?_eq_getElem hj1]; rfl
    obtain ⟨q, hq⟩ := Int.eq_ofNat_of_zero_le hpc0
    have hq1 : q < (y.jobs[p.job.toNat]).length := by omega
    have hmve : y.mv p.job p.pc = (y.jobs[p.job.toNat])[q] := by
      unfold Yard.mv
      rw [List.getD_eq_getElem?_getD (l := y.jobs), List.getElem?_eq_getElem hj1, Option.getD_some, hq, Int.toNat_natCast, List.getD_eq_getElem?_getD, List.getElem?_eq_getElem hq1]; rfl
    obtain ⟨bm, om, cm, um, hvm, hum, hrdm, rfl⟩ := hrj.at (List.getElem?_eq_getElem hq1)
    rw [hmve] at hpe0
    subst hvm
    generalize (y.jobs[p.job.toNat])[q] = m at *
    rw [hpe0]
    refine cK (xT (cS (cd_drawh (ork [(0, 2), (1, 1), (2, 2), (3, 1), (4, 2), (5, 1), (6, 2), (7, 1), (8, 2), (9, 1), (10, 0), (11, 0)] .nil) (fun i => !(Nat.beq i 11)) mixed (by kernel_rfl) ?_)))
    refine dV rfl (vF rfl fa27_0 rfl) (dr_v rfl (v_ldy rfl ld22) ?_)
    refine dV rfl (vF rfl fa77_2 rfl) (dr_v rfl (v_ldy rfl ld3) ?_)
    refine dV rfl (v_indexAddr (k := p.job.toNat) (congrArg some hjv) rfl sl22 (by omega) hj1 rfl) (dr_v rfl (v_ldy rfl ld108) ?_)
    refine dV rfl (vF rfl fa77_3 rfl) (dr_v rfl (v_ldy rfl ld3) ?_)
    refine dV rfl (v_indexAddr (k := q) rfl rfl sl108 hq hq1 rfl) (dr_v rfl (v_ldn rfl ld110 hum hrdm) ?_)
    refine dr_eff rfl (st_alc al110 fun b7 => dr_nx ?_)
    refine dr_eff rfl (st_stoW rfl rfl sz110 rfl rfl (dr_nx ?_))
    refine dr_nil (nK [1, 2, 4, 5, 7] rfl (nT (cS (cR (sV (v_build (cells := [.pointer (some ⟨b2, 0, none⟩)]) rfl (fun _ => by kernel_rfl)) ?_)))))
    refine sV (vM rfl) (sV (vF rfl fa110_1 rfl) (sV (v_ldy rfl ld3) ?_))
    refine st_clr rfl rfl en125 rfl (hold_ct (b := b2) (jv := jv) hi hrd hH hfp.2.2.1 m.2.1) ?_
    have hV : holdV (p.hold m.2.1) = .tuple #[.agg (holdC ((p.hold m.2.1).getD (0, (0, 0), false))).toArray, .bool (p.hold m.2.1).isSome] := by cases p.hold m.2.1 <;> rfl
    rw [hV]
    generalize (p.hold m.2.1).isSome = has
    generalize (p.hold m.2.1).getD (0, (0, 0), false) = hh
    refine sV (vM rfl) (sV (v_extract rfl rfl) (sV (v_extract rfl rfl) (st_alc al161 fun b8 => ?_)))
    refine st_stoW rfl rfl sz161 rfl rfl ?_
    refine sV (vA rfl) (sN (nK [1, 4, 5, 7, 9] rfl (nT (cS (cR (sV (vF rfl fa110_1 rfl) (sV (v_ldy rfl ld3) ?_)))))))
    refine sV (vF rfl fa110_0 rfl) (sV (v_ldy rfl ld3) ?_)
    refine sV (v_eql rfl rfl) (sV (vM rfl) (st_cut (k := 20) (d := 67) (v := .bool (m.1 == 5 || ((m.1 == 1 && (m.2.1 != (i : Int))) && !has))) (fun hcut => bool_want (b := (m.1 == 5)) false (fun hg => ?_) (fun hg => ?_)) ?_))
    · refine st_sk rfl rfl hg ?_
      refine st_sk rfl rfl hg ?_
      refine st_sk rfl rfl hg ?_
      refine st_sk rfl rfl hg ?_
      refine st_sku rfl rfl ?_
      refine st_sku rfl rfl ?_
      refine st_sku rfl rfl ?_
      refine st_sku rfl rfl ?_
      refine st_sk rfl rfl hg ?_
      refine st_sk rfl rfl hg ?_
      refine st_sku rfl rfl ?_
      refine st_sku rfl rfl ?_
      refine st_sk rfl rfl hg ?_
      refine sV (v_pick_true (bool_ev rfl hg) rfl) ?_
      exact hcut _ (ssub_head (by first | rfl | (rw [hg]; rfl) | simp_all) (uS rfl (uS rfl (uS rfl (uS rfl (uS rfl (uS rfl (uS rfl (uS rfl (uS rfl (uS rfl (uS rfl (uS rfl (uS rfl (ssub_refl)))))))))))))))
    · skip
      refine st_vg rfl (bG rfl hg) (vF rfl fa110_0 rfl) (st_vg rfl (bG rfl hg) (v_ldy rfl ld3) ?_)
      refine st_vg rfl (bG rfl hg) (v_eql rfl rfl) (st_vg rfl (bG rfl hg) (vM rfl) (st_cut (k := 15) (d := 62) (v := .bool (m.1 == 1 && (m.2.1 != (i : Int)))) (fun hcut => bool_want (b := (m.1 == 1)) true (fun hg1 => ?_) (fun hg1 => ?_)) ?_))
      · refine st_sk rfl rfl hg1 ?_
        refine st_sk rfl rfl hg1 ?_
        refine st_sk rfl rfl hg1 ?_
        refine st_sk rfl rfl hg1 ?_
        refine st_vg rfl (bG rfl hg) (vP (bool_ev rfl hg1) rfl) ?_
        exact hcut _ (ssub_head (by first | rfl | (rw [hg1]; rfl) | simp_all) (uS rfl (uS rfl (uS rfl (uS rfl (ssub_refl))))))
      · skip
        refine st_vg rfl (bG rfl hg1) (vF rfl fa110_1 rfl) (st_vg rfl (bG rfl hg1) (v_ldy rfl ld3) ?_)
        refine st_vg rfl (bG rfl hg1) (vM rfl) (st_vg rfl (bG rfl hg1) (v_neq rfl rfl) (st_vg rfl (bG rfl hg) (v_pick_true (bool_ev rfl hg1) rfl) ?_))
        exact hcut _ (ssub_head (by first | rfl | (rw [hg1]; rfl) | simp_all) (uS rfl (uS rfl (uS rfl (uS rfl (ssub_refl))))))
      refine st_vg rfl (bG rfl hg) (vM rfl) (st_cut (k := 19) (d := 66) (v := .bool ((m.1 == 1 && (m.2.1 != (i : Int))) && !has)) (fun hcut => bool_want (b := (m.1 == 1 && (m.2.1 != (i : Int)))) true (fun hg1 => ?_) (fun hg1 => ?_)) ?_)
      · refine st_sk rfl rfl hg1 ?_
        refine st_sk rfl rfl hg1 ?_
        refine st_vg rfl (bG rfl hg) (vP (bool_ev rfl hg1) rfl) ?_
        exact hcut _ (ssub_head (by first | rfl | (rw [hg1]; rfl) | simp_all) (uS rfl (uS rfl (ssub_refl))))
      · skip
        refine st_vg rfl (bG rfl hg1) (vM rfl) (st_vg rfl (bG rfl hg1) (v_not rfl) (st_vg rfl (bG rfl hg) (v_pick_true (bool_ev rfl hg1) rfl) ?_))
        exact hcut _ (ssub_head (by first | rfl | (rw [hg1]; rfl) | simp_all) (by repeat (first | exact ssub_refl | refine uS rfl ?_)))
      refine sV (vP (bool_ev rfl hg) rfl) ?_
      exact hcut _ (ssub_head (by first | rfl | (rw [hg]; rfl) | simp_all) (by repeat (first | exact ssub_refl | refine uS rfl ?_)))
    refine sV (vA rfl) (sV (vA rfl) (sN (nK [4, 5] rfl (nT (cT ?_)))))
    exact xt_rt rfl ⟨rfl, rfl⟩
end
end Go.Wt
namespace Go.Wt
open Go Go.Ck Go.Proofs Go.Proofs.YtboepbencndobaaGreat Fx
attribute [local irreducible] St Cd Xt Nx DrL LsW
def mayE (orders : List (List Key)) (y : Yard) (i : Nat) : Bool :=
  !(putsE y i).2 || (decide (((y.pr (putsE y i).1.toNat).puts.length : Int) < ((orders.getD (putsE y i).1.toNat []).length : Int)) && ((orders.getD (putsE y i).1.toNat []).getD (y.pr (putsE y i).1.toNat).puts.length (0, 0) == ((i : Int), (y.pr i).made)))
theorem putsE_spot {y : Yard} {n i : Nat} (hn : y.procs.length = n) (hn0 : 0 < n) (hok : 0 ≤ (y.pr i).job → JobOk y n i) : 0 ≤ (putsE y i).1 ∧ (putsE y i).1 < n := by
  unfold putsE
  simp only
  split
  · exact ⟨Int.le_refl _, by simp; omega⟩
  · rename_i h
    simp only [Bool.or_eq_true, decide_eq_true_eq, beq_iff_eq, not_or] at h
    obtain ⟨⟨_, hj1⟩, ⟨hpc0, hpc1⟩, hmv⟩ := hok (by omega)
    have hm : y.mv (y.pr i).job (y.pr i).pc ∈ y.jobs.getD (y.pr i).job.toNat [] := by
      unfold Yard.mv
      have h1 : (y.pr i).pc.toNat < (y.jobs.getD (y.pr i).job.toNat []).length := by
        unfold Yard.jlen at hpc1 h; omega
      rw [List.getD_eq_getElem?_getD (l := y.jobs.getD (y.pr i).job.toNat []), List.getElem?_eq_getElem h1]
      exact List.getElem_mem h1
    exact (moved_kind (hmv _ hm) (by omega)).2
theorem reads_snoc {P : Program} {k : FuncId} {args : Array Value} {L : SH} {T : Res} {v : Value} (h : Reads P k args (L ++ [T]) v) : Reads P k args [T, Res.star L] v := fun hr w hh => by
  have h1 : Holds w (Res.star L :: T :: hr) := hh.perm (.swap _ _ _)
  have h2 : Holds w ((L ++ [T]) ++ hr) := by rw [List.append_assoc]; exact holds_star1.1 h1
  refine (h hr w h2).mono fun _ w' ⟨u, h', he, ⟨hu, hh'⟩, hH, hS⟩ => ⟨u, _, he, ⟨hu, rfl⟩, ?_, hS⟩
  subst hh'
  have h3 : Holds w' (L ++ (T :: hr)) := by have := hH; rw [List.append_assoc] at this; exact this
  exact (holds_star1.2 h3).perm (.swap _ _ _)
section
variable {S : Res}
set_option maxHeartbeats 1000000 in
set_option maxRecDepth 100000 in
theorem may_ct {T : Res} {jv pv ov : Value} {y : Yard} {n i bo : Nat} {orders : List (List Key)} (hy : yardR T [jv, pv] y) (hf : Fit y) (hn : y.procs.length = n) (hi : i < n) (hok : 0 ≤ (y.pr i).job → JobOk y n i)
    (ho : Row S 1 (nR S 2 kC) ov orders) (hol : orders.length = n) (hol2 : ∀ l ∈ orders, l.length ≤ 1000000) :
    Reads Tryz.prog 87 (#[] ++ [.agg #[jv, pv], .int .i64 i].toArray ++ #[.pointer (some ⟨bo, 0, none⟩)]) [T, Res.star [pt bo (cl [ov] 92), S]] (.bool (mayE orders y i)) := by
  refine reads_snoc (L := [pt bo (cl [ov] 92), S]) ?_
  have hsp := putsE_spot hn (by omega) hok
  have hpc := puts_ct hy hf hn hi hok
  have hme : mayE orders y i = (!(putsE y i).2 || (decide (((y.pr (putsE y i).1.toNat).puts.length : Int) < ((orders.getD (putsE y i).1.toNat []).length : Int)) && ((orders.getD (putsE y i).1.toNat []).getD (y.pr (putsE y i).1.toNat).puts.length (0, 0) == ((i : Int), (y.pr i).made)))) := rfl
  rw [hme]
  generalize putsE y i = pe at hsp hpc ⊢
  obtain ⟨pt1, is⟩ := pe
  simp only at hsp hpc ⊢
  obtain ⟨to, rfl⟩ := Int.eq_ofNat_of_zero_le hsp.1
  have hto : to < n := by omega
  rw [Int.toNat_natCast]
  obtain ⟨_, _, he0, hj, hp⟩ := id hy
  simp only [List.cons.injEq, and_true] at he0
  obtain ⟨rfl, rfl⟩ := he0
  subst hn
  obtain ⟨b, off, cp2, us, rfl, hus, hrd, lv, pv', hv, dv, rfl, hL, hP, hH, hD⟩ := hp.at (List.getElem?_eq_getElem hto)
  obtain ⟨b', off', cp2', us', hv', hus', hrd', lv', pv'', hv'', dv', rfl, _, _, _, _⟩ := hp.at (List.getElem?_eq_getElem hi)
  simp only [Value.slice.injEq, Option.some.injEq, Addr.mk.injEq, and_true, true_and] at hv'
  obtain ⟨⟨rfl, rfl⟩, rfl⟩ := hv'
  obtain ⟨ap', cp', rfl, _⟩ := id hP
  have hot : to < orders.length := by omega
  obtain ⟨ob, oo, oc, ou, rfl, hrdo, ov2, hou, hO⟩ := ho.at1 (List.getElem?_eq_getElem hot)
  simp only [List.cons.injEq, and_true] at hou
  subst hou
  obtain ⟨oa, oc2, rfl, _⟩ := id hO
  have hog : orders.getD to [] = orders[to] := by rw [List.getD_eq_getElem?_getD, List.getElem?_eq_getElem hot]; rfl
  rw [hog]
  rw [← pr_get hto] at hrd hP
  rw [← pr_get hi] at hrd'
  have hpl : (y.pr to).puts.length ≤ 1000000 := by rw [pr_get hto]; exact (hf.2.2 _ (List.getElem_mem hto)).2.1
  have hol3 := hol2 _ (List.getElem_mem hot)
  generalize (y.pr to) = q at *
  generalize hie : (y.pr i) = p at *
  generalize orders[to] = ol at *
  refine ct_of (n := 51) Tryz.func87 rfl rfl (len rfl) fun hr w0 => ?_
  refine cS (cR (st_bx rfl rfl fun b3 => ?_))
  refine sV (vA rfl) (sN (nK [1, 2, 3, 5] rfl (nT (cS (cR (sV (v_ldn rfl ld27 rfl rds_pt) ?_))))))
  refine sV (vM rfl) (st_clr rfl rfl en88 rfl (hpc) ?_)
  refine sV (vM rfl) (sV (v_extract rfl rfl) (sV (v_extract rfl rfl) (sV (vA rfl) (sV (vA rfl) (sN (nK [1, 2, 3, 5, 6, 7] rfl (nT (cS (cR (sV (vF rfl fa27_1 rfl) (sV (v_ldy rfl ld25) ?_)))))))))))
  refine sV (vM rfl) (sV (v_indexAddr (k := to) rfl rfl sl25 rfl hto rfl) (sV (vF rfl fa77_1 rfl) (sV (v_ldy rfl ld74) ?_)))
  refine sV (v_len rfl Tryz.underlying74) (sV (vA rfl) (sN (nK [1, 2, 3, 5, 6, 7, 8] rfl (nT (cS (cd_drawh (ork [(0, 2), (1, 2), (2, 2), (3, 2), (4, 1), (5, 2), (6, 2), (7, 1), (8, 2), (9, 2), (10, 2), (11, 1), (12, 2), (13, 2), (14, 1), (15, 2), (16, 2), (17, 1), (18, 2), (19, 2), (20, 1), (21, 2), (22, 2), (23, 2), (24, 1), (25, 2), (26, 1), (27, 2), (28, 2), (29, 2)] .nil) (fun _ => true) mixed (by kernel_rfl) ?_))))))
  refine dV rfl (vM rfl) (dV rfl (v_not rfl) (dV rfl (vM rfl) (dr_cut (k := 26) (d := 50) (v := .bool (!is || (decide ((q.puts.length : Int) < (ol.length : Int)) && (ol.getD q.puts.length (0, 0) == ((i : Int), p.made))))) (fun hcut => bool_want (b := (!is)) false (fun hg => ?_) (fun hg => ?_)) ?_)))
  · refine dp_sk rfl rfl rfl hg ?_
    refine dr_sk rfl rfl rfl hg ?_
    refine dp_sk rfl rfl rfl hg ?_
    refine dp_sk rfl rfl rfl hg ?_
    refine dr_sk rfl rfl rfl hg ?_
    refine dp_sk rfl rfl rfl hg ?_
    refine dp_sk rfl rfl rfl hg ?_
    refine dp_sk rfl rfl rfl hg ?_
    refine dr_sku rfl rfl rfl ?_
    refine dp_sku rfl rfl rfl ?_
    refine dp_sku rfl rfl rfl ?_
    refine dr_sku rfl rfl rfl ?_
    refine dp_sku rfl rfl rfl ?_
    refine dp_sku rfl rfl rfl ?_
    refine dr_sku rfl rfl rfl ?_
    refine dp_sku rfl rfl rfl ?_
    refine dp_sku rfl rfl rfl ?_
    refine dr_sku rfl rfl rfl ?_
    refine dp_sku rfl rfl rfl ?_
    refine dp_sku rfl rfl rfl ?_
    refine dp_sku rfl rfl rfl ?_
    refine dr_sku rfl rfl rfl ?_
    refine dp_sku rfl rfl rfl ?_
    refine dr_sku rfl rfl rfl ?_
    refine dp_sk rfl rfl rfl hg ?_
    refine dV rfl (v_pick_true (bool_ev rfl hg) rfl) ?_
    exact hcut _ (ssub_head (by first | rfl | (rw [hg]; rfl) | simp_all) (uS rfl (uS rfl (uS rfl (uS rfl (uS rfl (uS rfl (uS rfl (uS rfl (uS rfl (uS rfl (uS rfl (uS rfl (uS rfl (uS rfl (uS rfl (uS rfl (uS rfl (uS rfl (uS rfl (uS rfl (uS rfl (uS rfl (uS rfl (uS rfl (uS rfl (ssub_refl)))))))))))))))))))))))))))
  · skip
    refine dp_vg rfl rfl (bG rfl hg) (vM rfl) (dr_vg rfl rfl (bG rfl hg) (v_ldy rfl ld92) ?_)
    refine dp_vg rfl rfl (bG rfl hg) (vM rfl) (dp_vg rfl rfl (bG rfl hg) (v_indexAddr (k := to) rfl rfl sl92 rfl hot rfl) (dr_vg rfl rfl (bG rfl hg) (v_ldy rfl ld74) ?_))
    refine dp_vg rfl rfl (bG rfl hg) (v_len rfl Tryz.underlying74) (dp_vg rfl rfl (bG rfl hg) (v_lss rfl rfl) (dp_vg rfl rfl (bG rfl hg) (vM rfl) (dr_cut (k := 17) (d := 49) (v := .bool (decide ((q.puts.length : Int) < (ol.length : Int)) && (ol.getD q.puts.length (0, 0) == ((i : Int), p.made)))) (fun hcut => bool_want (b := decide ((q.puts.length : Int) < (ol.length : Int))) true (fun hg1 => ?_) (fun hg1 => ?_)) ?_)))
    · refine dr_sk rfl rfl rfl hg1 ?_
      refine dp_sk rfl rfl rfl hg1 ?_
      refine dp_sk rfl rfl rfl hg1 ?_
      refine dr_sk rfl rfl rfl hg1 ?_
      refine dp_sk rfl rfl rfl hg1 ?_
      refine dp_sk rfl rfl rfl hg1 ?_
      refine dr_sk rfl rfl rfl hg1 ?_
      refine dp_sk rfl rfl rfl hg1 ?_
      refine dp_sk rfl rfl rfl hg1 ?_
      refine dr_sk rfl rfl rfl hg1 ?_
      refine dp_sk rfl rfl rfl hg1 ?_
      refine dp_sk rfl rfl rfl hg1 ?_
      refine dp_sk rfl rfl rfl hg1 ?_
      refine dr_sk rfl rfl rfl hg1 ?_
      refine dp_sk rfl rfl rfl hg1 ?_
      refine dr_sk rfl rfl rfl hg1 ?_
      refine dp_vg rfl rfl (bG rfl hg) (vP (bool_ev rfl hg1) rfl) ?_
      exact hcut _ (ssub_head (by first | rfl | (rw [hg1]; rfl) | simp_all) (uS rfl (uS rfl (uS rfl (uS rfl (uS rfl (uS rfl (uS rfl (uS rfl (uS rfl (uS rfl (uS rfl (uS rfl (uS rfl (uS rfl (uS rfl (uS rfl (ssub_refl))))))))))))))))))
    · skip
      have hlt : q.puts.length < ol.length := by have := of_decide_eq_true hg1; omega
      obtain ⟨kb, ko, kc, ku, hkv, hku, hkrd, rfl⟩ := hO.at (List.getElem?_eq_getElem hlt)
      simp only [Value.slice.injEq] at hkv
      obtain ⟨rfl, _, rfl⟩ := hkv
      have hgd : ol.getD q.puts.length (0, 0) = ol[q.puts.length] := by rw [List.getD_eq_getElem?_getD, List.getElem?_eq_getElem hlt]; rfl
      refine dr_vg rfl rfl (bG rfl hg1) (v_ldy rfl ld92) ?_
      refine dp_vg rfl rfl (bG rfl hg1) (vM rfl) (dp_vg rfl rfl (bG rfl hg1) (v_indexAddr (k := to) rfl rfl sl92 rfl hot rfl) (dr_vg rfl rfl (bG rfl hg1) (v_ldy rfl ld74) ?_))
      refine dp_vg rfl rfl (bG rfl hg1) (vM rfl) (dp_vg rfl rfl (bG rfl hg1) (v_indexAddr (k := q.puts.length) rfl rfl sl74 rfl hlt rfl) (dr_vg rfl rfl (bG rfl hg1) (v_ldn rfl ld79 hku hkrd) ?_))
      refine dp_vg rfl rfl (bG rfl hg1) (vM rfl) (dp_vg rfl rfl (bG rfl hg1) (vF rfl fa27_1 rfl) (dr_vg rfl rfl (bG rfl hg1) (v_ldy rfl ld25) ?_))
      refine dp_vg rfl rfl (bG rfl hg1) (vM rfl) (dp_vg rfl rfl (bG rfl hg1) (v_indexAddr (k := i) rfl rfl sl25 rfl hi rfl) (dp_vg rfl rfl (bG rfl hg1) (vF rfl fa77_7 rfl) (dr_vg rfl rfl (bG rfl hg1) (v_ldy rfl ld3) ?_)))
      refine dp_vg rfl rfl (bG rfl hg1) (v_build (cells := kC ((i : Int), p.made)) rfl (fun _ => by kernel_rfl)) ?_
      refine dr_vg rfl rfl (bG rfl hg1) (v_is (v' := .bool (ol.getD q.puts.length (0, 0) == ((i : Int), p.made))) (by rw [hgd]) (v_eql_T eq79 rfl rfl)) ?_
      refine dp_vg rfl rfl (bG rfl hg) (v_pick_true (bool_ev rfl hg1) rfl) ?_
      exact hcut _ (ssub_head (by first | rfl | (rw [hg1]; rfl) | simp_all) (uS rfl (uS rfl (uS rfl (uS rfl (uS rfl (uS rfl (uS rfl (uS rfl (uS rfl (uS rfl (uS rfl (uS rfl (uS rfl (uS rfl (uS rfl (uS rfl (ssub_refl))))))))))))))))))
    refine dV rfl (vP (bool_ev rfl hg) rfl) ?_
    exact hcut _ (ssub_head (by first | rfl | (rw [hg]; rfl) | simp_all) (by repeat (first | exact ssub_refl | refine uS rfl ?_)))
  refine dV rfl (vA rfl) (dr_nil (nK [5] rfl (nT (cT ?_))))
  exact xt_rt rfl ⟨rfl, rfl⟩
end
end Go.Wt
namespace Go.Wt
open Go Go.Ck Go.Proofs Go.Proofs.YtboepbencndobaaGreat Fx
attribute [local irreducible] St Cd Xt Nx DrL LsW
def tooMany (orders : List (List Key)) : Bool := decide (12 < (orders.length : Int)) || !orders.all fun l => decide ((l.length : Int) ≤ 400)
def replayE (jobs : List (List Move)) (orders : List (List Key)) (steps : Int) : YE :=
  if tooMany orders = true then (Yard.nil, 3)
  else if firstE [check jobs orders.length, cntE steps] ≠ 0 then (Yard.nil, firstE [check jobs orders.length, cntE steps])
  else if (Yard.gos (mayE orders) steps.toNat (Yard.new jobs orders.length)).2 ≠ 0 then (Yard.nil, (Yard.gos (mayE orders) steps.toNat (Yard.new jobs orders.length)).2)
  else if (Yard.gos (mayE orders) steps.toNat (Yard.new jobs orders.length)).1.ready ≠ [] then (Yard.nil, 11)
  else if ((List.range orders.length).all fun i => decide ((orders.getD i []).length ≤ ((Yard.gos (mayE orders) steps.toNat (Yard.new jobs orders.length)).1.pr i).puts.length)) = false then (Yard.nil, 11)
  else ((Yard.gos (mayE orders) steps.toNat (Yard.new jobs orders.length)).1, 0)
theorem gos_live (may : Yard → Nat → Bool) : ∀ (n : Nat) {y : Yard} {M : Nat}, Live y M → (Yard.gos may n y).2 = 0 → Live (Yard.gos may n y).1 (M + n) ∧ (Yard.gos may n y).1.procs.length = y.procs.length ∧ (Yard.gos may n y).1.jobs = y.jobs
  | n, y, M, H, h0 => by
    rw [gos_eq] at h0 ⊢
    cases hf : y.ready.find? (may y) with
    | none => exact ⟨⟨H.hist, H.nf, H.hm.le (by omega)⟩, rfl, rfl⟩
    | some i =>
      rw [hf] at h0
      have hm := List.mem_of_find?_eq_some hf
      have h2 : i ∈ (List.range y.procs.length).filter fun i => (y.pr i).goes := hm
      rw [List.mem_filter] at h2
      have hi := List.mem_range.1 h2.1
      cases n with
      | zero => cases h0
      | succ n =>
        simp only at h0 ⊢
        by_cases hs : (y.stepE i).2 = 0
        · rw [if_pos hs] at h0 ⊢
          obtain ⟨a, b, c⟩ := gos_live may n (H.stepE hi h2.2 hs) h0
          exact ⟨⟨a.hist, a.nf, a.hm.le (by omega)⟩, b.trans (stepE_len H hi h2.2 hs), c.trans (stepE_jobs hs)⟩
        · rw [if_neg hs] at h0; exact absurd h0 hs
section
variable {S : Res}
set_option maxRecDepth 100000 in
theorem short_ct {us : Value} {l : List Key} (h : nR S 2 kC [us] l) : Reads Tryz.prog 84 (#[] ++ [us].toArray ++ #[]) [S] (.bool (decide ((l.length : Int) ≤ 400))) := by
  obtain ⟨v, hv, hr⟩ := h
  simp only [List.cons.injEq, and_true] at hv
  subst hv
  obtain ⟨a, c, rfl, _⟩ := id hr
  refine ct_of (n := 6) Tryz.func84 rfl rfl (len rfl) fun hr w0 => ?_
  refine cS (cR (sV (vA rfl) (sN (nT (cS (cR (sV (vM rfl) (sV (v_len rfl Tryz.underlying74) (sV (v_leq rfl rfl) (sV (vA rfl) (sN (nK [2] rfl (nT (cT ?_))))))))))))))
  exact xt_rt rfl ⟨rfl, rfl⟩
set_option maxHeartbeats 2000000 in
set_option maxRecDepth 100000 in
theorem Replay_ct {S2 : Res} {jv ov : Value} {jobs : List (List Move)} {orders : List (List Key)} {steps : Int} (hj : Row S2 1 (jobR S2) jv jobs) (hf : Fits jobs) (ho : Row S 1 (nR S 2 kC) ov orders) (hol : orders.length ≤ 1000000) (hol2 : ∀ l ∈ orders, l.length ≤ 1000000) :
    CtN Tryz.prog 40 #[jv, ov, .int .i64 steps] [S2, S] fun u T => ∃ ys', u = .tuple #[.agg ys'.toArray, .int .i64 (replayE jobs orders steps).2] ∧ yardR T ys' (replayE jobs orders steps).1 := by
  obtain ⟨oa, oc, hov, _⟩ := id ho
  subst hov
  unfold replayE
  refine ct_ofM (n := 72) Tryz.func40 rfl rfl (len rfl) fun hr w0 => ?_
  refine cS (cR (st_bx rfl rfl fun b4 => ?_))
  refine st_alc al27 fun b6 => ?_
  refine st_alc al28 fun b7 => ?_
  refine sN (nK [0, 2, 4, 6, 7] rfl (nT (cS (cS (cR (sV (v_ldy rfl ld92) ?_))))))
  refine sV (v_len rfl Tryz.underlying92) (sV (v_gtr rfl rfl) (sV (vM rfl) (st_cut (k := 8) (d := 19) (v := .bool (decide (12 < (orders.length : Int)) || !orders.all fun l => decide ((l.length : Int) ≤ 400))) (fun hcut => bool_want (b := decide (12 < (orders.length : Int))) false (fun hg => ?_) (fun hg => ?_)) ?_)))
  · refine st_sk rfl rfl hg ?_
    refine st_sk rfl rfl hg ?_
    refine st_sk rfl rfl hg ?_
    refine sV (v_pick_true (bool_ev rfl hg) rfl) ?_
    exact hcut _ (ssub_head (by first | rfl | (rw [hg]; rfl) | simp_all) (uS rfl (uS rfl (uS rfl (ssub_refl)))))
  · skip
    refine st_vg rfl (bG rfl hg) (v_ldy rfl ld92) ?_
    refine st_clrg rfl (bG rfl hg) rfl rfl en83 rfl (al83_ct (g := fun l : List Key => decide ((l.length : Int) ≤ 400)) ho hol en84 fun x hx u hu => short_ct hu) ?_
    refine st_vg rfl (bG rfl hg) (v_not rfl) (sV (vP (bool_ev rfl hg) rfl) ?_)
    exact hcut _ (ssub_head (by first | rfl | (rw [hg]; rfl) | simp_all) (uS rfl (uS rfl (uS rfl (ssub_refl)))))
  refine sN (nK [0, 2, 4, 6, 7, 19] rfl (nT (cC rfl (fun h1 => ?_) (fun h1 => ?_))))
  · skip
    have h1' : tooMany orders = true := h1
    rw [if_pos h1']
    refine cS (cR (sV (v_build (cells := [.slice none 0 0, .slice none 0 0]) rfl (fun _ => by kernel_rfl)) ?_))
    refine st_stoW rfl rfl sz27 rfl rfl ?_
    refine st_sto rfl rfl sz28 ?_
    refine sN (nK [0, 2, 4, 6, 7] rfl (nT (cT (xR (xt_vw (vw_pure (φ := True) trivial) (xt_retMV (bs := []) (k := pt b6 (cl [.slice none 0 0, .slice none 0 0] 27) :: pt b7 (cl [.int .i64 3] 28) :: ([pureR True, S2, S] ++ hr)) rfl (.cellN rfl ld27 rfl (by repeat (first | exact Sel.here | apply Sel.there)) (.cell1 rfl ld28 (at_there (at_here (rd_cl rfl))) .nil)) ⟨pureR True, rfl, [.slice none 0 0, .slice none 0 0], rfl, nil_yard _⟩ ?_ ?_))))))
    · exact Sub.cons (Sub.cons (Sub.refl _))
    · unfold marks
      simp only [List.cons_append, List.nil_append, List.map_nil]
      exact (by repeat (first | exact Sub.refl _ | exact Sub.nil _ | refine Sub.sel (by repeat (first | exact Sel.here | apply Sel.there)) ?_ | apply Sub.cons))
  · skip
    have h1' : tooMany orders = false := h1
    rw [if_neg (by simp [h1'])]
    have hn12 : orders.length ≤ 12 := by
      simp only [Bool.or_eq_false_iff, decide_eq_false_iff_not] at h1
      omega
    refine cK (xT (cS (cR (sV (vM rfl) (sV (v_ldy rfl ld92) ?_)))))
    refine sV (v_len rfl Tryz.underlying92) (st_cl rfl rfl en14 rfl (new_ct hj hf (by unfold I64; omega)) ?_)
    rintro u h' ⟨T0, rfl, ys0, rfl, hy0⟩
    obtain ⟨ja, pa, rfl, hc1, hc2⟩ := yardR_cells hy0
    refine sV (vM rfl) (sV (v_extract rfl rfl) (sV (v_extract rfl rfl) (st_alc al27 fun b8 => ?_)))
    refine st_stoW rfl rfl sz27 rfl (by simp [hc1, hc2]) ?_
    refine sV (vA rfl) (sN (nK [2, 4, 6, 7, 8, 9] rfl (nT (cS (cS (cR (sV (vM rfl) (sV (vM rfl) (st_clr rfl rfl en85 rfl (counted_ct steps) ?_)))))))))
    generalize hcnt : cntE steps = c1
    generalize hchk : check jobs orders.length = e1
    refine st_buildSlice (cells := [.int .i64 e1, .int .i64 c1]) rfl Tryz.underlying166 inf28 rfl rfl (by kernel_rfl) (ltn rfl) fun b31 => ?_
    refine st_cl rfl rfl en62 rfl (first_ct (S := pt b31 (cl [.int .i64 e1, .int .i64 c1] 28)) (l := [e1, c1]) (row_pt rfl (by simp [iC]) rfl (by decide)) (by simp)) ?_
    rintro u h' ⟨rfl, rfl⟩
    refine sV (vA rfl) (sN (nK [2, 4, 6, 7, 8, 9] rfl (nT (cS (cR (sV (vM rfl) (sV (v_neq rfl rfl) (sN (nK [2, 4, 6, 7, 8, 9, 34] rfl (nT (cC rfl (fun h2 => ?_) (fun h2 => ?_))))))))))))
    · skip
      have h2' : firstE [e1, c1] ≠ 0 := by simpa using h2
      rw [if_pos h2']
      refine cS (cR (sV (v_build (cells := [.slice none 0 0, .slice none 0 0]) rfl (fun _ => by kernel_rfl)) ?_))
      refine sV (vM rfl) (st_stoW rfl rfl sz27 rfl rfl ?_)
      refine st_sto rfl rfl sz28 ?_
      refine sN (nK [2, 4, 6, 7, 8, 9] rfl (nT (cT (xR (xt_vw (vw_pure (φ := True) trivial) (xt_retMV (bs := []) (k := pt b6 (cl [.slice none 0 0, .slice none 0 0] 27) :: pt b7 (cl [.int .i64 (firstE [e1, c1])] 28) :: ([pureR True, S2, S] ++ hr)) rfl (.cellN rfl ld27 rfl (by repeat (first | exact Sel.here | apply Sel.there)) (.cell1 rfl ld28 (at_there (at_here (rd_cl rfl))) .nil)) ⟨pureR True, rfl, [.slice none 0 0, .slice none 0 0], rfl, nil_yard _⟩ ?_ ?_))))))
      · exact Sub.cons (Sub.cons (Sub.refl _))
      · unfold marks
        simp only [List.cons_append, List.nil_append, List.map_nil]
        exact (by repeat (first | exact Sub.refl _ | exact Sub.nil _ | refine Sub.sel (by repeat (first | exact Sel.here | apply Sel.there)) ?_ | apply Sub.cons))
    · skip
      have h2' : firstE [e1, c1] = 0 := by simpa using h2
      rw [if_neg (fun h => h h2')]
      obtain ⟨he0, hc0⟩ := first2_zero h2'
      rw [← hcnt] at hc0
      rw [← hchk] at he0
      obtain ⟨hs0, hs1⟩ := cnt_zero hc0
      obtain ⟨n, rfl⟩ := Int.eq_ofNat_of_zero_le hs0
      rw [Int.toNat_natCast]
      have hnew : newY jobs orders.length = Yard.new jobs orders.length := by unfold newY; rw [if_pos he0, Int.toNat_natCast]
      rw [hnew] at hy0
      have hL0 := Live.new he0
      have hnl : (Yard.new jobs orders.length).procs.length = orders.length := by simp [Yard.new]
      generalize hyn : Yard.new jobs orders.length = y0 at *
      have hmay : ∀ (z : Yard) (T : Res) (jv pv : Value) (i m : Nat), Live z m → z.procs.length = y0.procs.length → z.jobs = y0.jobs → m ≤ 900000 → yardR T [jv, pv] z → i < z.procs.length → Reads Tryz.prog 87 (#[] ++ [.agg #[jv, pv], .int .i64 i].toArray ++ #[.pointer (some ⟨b4, 0, none⟩)]) [T, Res.star [pt b4 (cl [.slice oa orders.length oc] 92), S]] (.bool (mayE orders z i)) := fun z T jv pv i m hz hzn _ hm hyz hi =>
        may_ct (n := orders.length) hyz (hz.fit (by omega)) (hzn.trans hnl) (by omega) (fun h => right_job hz.right (hzn.trans hnl) (by omega) h) ho rfl hol2
      refine cd_pv (pv_pack (L := [pt b4 (cl [.slice oa orders.length oc] 92), S])) ?_
      refine cK (xT (cS (cR (sV (v_ldn rfl ld27 rfl rds_pt) ?_))))
      refine sV (vM rfl) (sV (v_makeFunc rfl rfl) (st_cl rfl rfl en86 rfl (goes_ct (T0 := T0) (S := Res.star [pt b4 (cl [.slice oa orders.length oc] 92), S]) (mayE orders) hy0 hL0 (by omega) en87 hmay) ?_))
      rintro u h' ⟨T, ys', rfl, rfl, hz⟩
      obtain ⟨ja2, pa2, rfl, hd1, hd2⟩ := yardR_cells hz
      have hgl := gos_live (mayE orders) n hL0
      generalize hge : Yard.gos (mayE orders) n y0 = ge at *
      obtain ⟨z, e2⟩ := ge
      simp only at hz hgl ⊢
      simp only [List.cons_append, List.nil_append]
      refine st_pv (pv_unpack (L := [pt b4 (cl [.slice oa orders.length oc] 92), S])) ?_
      refine sV (vM rfl) (sV (v_extract rfl rfl) (sV (v_extract rfl rfl) (st_stoW rfl rfl sz27 rfl (by simp [hd1, hd2]) ?_)))
      refine sV (vA rfl) (sN (nK [4, 6, 7, 8, 9] rfl (nT (cS (cS (cR (sV (vM rfl) (sV (v_neq rfl rfl) (sN (nK [4, 6, 7, 8, 9, 45] rfl (nT (cC rfl (fun h3 => ?_) (fun h3 => ?_)))))))))))))
      · skip
        have h3' : e2 ≠ 0 := by simpa using h3
        rw [if_pos h3']
        refine cS (cR (sV (v_build (cells := [.slice none 0 0, .slice none 0 0]) rfl (fun _ => by kernel_rfl)) ?_))
        refine sV (vM rfl) (st_stoW rfl rfl sz27 rfl rfl ?_)
        refine st_sto rfl rfl sz28 ?_
        refine sN (nK [4, 6, 7, 8] rfl (nT (cT (xR (xt_vw (vw_pure (φ := True) trivial) (xt_retMV (bs := []) (k := pt b6 (cl [.slice none 0 0, .slice none 0 0] 27) :: pt b7 (cl [.int .i64 e2] 28) :: ([pureR True, S2, S] ++ hr)) rfl (.cellN rfl ld27 rfl (by repeat (first | exact Sel.here | apply Sel.there)) (.cell1 rfl ld28 (at_there (at_here (rd_cl rfl))) .nil)) ⟨pureR True, rfl, [.slice none 0 0, .slice none 0 0], rfl, nil_yard _⟩ ?_ ?_))))))
        · exact Sub.cons (Sub.cons (Sub.refl _))
        · unfold marks
          simp only [List.cons_append, List.nil_append, List.map_nil]
          exact (by repeat (first | exact Sub.refl _ | exact Sub.nil _ | refine Sub.sel (by repeat (first | exact Sel.here | apply Sel.there)) ?_ | apply Sub.cons))
      · skip
        have h3' : e2 = 0 := by simpa using h3
        rw [if_neg (fun h => h h3')]
        obtain ⟨hzL, hzn, hzj⟩ := hgl h3'
        have hzf := hzL.fit (by omega)
        obtain ⟨_, _, heq, hzj2, hzp⟩ := id hz
        simp only [List.cons.injEq, and_true] at heq
        obtain ⟨rfl, rfl⟩ := heq
        refine cK (xT (cS (cS (cR (sV (v_ldn rfl ld27 rfl rds_pt) ?_)))))
        refine st_cl rfl rfl en72 rfl (going_ct (jv := ja2) (pv := pa2)) ?_
        rintro u h' ⟨d1, rfl, rfl⟩
        refine sN (nK [4, 6, 7, 8, 49] rfl (nT (cd_block ?_)))
        simp only [List.cons_append, List.nil_append]
        refine cd_pv (pv_drop (r := pt b31 (cl [.int .i64 e1, .int .i64 c1] 28))) ?_
        simp only [List.nil_append]
        refine cd_range' rfl en112 fun yl db rec hst hpe hps has hbo hkn2 => ?_
        refine ⟨_, Ct.perm (going1_ct (σ := Unit) (S := T) (yl := yl) (jv := ja2) (b1 := d1) (fun _ => pt yl (.loop rec) :: pt db (.deferred (some [])) :: pt b4 (cl [.slice oa orders.length oc] 92) :: pt b8 (cl [ja2, pa2] 27) :: pt b6 (cl [.slice none 0 0, .slice none 0 0] 27) :: pt b7 (cl [.int .i64 0] 28) :: S2 :: S :: hr)
          (fun i _ => ∀ j, j < i → (z.pr j).goes = false) (fun i h' => i < z.procs.length ∧ (z.pr i).goes = true ∧ ∃ rec' : Loop, rec'.state ≠ .busy ∧ rec'.pending = some .ret ∧ h' = pt yl (.loop rec') :: pt db (.deferred (some [])) :: pt b6 (cl [.slice none 0 0, .slice none 0 0] 27) :: pt b7 (cl [.int .i64 11] 28) :: S2 :: S :: hr) () (fun j hj => absurd hj (Nat.not_lt_zero _)) hzp hzf.2.1 ?_ ?_) ?_, ?_⟩
        · rintro i ⟨⟩ hi hg hb
          rw [← pr_get hi] at hg
          refine Yc.perm (yc_of (n := 72) (rec := rec) (args := [.int .i64 i]) (hf := T :: pt db (.deferred (some [])) :: pt b4 (cl [.slice oa orders.length oc] 92) :: pt b8 (cl [ja2, pa2] 27) :: pt b6 (cl [.slice none 0 0, .slice none 0 0] 27) :: pt b7 (cl [.int .i64 0] 28) :: S2 :: S :: hr) (by rw [hps]; rfl) hkn2 (by rw [hps]; decide) ?_) (.swap _ _ _)
          intro hr2 w1
          rw [has, hps, hbo]
          simp only [List.cons_append, List.nil_append]
          refine cK (xt_mid rfl (by repeat (first | exact Sel.here | apply Sel.there)) (by first | rfl | assumption) ?_)
          refine cd_block (cS (cR (sV (v_build (cells := [.slice none 0 0, .slice none 0 0]) rfl (fun _ => by kernel_rfl)) ?_)))
          refine st_stoW rfl rfl sz27 rfl rfl ?_
          refine st_sto rfl rfl sz28 ?_
          refine sN (nK [6, 7] rfl (nT (cT (xt_ret_block (xt_round_ret (by repeat (first | exact Sel.here | apply Sel.there)) (.inr ⟨rfl, _, rfl, hi, hg, { ({ rec with state := .busy } : Loop) with state := .done, pending := some .ret }, by simp, rfl, rfl⟩) ?_)))))
          exact (by repeat (first | exact Sub.refl _ | exact Sub.nil _ | refine Sub.sel (by repeat (first | exact Sel.here | apply Sel.there)) ?_ | apply Sub.cons))
        · rintro i ⟨⟩ hi hg hb j hj
          rw [← pr_get hi] at hg
          by_cases hji : j = i
          · subst hji; exact hg
          · exact hb j (by omega)
        · exact (by repeat (first | exact Pm.refl | refine Pm.cons (by repeat (first | exact Sel.here | apply Sel.there)) ?_) : Pm _ _).perm
        · rintro v' h' ⟨rfl, (⟨⟨⟩, hnone, rfl⟩ | ⟨i, h0, ⟨hi, hg, rec', hbusy, hpend, rfl⟩, rfl⟩)⟩
          · have hrd0 : z.ready = [] := by
              unfold Yard.ready
              rw [List.filter_eq_nil_iff]
              intro j hj
              rw [hnone j (List.mem_range.1 hj)]; simp
            rw [if_neg (fun h => h hrd0)]
            refine ⟨rec, _, (by repeat (first | exact Sel.here | apply Sel.there)), (by rw [hst]; simp), ?_⟩
            rw [hpe]
            dsimp only
            refine xB (xT (cS (cS (cR (sV (v_ldy rfl ld92) ?_)))))
            refine sV (v_len rfl Tryz.underlying92) (sV (vM rfl) (sN (nK [6, 7, 8, 52, 53, 54] rfl (nT (cd_block (cd_loopD (σ := Nat) (fun _ => [mk db]) (fun i => [(6, .pointer (some ⟨b6, 0, none⟩)), (7, .pointer (some ⟨b7, 0, none⟩)), (8, .pointer (some ⟨b8, 0, none⟩)), (52, .slice oa orders.length oc), (53, .int .i64 orders.length), (54, .int .i64 (i : Nat))]) (fun _ => pt b8 (cl [ja2, pa2] 27) :: T :: pt db (.deferred (some [])) :: pt b6 (cl [.slice none 0 0, .slice none 0 0] 27) :: pt b7 (cl [.int .i64 0] 28) :: S2 :: S :: hr) (fun i => i ≤ orders.length ∧ ∀ j, j < i → (orders.getD j []).length ≤ (z.pr j).puts.length) (fun i => orders.length - i) 0 ⟨Nat.zero_le _, fun j hj => absurd hj (Nat.not_lt_zero _)⟩ rfl ⟨rfl, rfl, rfl, rfl, rfl, rfl, trivial⟩ (by repeat (first | exact Sub.refl _ | exact Sub.nil _ | refine Sub.sel (by repeat (first | exact Sel.here | apply Sel.there)) ?_ | apply Sub.cons)) ?_))))))
            rintro i ⟨hi, hall⟩
            refine cS (cR (sV (v_lss rfl rfl) (sN (nT (cS (cC rfl (fun hd => ?_) (fun hd => ?_)))))))
            · skip
              have hlt : i < orders.length := by simpa using hd
              have hiz : i < z.procs.length := by omega
              obtain ⟨ob, oo, oc2, ou, hov, hrdo, ov2, hou, hO⟩ := ho.at1 (List.getElem?_eq_getElem hlt)
              simp only [List.cons.injEq, and_true] at hou
              subst hou
              obtain ⟨oa3, oc3, rfl, _⟩ := id hO
              obtain ⟨b, off, cp2, us, hzv, hus, hrd, lv, pv', hv, dv, rfl, hL, hP, hH, hD⟩ := hzp.at (List.getElem?_eq_getElem hiz)
              subst hzv
              obtain ⟨ap', cp', rfl, _⟩ := id hP
              have hog : orders.getD i [] = orders[i] := by rw [List.getD_eq_getElem?_getD, List.getElem?_eq_getElem hlt]; rfl
              have hpz := pr_get hiz
              refine cK (xT (cS (cd_block (cS (cR (sV (vM rfl) (sV (v_indexAddr (k := i) (congrArg some hov) rfl sl92 rfl hlt rfl) (sV (v_ldy rfl ld74) ?_))))))))
              refine sV (vA rfl) (sV (vA rfl) (sN (nK [6, 7, 8, 10, 11, 52, 53, 54] rfl (nT (cS (cR (sV (vM rfl) (sV (v_len rfl Tryz.underlying74) (sV (vF rfl fa27_1 rfl) (sV (v_ldy rfl ld25) ?_))))))))))
              refine sV (vM rfl) (sV (v_indexAddr (k := i) rfl rfl sl25 rfl hiz rfl) (sV (vF rfl fa77_1 rfl) (sV (v_ldy rfl ld74) ?_)))
              refine sV (v_len rfl Tryz.underlying74) (sV (v_gtr rfl rfl) (sN (nK [6, 7, 8, 52, 53, 54, 68] rfl (nT (cC rfl (fun hgt => ?_) (fun hgt => ?_))))))
              · skip
                have hgt2 : ¬ (orders.getD i []).length ≤ (z.pr i).puts.length := by rw [hog, hpz]; have := of_decide_eq_true hgt; omega
                have hfa : ((List.range orders.length).all fun i => decide ((orders.getD i []).length ≤ (z.pr i).puts.length)) = false := by
                  rw [List.all_eq_false]
                  exact ⟨i, List.mem_range.2 hlt, by simpa using hgt2⟩
                rw [if_pos hfa]
                refine cS (cR (sV (v_build (cells := [.slice none 0 0, .slice none 0 0]) rfl (fun _ => by kernel_rfl)) ?_))
                refine st_stoW rfl rfl sz27 rfl rfl ?_
                refine st_sto rfl rfl sz28 ?_
                refine sN (nK [6, 7, 8, 52, 53, 54] rfl (nT (cT (xt_ret_block (xR (xR (xt_ret_block (xR (xt_vw (vw_pure (φ := True) trivial) (xt_retMV (bs := [db]) (k := pt b6 (cl [.slice none 0 0, .slice none 0 0] 27) :: pt b7 (cl [.int .i64 11] 28) :: ([pureR True, S2, S] ++ hr)) rfl (.cellN rfl ld27 rfl (by repeat (first | exact Sel.here | apply Sel.there)) (.cell1 rfl ld28 (at_there (at_here (rd_cl rfl))) .nil)) ⟨pureR True, rfl, [.slice none 0 0, .slice none 0 0], rfl, nil_yard _⟩ ?_ ?_))))))))))
                · exact Sub.cons (Sub.cons (Sub.refl _))
                · unfold marks
                  simp only [List.cons_append, List.nil_append, List.map_cons, List.map_nil]
                  exact (by repeat (first | exact Sub.refl _ | exact Sub.nil _ | refine Sub.sel (by repeat (first | exact Sel.here | apply Sel.there)) ?_ | apply Sub.cons))
              · skip
                have hgt2 : (orders.getD i []).length ≤ (z.pr i).puts.length := by rw [hog, hpz]; have := of_decide_eq_false hgt; omega
                refine cK (xB (xT (cR (sV (v_add rfl rfl (by unfold I64 at *; omega)) (sV (vM rfl) (sN (nK [6, 7, 8, 52, 53, 54] rfl (nx_xt (xt_againD (i + 1) ⟨hlt, fun j hj => ?_⟩ (by show _ - _ < _ - _; omega) rfl ⟨rfl, rfl, rfl, rfl, rfl, rfl, trivial⟩ ?_)))))))))
                · by_cases hji : j = i
                  · subst hji; exact hgt2
                  · exact hall j (by omega)
                · exact (by repeat (first | exact Sub.refl _ | exact Sub.nil _ | refine Sub.sel (by repeat (first | exact Sel.here | apply Sel.there)) ?_ | apply Sub.cons))
            · skip
              have hin : i = orders.length := by have : ¬ i < orders.length := by simpa using hd
                                                 omega
              have hfa : ((List.range orders.length).all fun i => decide ((orders.getD i []).length ≤ (z.pr i).puts.length)) = true := by
                rw [List.all_eq_true]
                intro j hj
                simpa using hall j (by rw [hin]; exact List.mem_range.1 hj)
              rw [if_neg (by rw [hfa]; simp)]
              refine cd_exit (xE (xE (xt_exit_block (xT (cS (cR (sV (v_ldn rfl ld27 rfl rds_pt) ?_)))))))
              refine st_stoW rfl rfl sz27 rfl (by simp [hd1, hd2]) ?_
              refine st_sto rfl rfl sz28 ?_
              refine sN (nK [6, 7] rfl (nT (cT (xt_retMV (bs := [db]) (k := pt b6 (cl [ja2, pa2] 27) :: pt b7 (cl [.int .i64 0] 28) :: ([T, S2, S] ++ hr)) rfl (.cellN rfl ld27 rfl (by repeat (first | exact Sel.here | apply Sel.there)) (.cell1 rfl ld28 (at_there (at_here (rd_cl rfl))) .nil)) ⟨T, rfl, [ja2, pa2], rfl, hz⟩ ?_ ?_))))
              · exact Sub.cons (Sub.cons (Sub.refl _))
              · unfold marks
                simp only [List.cons_append, List.nil_append, List.map_cons, List.map_nil]
                exact (by repeat (first | exact Sub.refl _ | exact Sub.nil _ | refine Sub.sel (by repeat (first | exact Sel.here | apply Sel.there)) ?_ | apply Sub.cons))
          · have hrd0 : z.ready ≠ [] := fun h => by
              have hm : i ∈ z.ready := by unfold Yard.ready; rw [List.mem_filter]; exact ⟨List.mem_range.2 hi, hg⟩
              rw [h] at hm; simp at hm
            rw [if_pos hrd0]
            refine ⟨rec', _, (by repeat (first | exact Sel.here | apply Sel.there)), hbusy, ?_⟩
            rw [hpend]
            dsimp only
            refine cT (xt_ret_block (xR (xt_vw (vw_pure (φ := True) trivial) (xt_retMV (bs := [db]) (k := pt b6 (cl [.slice none 0 0, .slice none 0 0] 27) :: pt b7 (cl [.int .i64 11] 28) :: ([pureR True, S2, S] ++ hr)) rfl (.cellN rfl ld27 rfl (by repeat (first | exact Sel.here | apply Sel.there)) (.cell1 rfl ld28 (at_there (at_here (rd_cl rfl))) .nil)) ⟨pureR True, rfl, [.slice none 0 0, .slice none 0 0], rfl, nil_yard _⟩ ?_ ?_))))
            · exact Sub.cons (Sub.cons (Sub.refl _))
            · unfold marks
              simp only [List.cons_append, List.nil_append, List.map_cons, List.map_nil]
              exact (by repeat (first | exact Sub.refl _ | exact Sub.nil _ | refine Sub.sel (by repeat (first | exact Sel.here | apply Sel.there)) ?_ | apply Sub.cons))
end
end Go.Wt
namespace Go.Wt
open Go Go.Ck Go.Proofs Go.Proofs.YtboepbencndobaaGreat Fx
attribute [local irreducible] St Cd Xt Nx DrL LsW
section
variable {S : Res} {v v' : Value}
set_option maxRecDepth 100000 in
theorem same28_ct {l l' : List Int} (hv : Row S 1 (eqC iC) v l) (hv' : Row S 1 (eqC iC) v' l') (hl : l.length ≤ 1000000) : Reads Tryz.prog 28 #[v, v'] [S] (.bool (l == l')) := by
  obtain ⟨a, cap, hv1, _⟩ := id hv
  obtain ⟨a', cap', hv1', _⟩ := id hv'
  rw [← eqBy_eq]
  refine ct_of (n := 26) Tryz.func28 rfl rfl (len rfl) fun hr w0 => ?_
  refine cS (cR (sV (vA rfl) (sN (nT (cS (cS (cR (sV (vM rfl) (sV (v_len (congrArg some hv1) Tryz.underlying43) (sV (vM rfl) (sV (v_len (congrArg some hv1') Tryz.underlying43) (sV (v_neq rfl rfl) (sN (nK [0, 1, 4, 10] rfl (nT (cC rfl (fun h0 => ?_) (fun h0 => ?_)))))))))))))))))
  · skip
    refine cS (cR (sV (vA rfl) (sN (nK [0, 1, 4] rfl (nT (cT (xR ?_)))))))
    rw [eqBy_len (fun e => by simp [e] at h0)]
    exact xt_rt rfl ⟨rfl, rfl⟩
  · skip
    refine cK (xT (cS (cS (cR (sV (vA rfl) (sN (nK [0, 1, 4, 5] rfl (nT (cd_block ?_)))))))))
    have hlen : l.length = l'.length := Int.ofNat.inj (show (l.length : Int) = (l'.length : Int) by simpa using h0)
    refine cd_lp (σ := Nat) (fun i => [(0, v), (1, v'), (5, .int .i64 (i : Nat))]) (fun _ => S :: hr) (fun i => i ≤ l.length ∧ ∀ (j : Nat) a b, j < i → l[j]? = some a → l'[j]? = some b → (a == b) = true) (fun i => l.length - i) 0 ⟨Nat.zero_le _, fun j a b hj => by omega⟩ ?_
    rintro i ⟨hi, hne⟩
    refine cS (cS (cR (sV (vM rfl) (sV (vM rfl) (sV (v_len (congrArg some hv1) Tryz.underlying43) (sV (v_lss rfl rfl) (sN (nK [0, 1, 5, 14] rfl (nT (cC rfl (fun hd => ?_) (fun hd => ?_)))))))))))
    · skip
      have hlt : i < l.length := by simpa using hd
      obtain ⟨b, o, cp2, us, hv2, hus, hrd, rfl⟩ := hv.at (List.getElem?_eq_getElem hlt)
      obtain ⟨b', o', cp2', us', hv2', hus', hrd', rfl⟩ := hv'.at (List.getElem?_eq_getElem (show i < l'.length by omega))
      have hr0 : Rd S ⟨b, o + i * 1, none⟩ (.int .i64 l[i]) := rds_at (k := 0) hrd rfl
      have hr1 : Rd S ⟨b', o' + i * 1, none⟩ (.int .i64 (l'[i]'(by omega))) := rds_at (k := 0) hrd' rfl
      refine cK (xT (cS (cd_block (cS (cd_drawh (ork [(0, 2), (1, 2), (2, 2), (3, 1), (4, 2), (5, 2), (6, 2), (7, 1), (8, 2)] .nil) (fun _ => true) mixed (by kernel_rfl) ?_)))))
      refine dV rfl (vM rfl) (dV rfl (vM rfl) (dV rfl (v_indexAddr (k := i) (congrArg some hv2) rfl sl43 rfl hlt rfl) (dr_v rfl (v_ldy rfl ld3) ?_)))
      refine dV rfl (vM rfl) (dV rfl (vM rfl) ?_)
      skip
      refine dV rfl (v_indexAddr (k := i) (congrArg some hv2') rfl sl43 rfl (by omega) rfl) (dr_v rfl (v_ldy rfl ld3) ?_)
      refine dV rfl (v_neq rfl rfl) (dr_nil (nK [0, 1, 5, 25] rfl (nT ?_)))
      skip
      skip
      refine cC rfl (fun he => ?_) (fun he => ?_)
      · skip
        refine cS (cR (sV (vA rfl) (sN (nK [0, 1, 4, 5] rfl (nT (cT (xt_ret_block (xR (xR (xt_ret_block (xR ?_)))))))))))
        rw [eqBy_false (List.getElem?_eq_getElem hlt) (List.getElem?_eq_getElem (show i < l'.length by omega)) (by simpa using he)]
        exact xt_rt rfl ⟨rfl, rfl⟩
      · skip
        refine cK (xB (xT (cR (sV (vM rfl) (sV (v_add rfl rfl (by unfold I64 at *; omega)) (sV (vA rfl) (sN (nK [0, 1, 5] rfl (nx_xt (xt_ag (i + 1) ⟨hlt, fun j x y hj hx hy => ?_⟩ (by show _ - _ < _ - _; omega)))))))))))
        by_cases hji : j = i
        · subst hji; rw [List.getElem?_eq_getElem hlt] at hx; rw [List.getElem?_eq_getElem (show j < l'.length by omega)] at hy; cases hx; cases hy; simpa using he
        · exact hne j x y (by omega) hx hy
    · skip
      refine cd_exit (xE (xE (xt_exit_block (xT (cS (cR (sV (vA rfl) (sN (nK [4] rfl (nT (cT ?_)))))))))))
      have hil : i = l.length := by have : ¬ i < l.length := by simpa using hd
                                    omega
      rw [eqBy_true hlen fun j x y hx hy => hne j x y (by have := (List.getElem?_eq_some_iff.1 hx).1; omega) hx hy]
      exact xt_rt rfl ⟨rfl, rfl⟩
set_option maxRecDepth 100000 in
theorem same42_ct {l l' : List Key} (hv : Row S 2 (eqC kC) v l) (hv' : Row S 2 (eqC kC) v' l') (hl : l.length ≤ 1000000) : Reads Tryz.prog 42 #[v, v'] [S] (.bool (l == l')) := by
  obtain ⟨a, cap, hv1, _⟩ := id hv
  obtain ⟨a', cap', hv1', _⟩ := id hv'
  rw [← eqBy_eq]
  refine ct_of (n := 26) Tryz.func42 rfl rfl (len rfl) fun hr w0 => ?_
  refine cS (cR (sV (vA rfl) (sN (nT (cS (cS (cR (sV (vM rfl) (sV (v_len (congrArg some hv1) Tryz.underlying74) (sV (vM rfl) (sV (v_len (congrArg some hv1') Tryz.underlying74) (sV (v_neq rfl rfl) (sN (nK [0, 1, 4, 10] rfl (nT (cC rfl (fun h0 => ?_) (fun h0 => ?_)))))))))))))))))
  · skip
    refine cS (cR (sV (vA rfl) (sN (nK [0, 1, 4] rfl (nT (cT (xR ?_)))))))
    rw [eqBy_len (fun e => by simp [e] at h0)]
    exact xt_rt rfl ⟨rfl, rfl⟩
  · skip
    refine cK (xT (cS (cS (cR (sV (vA rfl) (sN (nK [0, 1, 4, 5] rfl (nT (cd_block ?_)))))))))
    have hlen : l.length = l'.length := Int.ofNat.inj (show (l.length : Int) = (l'.length : Int) by simpa using h0)
    refine cd_lp (σ := Nat) (fun i => [(0, v), (1, v'), (5, .int .i64 (i : Nat))]) (fun _ => S :: hr) (fun i => i ≤ l.length ∧ ∀ (j : Nat) a b, j < i → l[j]? = some a → l'[j]? = some b → (a == b) = true) (fun i => l.length - i) 0 ⟨Nat.zero_le _, fun j a b hj => by omega⟩ ?_
    rintro i ⟨hi, hne⟩
    refine cS (cS (cR (sV (vM rfl) (sV (vM rfl) (sV (v_len (congrArg some hv1) Tryz.underlying74) (sV (v_lss rfl rfl) (sN (nK [0, 1, 5, 14] rfl (nT (cC rfl (fun hd => ?_) (fun hd => ?_)))))))))))
    · skip
      have hlt : i < l.length := by simpa using hd
      obtain ⟨b, o, cp2, us, hv2, hus, hrd, rfl⟩ := hv.at (List.getElem?_eq_getElem hlt)
      obtain ⟨b', o', cp2', us', hv2', hus', hrd', rfl⟩ := hv'.at (List.getElem?_eq_getElem (show i < l'.length by omega))
      skip
      refine cK (xT (cS (cd_block (cS (cd_drawh (ork [(0, 2), (1, 2), (2, 2), (3, 1), (4, 2), (5, 2), (6, 2), (7, 1), (8, 1)] .nil) (fun _ => true) mixed (by kernel_rfl) ?_)))))
      refine dV rfl (vM rfl) (dV rfl (vM rfl) (dV rfl (v_indexAddr (k := i) (congrArg some hv2) rfl sl74 rfl hlt rfl) (dr_v rfl (v_ldn rfl ld79 hus hrd) ?_)))
      refine dV rfl (vM rfl) (dV rfl (vM rfl) (dV rfl (v_indexAddr (k := i) (congrArg some hv2') rfl sl74 rfl (by omega) rfl) (dr_v rfl (v_ldn rfl ld79 hus' hrd') ?_)))
      refine dr_v rfl (v_neq_T eq79 rfl rfl) (dr_nil (nK [0, 1, 5, 25] rfl (nT (cC rfl (fun he => ?_) (fun he => ?_)))))
      · skip
        refine cS (cR (sV (vA rfl) (sN (nK [0, 1, 4, 5] rfl (nT (cT (xt_ret_block (xR (xR (xt_ret_block (xR ?_)))))))))))
        rw [eqBy_false (List.getElem?_eq_getElem hlt) (List.getElem?_eq_getElem (show i < l'.length by omega)) (by simpa using he)]
        exact xt_rt rfl ⟨rfl, rfl⟩
      · skip
        refine cK (xB (xT (cR (sV (vM rfl) (sV (v_add rfl rfl (by unfold I64 at *; omega)) (sV (vA rfl) (sN (nK [0, 1, 5] rfl (nx_xt (xt_ag (i + 1) ⟨hlt, fun j x y hj hx hy => ?_⟩ (by show _ - _ < _ - _; omega)))))))))))
        by_cases hji : j = i
        · subst hji; rw [List.getElem?_eq_getElem hlt] at hx; rw [List.getElem?_eq_getElem (show j < l'.length by omega)] at hy; cases hx; cases hy; simpa using he
        · exact hne j x y (by omega) hx hy
    · skip
      refine cd_exit (xE (xE (xt_exit_block (xT (cS (cR (sV (vA rfl) (sN (nK [4] rfl (nT (cT ?_)))))))))))
      have hil : i = l.length := by have : ¬ i < l.length := by simpa using hd
                                    omega
      rw [eqBy_true hlen fun j x y hx hy => hne j x y (by have := (List.getElem?_eq_some_iff.1 hx).1; omega) hx hy]
      exact xt_rt rfl ⟨rfl, rfl⟩
set_option maxRecDepth 100000 in
theorem same29_ct {l l' : List Did} (hv : Row S 5 (eqC dC) v l) (hv' : Row S 5 (eqC dC) v' l') (hl : l.length ≤ 1000000) : Reads Tryz.prog 29 #[v, v'] [S] (.bool (l == l')) := by
  obtain ⟨a, cap, hv1, _⟩ := id hv
  obtain ⟨a', cap', hv1', _⟩ := id hv'
  rw [← eqBy_eq]
  refine ct_of (n := 26) Tryz.func29 rfl rfl (len rfl) fun hr w0 => ?_
  refine cS (cR (sV (vA rfl) (sN (nT (cS (cS (cR (sV (vM rfl) (sV (v_len (congrArg some hv1) Tryz.underlying62) (sV (vM rfl) (sV (v_len (congrArg some hv1') Tryz.underlying62) (sV (v_neq rfl rfl) (sN (nK [0, 1, 4, 10] rfl (nT (cC rfl (fun h0 => ?_) (fun h0 => ?_)))))))))))))))))
  · skip
    refine cS (cR (sV (vA rfl) (sN (nK [0, 1, 4] rfl (nT (cT (xR ?_)))))))
    rw [eqBy_len (fun e => by simp [e] at h0)]
    exact xt_rt rfl ⟨rfl, rfl⟩
  · skip
    refine cK (xT (cS (cS (cR (sV (vA rfl) (sN (nK [0, 1, 4, 5] rfl (nT (cd_block ?_)))))))))
    have hlen : l.length = l'.length := Int.ofNat.inj (show (l.length : Int) = (l'.length : Int) by simpa using h0)
    refine cd_lp (σ := Nat) (fun i => [(0, v), (1, v'), (5, .int .i64 (i : Nat))]) (fun _ => S :: hr) (fun i => i ≤ l.length ∧ ∀ (j : Nat) a b, j < i → l[j]? = some a → l'[j]? = some b → (a == b) = true) (fun i => l.length - i) 0 ⟨Nat.zero_le _, fun j a b hj => by omega⟩ ?_
    rintro i ⟨hi, hne⟩
    refine cS (cS (cR (sV (vM rfl) (sV (vM rfl) (sV (v_len (congrArg some hv1) Tryz.underlying62) (sV (v_lss rfl rfl) (sN (nK [0, 1, 5, 14] rfl (nT (cC rfl (fun hd => ?_) (fun hd => ?_)))))))))))
    · skip
      have hlt : i < l.length := by simpa using hd
      obtain ⟨b, o, cp2, us, hv2, hus, hrd, rfl⟩ := hv.at (List.getElem?_eq_getElem hlt)
      obtain ⟨b', o', cp2', us', hv2', hus', hrd', rfl⟩ := hv'.at (List.getElem?_eq_getElem (show i < l'.length by omega))
      skip
      refine cK (xT (cS (cd_block (cS (cd_drawh (ork [(0, 2), (1, 2), (2, 2), (3, 1), (4, 2), (5, 2), (6, 2), (7, 1), (8, 1)] .nil) (fun _ => true) mixed (by kernel_rfl) ?_)))))
      refine dV rfl (vM rfl) (dV rfl (vM rfl) (dV rfl (v_indexAddr (k := i) (congrArg some hv2) rfl sl62 rfl hlt rfl) (dr_v rfl (v_ldn rfl ld81 hus hrd) ?_)))
      refine dV rfl (vM rfl) (dV rfl (vM rfl) (dV rfl (v_indexAddr (k := i) (congrArg some hv2') rfl sl62 rfl (by omega) rfl) (dr_v rfl (v_ldn rfl ld81 hus' hrd') ?_)))
      refine dr_v rfl (v_neq_T eq81 rfl rfl) (dr_nil (nK [0, 1, 5, 25] rfl (nT (cC rfl (fun he => ?_) (fun he => ?_)))))
      · skip
        refine cS (cR (sV (vA rfl) (sN (nK [0, 1, 4, 5] rfl (nT (cT (xt_ret_block (xR (xR (xt_ret_block (xR ?_)))))))))))
        rw [eqBy_false (List.getElem?_eq_getElem hlt) (List.getElem?_eq_getElem (show i < l'.length by omega)) (by simpa using he)]
        exact xt_rt rfl ⟨rfl, rfl⟩
      · skip
        refine cK (xB (xT (cR (sV (vM rfl) (sV (v_add rfl rfl (by unfold I64 at *; omega)) (sV (vA rfl) (sN (nK [0, 1, 5] rfl (nx_xt (xt_ag (i + 1) ⟨hlt, fun j x y hj hx hy => ?_⟩ (by show _ - _ < _ - _; omega)))))))))))
        by_cases hji : j = i
        · subst hji; rw [List.getElem?_eq_getElem hlt] at hx; rw [List.getElem?_eq_getElem (show j < l'.length by omega)] at hy; cases hx; cases hy; simpa using he
        · exact hne j x y (by omega) hx hy
    · skip
      refine cd_exit (xE (xE (xt_exit_block (xT (cS (cR (sV (vA rfl) (sN (nK [4] rfl (nT (cT ?_)))))))))))
      have hil : i = l.length := by have : ¬ i < l.length := by simpa using hd
                                    omega
      rw [eqBy_true hlen fun j x y hx hy => hne j x y (by have := (List.getElem?_eq_some_iff.1 hx).1; omega) hx hy]
      exact xt_rt rfl ⟨rfl, rfl⟩
end
end Go.Wt
