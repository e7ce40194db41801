/-
  The reference: ready, Ready, Blocks. Conditions: what is read, that lists are not too long.
  The law's bounds on a yard; WaitChecks: for every input the law answers true. Conditions: what is read, that numbers are those of the machine.
  WaitStates: for every input the law answers true. Conditions: what is read, that numbers are those of the machine.
  WaitStates: for every input the law answers true, and the input reads as it did. No condition.
-/
import Derived.Test.YtboepbencndobaaGreatM12
import Derived.Test.YtboepbencndobaaGreatM11
import Derived.Test.YtboepbencndobaaGreatRows
set_option linter.unusedVariables false
set_option linter.unusedSimpArgs false
namespace Go.Wt
open Go Go.Ck Go.Proofs Go.Proofs.YtboepbencndobaaGreat Fx
attribute [local irreducible] Go.Ck.Sub St Cd Xt Nx DrL LsW
section
variable {S : Res}
set_option maxRecDepth 100000 in
theorem rready_ct {jv pv : Value} {procs : List Proc} (hp : Row S 9 (procR S) pv procs) (hl : procs.length ≤ 1000000) (hw : ∀ (i : Nat) (hi : i < procs.length), (procs[i]).job < 0 → (procs[i]).waits < 0) (hj1 : jv.oneCell' = true) :
    CtN Tryz.prog 74 #[.agg #[jv, pv]] [S] fun u T => T = VR u 3 1 ((rdy procs procs.length).map iC) ∧ u.oneCell' = true := by
  obtain ⟨ap, cp, rfl, _⟩ := id hp
  refine ct_of (n := 27) Tryz.func74 rfl rfl (len rfl) fun hr w0 => ?_
  refine cS (cR (st_bx rfl rfl fun b1 => ?_))
  refine sV (vA rfl) (sN (nK [1, 2] rfl (nT (cS (cR (sV (vA rfl) (sN (nT (cS (cS (cR (sV (vA rfl) (sN (nT (cd_block (cd_vw (vw_nil 3 1) (cd_lq (σ := Nat × Value) (fun s => [(1, .pointer (some ⟨b1, 0, none⟩)), (3, s.2), (4, .int .i64 (s.1 : Nat))]) (fun s => VR s.2 3 1 ((rdy procs s.1).map iC) :: pt b1 (cl [jv, .slice ap procs.length cp] 27) :: S :: hr) (fun s => s.1 ≤ procs.length ∧ s.2.oneCell' = true) (fun s => procs.length - s.1) (0, .slice none 0 0) ⟨Nat.zero_le _, rfl⟩ ?_)))))))))))))))))
  rintro ⟨k, v⟩ ⟨hk, h1⟩
  simp only at hk h1
  refine cS (cS (cR (sV (vM rfl) (sV (vF rfl fa27_1 rfl) (sV (v_ldy rfl ld25) ?_)))))
  refine sV (v_len rfl Tryz.underlying25) (sV (v_lss rfl rfl) (sN (nK [1, 3, 4, 10] rfl (nT (cC rfl (fun hd => ?_) (fun hd => ?_))))))
  · skip
    have hlt : k < procs.length := by simpa using hd
    have hlen := rdy_len procs k
    refine cK (xT (cS (cd_block (cS (cR (sV (v_ldn rfl ld27 rfl rds_pt) ?_))))))
    refine sV (vM rfl) (st_clr rfl rfl en70 rfl (rstate_ct hp hlt (hw k hlt) hj1) ?_)
    refine sV (vA rfl) (sN (nK [1, 3, 4, 5] rfl (nT (cS (cR (sV (vM rfl) (sV (v_eql rfl rfl) (sV (vM rfl) (st_cut (k := 6) (d := 21) (v := .bool ((procs[k]).state == 1 || (procs[k]).state == 2)) (fun hcut => bool_want (b := ((procs[k]).state == 1)) false (fun hg => ?_) (fun hg => ?_)) ?_)))))))))
    · refine st_sk rfl rfl hg ?_
      refine st_sk rfl rfl hg ?_
      refine sV (v_pick_true (bool_ev rfl hg) rfl) ?_
      exact hcut _ (ssub_head (by first | rfl | (rw [hg]; rfl) | simp_all) (uS rfl (uS rfl (ssub_refl))))
    · skip
      refine st_vg rfl (bG rfl hg) (vM rfl) (st_vg rfl (bG rfl hg) (v_eql rfl rfl) (sV (vP (bool_ev rfl hg) rfl) ?_))
      exact hcut _ (ssub_head (by first | rfl | (rw [hg]; rfl) | simp_all) (uS rfl (uS rfl (ssub_refl))))
    refine sN (nK [1, 3, 4, 21] rfl (nT (cC rfl (fun hq => ?_) (fun hq => ?_))))
    · skip
      have hg : (procs[k]).goes = true := hq
      refine cR (sV (vM rfl) (sV (vM rfl) (st_buildSlice (cells := [.int .i64 k]) rfl Tryz.underlying43 inf3 rfl rfl (by kernel_rfl) (ltn rfl) fun b24 => ?_)))
      refine st_app [[.int .i64 k]] rfl rfl Tryz.underlying43 inf3 rfl (by decide) (by repeat (first | exact Sel.here | apply Sel.there)) (by simp) rfl (fun j u2 hu2 => at_here (rd_cl (by simpa using hu2))) (by simp [Value.oneCell']) (by simp; omega) (by simp; omega) (ltn rfl) fun v' hv' _ => ?_
      refine sV (vA rfl) (sN (nK [1, 3, 4] rfl (nx_xt (xB (xT (cR (sV (vM rfl) (sV (v_add rfl rfl (by unfold I64 at *; omega)) (sV (vA rfl) (sN (nK [1, 3, 4] rfl (nx_xt ?_))))))))))))
      rw [show (rdy procs k).map iC ++ [[.int .i64 (k : Int)]] = (rdy procs (k + 1)).map iC by rw [rdy_yes hlt hg]; simp [iC]]
      refine xt_aq (k + 1, v') ⟨hlt, hv'⟩ (by show _ - _ < _ - _; omega)
    · skip
      have hg : (procs[k]).goes = false := hq
      refine cK (xB (xT (cR (sV (vM rfl) (sV (v_add rfl rfl (by unfold I64 at *; omega)) (sV (vA rfl) (sN (nK [1, 3, 4] rfl (nx_xt ?_)))))))))
      rw [← rdy_no hlt hg]
      refine xt_aq (k + 1, v) ⟨hlt, h1⟩ (by show _ - _ < _ - _; omega)
  · skip
    have hkl : k = procs.length := by have : ¬ k < procs.length := by simpa using hd
                                      omega
    subst hkl
    refine cd_exit (xE (xE (xt_exit_block (xT (cS (cR (sV (vM rfl) (sV (vA rfl) (sN (nK [2] rfl (nT (cT ?_))))))))))))
    exact xt_rt rfl ⟨_, rfl, rfl, h1⟩ (by (repeat (refine Sub.sel (by repeat (first | exact Sel.here | apply Sel.there)) ?_)); (repeat apply Sub.cons); first | exact Sub.refl _ | exact Sub.nil _)
set_option maxRecDepth 100000 in
theorem rReady_ct {ys : List Value} {y : Yard} (hy : yardR S ys y) (hf : Fit y) : CtN Tryz.prog 23 #[.agg ys.toArray] [S] fun u T => ∃ v, u = .agg #[v, .int .i64 (readyE y).2] ∧ T = VR v 3 1 ((readyE y).1.map iC) := by
  obtain ⟨jv, pv, rfl, hj, hp⟩ := id hy
  obtain ⟨aj, cj, rfl, _⟩ := id hj
  unfold readyE
  refine ct_of (n := 13) Tryz.func23 rfl rfl (len rfl) fun hr w0 => ?_
  refine cS (cR (st_bx rfl rfl fun b1 => ?_))
  refine st_alc al47 fun b2 => ?_
  refine sN (nK [1, 2] rfl (nT (cS (cR (sV (v_ldn rfl ld27 rfl rds_pt) ?_)))))
  refine st_clr rfl rfl en73 rfl (rRight_ct hy hf) ?_
  refine sV (vA rfl) (sN (nK [1, 2, 3] rfl (nT (cS (cS (cR (sV (vM rfl) (sV (v_neq rfl rfl) (sN (nK [1, 2, 3, 7] rfl (nT (cC rfl (fun h1 => ?_) (fun h1 => ?_)))))))))))))
  · skip
    have hyr : y.right = false := by
      cases hyr : y.right with
      | false => rfl
      | true => rw [hyr] at h1; cases h1
    rw [hyr]
    refine cS (cR (sV (vM rfl) (sV (v_build (cells := [.slice none 0 0, .int .i64 2]) rfl (fun _ => by kernel_rfl)) ?_)))
    refine st_stoW rfl rfl sz47 rfl rfl ?_
    refine sN (nK [2] rfl (nT (cT (xR (xt_vw (vw_nil 3 1) ?_)))))
    exact xt_retV (.cellN rfl ld47 rfl (by repeat (first | exact Sel.here | apply Sel.there)) .nil) ⟨VR (.slice none 0 0) 3 1 [], rfl, .slice none 0 0, rfl, rfl⟩ (by repeat (first | exact Sub.refl _ | exact Sub.nil _ | refine Sub.sel (by repeat (first | exact Sel.here | apply Sel.there)) ?_ | apply Sub.cons))
  · skip
    have hyr : y.right = true := by
      cases hyr : y.right with
      | true => rfl
      | false => rw [hyr] at h1; cases h1
    rw [if_pos hyr]
    refine cK (xT (cS (cR (sV (v_ldn rfl ld27 rfl rds_pt) ?_))))
    refine st_cl rfl rfl en74 rfl (rready_ct hp hf.2.1 (fun i hi => right_waits hyr hi) rfl) ?_
    rintro u h' ⟨T, rfl, rfl, hu1⟩
    refine st_rowf (v := u) (by repeat (first | exact Sel.here | apply Sel.there)) (fun va vc hve _ _ => ?_)
    subst hve
    refine sV (v_build (cells := [.slice va ((rdy y.procs y.procs.length).map iC).length vc, .int .i64 0]) rfl (fun _ => by kernel_rfl)) ?_
    refine st_stoW rfl rfl sz47 rfl rfl ?_
    refine sN (nK [2] rfl (nT (cT ?_)))
    exact xt_retV (.cellN rfl ld47 rfl (by repeat (first | exact Sel.here | apply Sel.there)) .nil) ⟨_, rfl, _, rfl, rfl⟩ (by repeat (first | exact Sub.refl _ | exact Sub.nil _ | refine Sub.sel (by repeat (first | exact Sel.here | apply Sel.there)) ?_ | apply Sub.cons))
set_option maxHeartbeats 1000000 in
set_option maxRecDepth 100000 in
theorem rBlocks_ct {ys : List Value} {y : Yard} (hy : yardR S ys y) (hf : Fit y) (spot : Int) : CtN Tryz.prog 27 #[.agg ys.toArray, .int .i64 spot] [S] fun u T => ∃ v, u = .agg #[v, .int .i64 (blocksE y spot).2] ∧ Row T 1 (nR T 5 dC) v (blocksE y spot).1 := by
  obtain ⟨jv, pv, rfl, hj, hp⟩ := id hy
  obtain ⟨aj, cj, rfl, _⟩ := id hj
  unfold blocksE
  refine ct_of (n := 77) Tryz.func27 rfl rfl (len rfl) fun hr w0 => ?_
  refine cS (cR (st_bx rfl rfl fun b2 => ?_))
  refine st_alc al58 fun b4 => ?_
  refine sN (nK [1, 2, 4] rfl (nT (cS (cR (sV (v_ldn rfl ld27 rfl rds_pt) ?_)))))
  refine sV (vM rfl) (st_clr rfl rfl en69 rfl (rspotted_ct hy hf spot) ?_)
  refine sV (vA rfl) (sN (nK [1, 2, 4, 5] rfl (nT (cS (cS (cR (sV (vM rfl) (sV (v_neq rfl rfl) (sN (nK [1, 2, 4, 5, 14] rfl (nT (cC rfl (fun h1 => ?_) (fun h1 => ?_)))))))))))))
  · skip
    rw [if_neg (by simpa using h1)]
    generalize openedE y [spot] = e at *
    refine cS (cR (sV (vM rfl) (sV (v_build (cells := [.slice none 0 0, .int .i64 e]) rfl (fun _ => by kernel_rfl)) ?_)))
    refine st_stoW rfl rfl sz58 rfl rfl ?_
    refine sN (nK [4] rfl (nT (cT (xR (xt_vw (vw_pure (φ := True) trivial) ?_)))))
    exact xt_retV (.cellN rfl ld58 rfl (by repeat (first | exact Sel.here | apply Sel.there)) .nil) ⟨pureR True, rfl, .slice none 0 0, rfl, Row.nil⟩ (by repeat (first | exact Sub.refl _ | exact Sub.nil _ | refine Sub.sel (by repeat (first | exact Sel.here | apply Sel.there)) ?_ | apply Sub.cons))
  · skip
    have h1' : openedE y [spot] = 0 := by simpa using h1
    rw [if_pos h1']
    obtain ⟨_, hsp⟩ := openedE_zero h1'
    obtain ⟨hs0, hs1⟩ := hsp spot (by simp)
    obtain ⟨q, rfl⟩ := Int.eq_ofNat_of_zero_le hs0
    rw [Int.toNat_natCast] at hs1 ⊢
    obtain ⟨b, off, cp2, us, rfl, hus, hrd, lv, pv', hv, dv, rfl, hL, hP, hH, hD⟩ := hp.at (List.getElem?_eq_getElem hs1)
    have hfpp := hf.2.2 _ (List.getElem_mem hs1)
    obtain ⟨ad, cd', hdv, _⟩ := id hD
    rw [pr_get hs1]
    generalize hpe : y.procs[q] = p at *
    have hdl := hfpp.2.2.2.1
    refine cK (xT (cS (cR (sV (v_build (cells := [.slice none 0 0, .int .i64 0]) rfl (fun _ => by kernel_rfl)) ?_))))
    refine st_alc al58 fun b6 => ?_
    refine st_stoW rfl rfl sz58 rfl rfl ?_
    refine sN (nK [1, 2, 4, 6] rfl (nT (cS (cR (sV (vF rfl fa27_1 rfl) (sV (v_ldy rfl ld25) ?_))))))
    refine sV (vM rfl) (sV (v_indexAddr (k := q) rfl rfl sl25 rfl hs1 rfl) (sV (vF rfl fa77_8 rfl) (sV (v_ldy rfl ld62) ?_)))
    refine sV (vA rfl) (sN (nK [4, 6, 7] rfl (nT (cS (cS (cR (sV (vA rfl) (sN (nT (cd_block (cd_vw (vw_nil 62 1) (cd_pv (pv_add (triv_star (L := []) (fun r h => by cases h))) ?_))))))))))))
    refine cd_lq (σ := Nat × Value × List Value × List (List Did) × LB) (fun s => [(4, .pointer (some ⟨b4, 0, none⟩)), (6, .pointer (some ⟨b6, 0, none⟩)), (7, dv), (8, .int .i64 (s.1 : Nat))]) (fun s => pt b6 (cl [s.2.1, .int .i64 0] 58) :: VR s.2.1 62 1 ((s.2.2.1 ++ s.2.2.2.2.hs).map fun h => [h]) :: Res.star (nrows 81 5 dC s.2.2.1 s.2.2.2.1) :: (s.2.2.2.2.sh ++ (pt b4 (cl [.slice none 0 0, .int .i64 0] 58) :: S :: hr))) (fun s => s.1 ≤ p.did.length ∧ s.2.2.1.length = s.2.2.2.1.length ∧ s.2.1.oneCell' = true ∧ (p.did.take s.1).foldl blk [] = s.2.2.2.1 ++ s.2.2.2.2.ls ∧ (s.2.2.2.2 = none → s.2.2.1 = [] ∧ s.1 = 0) ∧ s.2.2.1.length ≤ s.1 ∧ (s.2.2.2.2 ≠ none → s.2.2.1.length + 1 ≤ s.1) ∧ (∀ h x t, s.2.2.2.2 = some (h, x, t) → t.length ≤ s.1) ∧ ∀ h x t, s.2.2.2.2 = some (h, x, t) → ∀ d, p.did[s.1 - 1]? = some d → d.1 = x.1) (fun s => p.did.length - s.1) (0, .slice none 0 0, [], [], none) ⟨Nat.zero_le _, rfl, rfl, rfl, fun _ => ⟨rfl, rfl⟩, Nat.zero_le _, fun h => absurd rfl h, (fun h x t e => by cases e), fun h x t e => by cases e⟩ ?_
    rintro ⟨k, v, hs, ls, lb⟩ ⟨hk, hkl, h1, hacc, hnone, hle1, hle2, hle3, hkey⟩
    simp only at hk hkl h1 hacc hnone hle1 hle2 hle3 hkey
    refine cS (cS (cR (sV (vM rfl) (sV (vM rfl) (sV (v_len (congrArg some hdv) Tryz.underlying62) (sV (v_lss rfl rfl) (sN (nK [4, 6, 7, 8, 27] rfl (nT (cC rfl (fun hd => ?_) (fun hd => ?_)))))))))))
    · skip
      have hlt : k < p.did.length := by simpa using hd
      obtain ⟨b2, off2, cp3, us2, hv2, hus2, hrd2, rfl⟩ := hD.at (List.getElem?_eq_getElem hlt)
      have hfold : (p.did.take (k + 1)).foldl blk [] = blk (ls ++ lb.ls) p.did[k] := by rw [List.take_succ_eq_append_getElem hlt, List.foldl_append, hacc]; rfl
      have hnext : ∀ (x : Did), (p.did[k]).1 = x.1 → ∀ d, p.did[k + 1 - 1]? = some d → d.1 = x.1 := fun x hx d hd' => by
        rw [Nat.add_sub_cancel, List.getElem?_eq_getElem hlt] at hd'
        cases hd'; exact hx
      rcases lb with _ | ⟨hl, x, t⟩
      · skip
        obtain ⟨rfl, rfl⟩ := hnone rfl
        generalize hde : p.did[0] = d at *
        have hls : ls = [] := List.eq_nil_of_length_eq_zero (by simpa using hkl.symm)
        subst hls
        simp only [LB.sh, LB.hs, LB.ls, List.nil_append, List.append_nil, List.map_nil] at hfold ⊢
        rw [blk_nil] at hfold
        refine cd_rowf (v := v) (by repeat (first | exact Sel.here | apply Sel.there)) (fun va vc hve _ _ => ?_)
        simp only [List.length_nil] at hve
        subst hve
        refine cK (xT (cS (cd_block (cS (cd_drawh (ork [(0, 2), (1, 2), (2, 2), (3, 2), (4, 2), (5, 2), (6, 2), (7, 2), (8, 2), (9, 1), (10, 2), (11, 2), (12, 2), (13, 2), (14, 1), (15, 1), (16, 2)] .nil) (fun _ => true) mixed (by kernel_rfl) ?_)))))
        refine dV rfl (vM rfl) (dV rfl (v_gtr rfl rfl) (dV rfl (vM rfl) (dp_sk rfl rfl rfl rfl ?_)))
        refine dp_sk rfl rfl rfl rfl ?_
        refine dp_sk rfl rfl rfl rfl ?_
        refine dp_sk rfl rfl rfl rfl ?_
        refine dp_sk rfl rfl rfl rfl ?_
        refine dp_sk rfl rfl rfl rfl ?_
        refine dr_sk rfl rfl rfl rfl ?_
        refine dp_sk rfl rfl rfl rfl ?_
        refine dp_sk rfl rfl rfl rfl ?_
        refine dp_sk rfl rfl rfl rfl ?_
        refine dp_sk rfl rfl rfl rfl ?_
        refine dr_sk rfl rfl rfl rfl ?_
        refine dr_sk rfl rfl rfl rfl ?_
        refine dV rfl (vP rfl rfl) (dr_nil (nK [4, 6, 7, 8, 46] rfl (nT (cd_false rfl ?_))))
        refine cd_drawh (ork [(0, 2), (1, 1), (2, 2), (3, 2), (4, 2), (5, 1), (6, 0), (7, 0), (8, 0), (9, 2), (10, 0)] .nil) (fun i => !(Nat.beq i 8 || Nat.beq i 10)) mixed (by kernel_rfl) ?_
        refine dV rfl (vF rfl fa58_0 rfl) (dr_v rfl (v_ldy rfl ld54) ?_)
        refine dV rfl (vM rfl) (dV rfl (vM rfl) (dV rfl (v_indexAddr (k := 0) (congrArg some hv2) rfl sl62 rfl hlt rfl) (dr_v rfl (v_ldn rfl ld81 hus2 hrd2) ?_)))
        refine dr_eff rfl (st_buildSlice (cells := dC d) rfl Tryz.underlying62 inf81 rfl rfl (by kernel_rfl) (ltn rfl) fun b72 => dr_nx ?_)
        refine dr_eff rfl (st_buildSlice (cells := [.slice (some ⟨b72, 0, none⟩) 1 1]) rfl Tryz.underlying54 inf62 rfl rfl (by kernel_rfl) (ltn rfl) fun b73 => dr_nx ?_)
        refine dr_eff rfl (st_app [[.slice (some ⟨b72, 0, none⟩) 1 1]] rfl rfl Tryz.underlying54 inf62 rfl (by decide) (by repeat (first | exact Sel.here | apply Sel.there)) (by simp) rfl (fun j u2 hu2 => at_here (rd_cl (by simpa using hu2))) (by simp [Value.oneCell']) (by simp) (by simp) (ltn rfl) fun v' hv' _ => dr_nx ?_)
        refine dV rfl (vF rfl fa58_0 rfl) (dr_eff rfl (st_sto rfl rfl sz54 (dr_nx ?_)))
        refine dr_nil (nK [4, 6, 7, 8] rfl (nx_xt (xB (xT (cR (sV (vM rfl) (sV (v_add rfl rfl (by unfold I64 at *; omega)) (sV (vA rfl) (sN (nK [4, 6, 7, 8] rfl (nx_xt (xt_pv (pv_of (E := 81) (sz := 5) [dC d] (cells := dC d) (b := b72) (n := 1) (by simp) (by simp [dC]) rfl (by decide)) ?_))))))))))))
        refine xt_aq (0 + 1, v', [], [], some (.slice (some ⟨b72, 0, none⟩) 1 1, d, [])) ⟨hlt, rfl, hv', hfold, (fun h => by cases h), Nat.zero_le _, (fun _ => by simp), (fun h x t e => by cases e; simp), (fun h x t e d' hd' => by cases e; exact hnext _ rfl d' hd')⟩ (by show _ - _ < _ - _; omega)
      · skip
        simp only [LB.sh, LB.hs, LB.ls] at hfold ⊢
        have hhs := hle2 (by simp)
        have htl := hle3 hl x t rfl
        have hk0 : 0 < k := by omega
        have hlt1 : k - 1 < p.did.length := by omega
        have hkx := hkey hl x t rfl _ (List.getElem?_eq_getElem hlt1)
        obtain ⟨b3, off3, cp4, us3, hv3, hus3, hrd3, rfl⟩ := hD.at (List.getElem?_eq_getElem hlt1)
        generalize p.did[k - 1] = d1 at *
        generalize hde : p.did[k] = d at *
        rw [blk_snoc, ← hkx] at hfold
        refine cd_row (v := v) (by repeat (first | exact Sel.here | apply Sel.there)) (fun _ h0 => by simp at h0) (fun vb vo vc hve _ _ => ?_)
        refine cd_row (v := hl) (by repeat (first | exact Sel.here | apply Sel.there)) (fun _ h0 => by simp at h0) (fun lb2 lo lc hle _ _ => ?_)
        simp only [List.length_map, List.length_append, List.length_cons, List.length_nil] at hve hle
        subst hve hle
        have hn : decide (0 < (k : Int)) = true := by simpa using hk0
        have hrow : ((hs ++ [Value.slice (some ⟨lb2, lo, none⟩) (t.length + 1) lc]).map fun h => [h])[hs.length]? = some [.slice (some ⟨lb2, lo, none⟩) (t.length + 1) lc] := by simp
        have hRd : Rd (VR (.slice (some ⟨vb, vo, none⟩) (hs.length + (0 + 1)) vc) 62 1 ((hs ++ [Value.slice (some ⟨lb2, lo, none⟩) (t.length + 1) lc]).map fun h => [h])) ⟨vb, vo + hs.length * 1, none⟩ (.slice (some ⟨lb2, lo, none⟩) (t.length + 1) lc) := by
          have := rd_vrk (E := 62) (b := vb) (o := vo) (n := hs.length + (0 + 1)) (cp := vc) (sz := 1) (k := 0) hrow rfl
          exact this
        refine cK (xT (cS (cd_block (cS (cd_drawh (ork [(0, 2), (1, 2), (2, 2), (3, 2), (4, 2), (5, 2), (6, 2), (7, 2), (8, 2), (9, 1), (10, 2), (11, 2), (12, 2), (13, 2), (14, 1), (15, 1), (16, 2)] .nil) (fun _ => true) mixed (by kernel_rfl) ?_)))))
        refine dV rfl (vM rfl) (dV rfl (v_is (congrArg Value.bool hn) (v_gtr rfl rfl)) (dV rfl (vM rfl) (dp_vg rfl rfl rfl (vM rfl) (dp_vg rfl rfl rfl (vM rfl) (dp_vg rfl rfl rfl (v_sub rfl rfl (by unfold I64 at *; omega)) (dp_vg rfl rfl rfl (v_max rfl rfl (by omega)) (dp_vg rfl rfl rfl (v_indexAddr (k := k - 1) (congrArg some hv3) rfl sl62 (by omega) hlt1 rfl) (dp_vg rfl rfl rfl (vF rfl fa81_0 rfl) (dr_vg rfl rfl rfl (v_ldn (vs := kC d1.1) rfl ld79 rfl (rds_sub hrd3 rfl)) ?_)))))))))
        refine dp_vg rfl rfl rfl (vM rfl) (dp_vg rfl rfl rfl (vM rfl) (dp_vg rfl rfl rfl (v_indexAddr (k := k) (congrArg some hv2) rfl sl62 rfl hlt rfl) (dp_vg rfl rfl rfl (vF rfl fa81_0 rfl) (dr_vg rfl rfl rfl (v_ldn (vs := kC d.1) rfl ld79 rfl (rds_sub hrd2 rfl)) ?_))))
        refine dr_vg rfl rfl rfl (v_eql_T eq79 rfl rfl) (dV rfl (v_pick_true rfl rfl) (dr_nil (nK [4, 6, 7, 8, 46] rfl (nT (cC rfl (fun hk2 => ?_) (fun hk2 => ?_))))))
        · skip
          refine cS (cR (sV (vF rfl fa58_0 rfl) (sV (v_ldy rfl ld54) ?_)))
          refine sV (v_len rfl Tryz.underlying54) (sV (v_sub rfl rfl (by unfold I64 at *; omega)) (sV (vA rfl) (sN (nK [4, 6, 7, 8, 9] rfl (nT (cd_draw (ork [(0, 2), (1, 1), (2, 2), (3, 2), (4, 1), (5, 2), (6, 2), (7, 1), (8, 2), (9, 2), (10, 2), (11, 1), (12, 0), (13, 0), (14, 2), (15, 0)] .nil) (fun i => !(Nat.beq i 15)) [pt b6 (cl [.slice (some ⟨vb, vo, none⟩) (hs.length + (0 + 1)) vc, .int .i64 0] 58), VR (.slice (some ⟨vb, vo, none⟩) (hs.length + (0 + 1)) vc) 62 1 ((hs ++ [Value.slice (some ⟨lb2, lo, none⟩) (t.length + 1) lc]).map fun h => [h]), S] mixed (by kernel_rfl) ?_))))))
          refine dV rfl (vF rfl fa58_0 rfl) (dr_v rfl (v_ldy rfl ld54) ?_)
          refine dV rfl (vM rfl) (dV rfl (vF rfl fa58_0 rfl) (dr_v rfl (v_ldy rfl ld54) ?_))
          refine dV rfl (vM rfl) ?_
          rw [if_pos (by simpa using hk2)] at hfold
          refine dV rfl (v_indexAddr (k := hs.length) rfl rfl sl54 (by push_cast; omega) (by omega) rfl) ?_
          refine dr_v rfl (v_ldy rfl ld62) ?_
          refine dV rfl (vM rfl) (dV rfl (vM rfl) (dV rfl (v_indexAddr (k := k) (congrArg some hv2) rfl sl62 rfl hlt rfl) (dr_v rfl (v_ldn rfl ld81 hus2 hrd2) ?_)))
          refine dr_eff rfl (st_buildSlice (cells := dC d) rfl Tryz.underlying62 inf81 rfl rfl (by kernel_rfl) (ltn rfl) fun b63 => dr_nx ?_)
          refine dr_eff rfl (st_app (v := .slice (some ⟨lb2, lo, none⟩) (t.length + 1) lc) [dC d] rfl rfl Tryz.underlying62 inf81 rfl (by decide) (by repeat (first | exact Sel.here | apply Sel.there)) (by simp [dC]) rfl (fun j u2 hu2 => at_here (rd_cl (by simpa using hu2))) (by simp [dC, Value.oneCell']) (by simp; omega) (by simp; omega) (ltn rfl) fun v' hv' _ => dr_nx ?_)
          refine dV rfl (v_indexAddr (k := hs.length) rfl rfl sl54 (by push_cast; omega) (by omega) rfl) ?_
          refine dr_eff rfl (st_vr (sz := 1) (m := hs.length) (k := 0) rfl rfl sz62 hv' hrow (by decide) rfl (by repeat (first | exact Sel.here | apply Sel.there)) (dr_nx ?_))
          refine dr_nil (nK [4, 6, 7, 8] rfl (nx_xt (xB (xT (cR (sV (vM rfl) (sV (v_add rfl rfl (by unfold I64 at *; omega)) (sV (vA rfl) (sN (nK [4, 6, 7, 8] rfl (nx_xt ?_)))))))))))
          have e2 : (((hs ++ [Value.slice (some ⟨lb2, lo, none⟩) (t.length + 1) lc]).map fun h => [h]).set hs.length ([Value.slice (some ⟨lb2, lo, none⟩) (t.length + 1) lc].set 0 v')) = (hs ++ [v']).map fun h => [h] := by simp
          rw [e2]
          have e3 : (x :: t).map dC ++ [dC d] = (x :: (t ++ [d])).map dC := by simp
          rw [e3]
          refine xt_aq (k + 1, .slice (some ⟨vb, vo, none⟩) (hs.length + (0 + 1)) vc, hs, ls, some (v', x, t ++ [d])) ⟨hlt, hkl, rfl, hfold, (fun h => by cases h), by show hs.length ≤ k + 1; omega, (fun _ => by show hs.length + 1 ≤ k + 1; omega), (fun h x2 t2 e => by cases e; simp; omega), (fun h x2 t2 e d' hd' => by cases e; exact hnext _ (by rw [← hkx]; exact (by simpa using hk2 : d1.1 = d.1).symm) d' hd')⟩ (by show _ - _ < _ - _; omega)
        · skip
          refine cd_drawh (ork [(0, 2), (1, 1), (2, 2), (3, 2), (4, 2), (5, 1), (6, 0), (7, 0), (8, 0), (9, 2), (10, 0)] .nil) (fun i => !(Nat.beq i 8 || Nat.beq i 10)) mixed (by kernel_rfl) ?_
          refine dV rfl (vF rfl fa58_0 rfl) (dr_v rfl (v_ldy rfl ld54) ?_)
          refine dV rfl (vM rfl) (dV rfl (vM rfl) ?_)
          rw [if_neg (by simpa using hk2)] at hfold
          refine dV rfl (v_indexAddr (k := k) (congrArg some hv2) rfl sl62 rfl hlt rfl) (dr_v rfl (v_ldn rfl ld81 hus2 hrd2) ?_)
          refine dr_eff rfl (st_buildSlice (cells := dC d) rfl Tryz.underlying62 inf81 rfl rfl (by kernel_rfl) (ltn rfl) fun b72 => dr_nx ?_)
          refine dr_eff rfl (st_buildSlice (cells := [.slice (some ⟨b72, 0, none⟩) 1 1]) rfl Tryz.underlying54 inf62 rfl rfl (by kernel_rfl) (ltn rfl) fun b73 => dr_nx ?_)
          refine dr_eff rfl (st_app (v := .slice (some ⟨vb, vo, none⟩) (hs.length + (0 + 1)) vc) [[.slice (some ⟨b72, 0, none⟩) 1 1]] rfl rfl Tryz.underlying54 inf62 rfl (by decide) (by repeat (first | exact Sel.here | apply Sel.there)) (by simp) rfl (fun j u2 hu2 => at_here (rd_cl (by simpa using hu2))) (by simp [Value.oneCell']) (by simp; omega) (by simp; omega) (ltn rfl) fun v' hv' _ => dr_nx ?_)
          refine dV rfl (vF rfl fa58_0 rfl) (dr_eff rfl (st_sto rfl rfl sz54 (dr_nx ?_)))
          refine dr_nil (nK [4, 6, 7, 8] rfl (nx_xt (xB (xT (cR (sV (vM rfl) (sV (v_add rfl rfl (by unfold I64 at *; omega)) (sV (vA rfl) (sN (nK [4, 6, 7, 8] rfl (nx_xt (xt_pv (pv_of (E := 81) (sz := 5) [dC d] (cells := dC d) (b := b72) (n := 1) (by simp) (by simp [dC]) rfl (by decide)) ?_))))))))))))
          refine xt_pv (pv_snoc (L := nrows 81 5 dC hs ls) (r := VR (.slice (some ⟨lb2, lo, none⟩) (t.length + 1) lc) 81 5 ((x :: t).map dC))) ?_
          rw [← nrows_snoc hkl]
          have e2 : ((hs ++ [Value.slice (some ⟨lb2, lo, none⟩) (t.length + 1) lc]).map fun h => [h]) ++ [[Value.slice (some ⟨b72, 0, none⟩) 1 1]] = (hs ++ [Value.slice (some ⟨lb2, lo, none⟩) (t.length + 1) lc] ++ [Value.slice (some ⟨b72, 0, none⟩) 1 1]).map fun h => [h] := by simp
          rw [e2]
          refine xt_aq (k + 1, v', hs ++ [Value.slice (some ⟨lb2, lo, none⟩) (t.length + 1) lc], ls ++ [x :: t], some (.slice (some ⟨b72, 0, none⟩) 1 1, d, [])) ⟨hlt, by simp [hkl], hv', hfold, (fun h => by cases h), by simp; omega, (fun _ => by simp; omega), (fun h x2 t2 e => by cases e; simp), (fun h x2 t2 e d' hd' => by cases e; exact hnext _ rfl d' hd')⟩ (by show _ - _ < _ - _; omega)
    · skip
      have hkj : k = p.did.length := by have : ¬ k < p.did.length := by simpa using hd
                                        omega
      subst hkj
      rw [List.take_length] at hacc
      rw [hacc]
      refine cd_rowf (v := v) (by repeat (first | exact Sel.here | apply Sel.there)) (fun va vc hve _ _ => ?_)
      generalize ((hs ++ lb.hs).map fun h => [h]).length = vn at hve
      subst hve
      rcases lb with _ | ⟨hl, x, t⟩
      · skip
        simp only [LB.sh, LB.hs, LB.ls, List.nil_append, List.append_nil]
        refine cd_exit (xE (xE (xt_exit_block (xT (cS (cR (sV (v_ldn rfl ld58 rfl rds_pt) ?_)))))))
        refine st_stoW rfl rfl sz58 rfl rfl ?_
        refine sN (nK [4] rfl (nT (cT (xt_pv (pv_add (triv_pure (φ := hs.length = ls.length) hkl)) ?_))))
        refine xt_pv (pv_pack (L := NO 62 81 5 dC (.slice va vn vc) hs ls)) ?_
        refine xt_ok .here fun hok => ?_
        exact xt_retV (.cellN rfl ld58 rfl (by repeat (first | exact Sel.here | apply Sel.there)) .nil) ⟨_, rfl, .slice va vn vc, rfl, NO_star hok⟩ (by repeat (first | exact Sub.refl _ | exact Sub.nil _ | refine Sub.sel (by repeat (first | exact Sel.here | apply Sel.there)) ?_ | apply Sub.cons))
      · skip
        simp only [LB.sh, LB.hs, LB.ls, List.cons_append, List.nil_append]
        refine cd_exit (xE (xE (xt_exit_block (xT (cS (cR (sV (v_ldn rfl ld58 rfl rds_pt) ?_)))))))
        refine st_stoW rfl rfl sz58 rfl rfl ?_
        refine sN (nK [4] rfl (nT (cT (xt_pv (pv_snoc (L := nrows 81 5 dC hs ls) (r := VR hl 81 5 ((x :: t).map dC))) ?_))))
        rw [← nrows_snoc hkl]
        refine xt_pv (pv_add (triv_pure (φ := (hs ++ [hl]).length = (ls ++ [x :: t]).length) (by simp [hkl]))) ?_
        refine xt_pv (pv_pack (L := NO 62 81 5 dC (.slice va vn vc) (hs ++ [hl]) (ls ++ [x :: t]))) ?_
        refine xt_ok .here fun hok => ?_
        exact xt_retV (.cellN rfl ld58 rfl (by repeat (first | exact Sel.here | apply Sel.there)) .nil) ⟨_, rfl, .slice va vn vc, rfl, NO_star hok⟩ (by repeat (first | exact Sub.refl _ | exact Sub.nil _ | refine Sub.sel (by repeat (first | exact Sel.here | apply Sel.there)) ?_ | apply Sub.cons))
end
end Go.Wt
namespace Go.Wt
open Go Go.Ck Go.Proofs Go.Proofs.YtboepbencndobaaGreat Fx
attribute [local irreducible] Go.Ck.Sub St Cd Xt Nx DrL LsW
def smallG (p : Proc) : Bool := decide (30 < (p.lines.length : Int)) || decide (30 < (p.holds.length : Int)) || (decide (30 < (p.puts.length : Int)) && decide ((p.puts.length : Int) ≤ 400)) || (decide (30 < (p.did.length : Int)) && decide ((p.did.length : Int) ≤ 400)) || decide (410 < (p.puts.length : Int)) || decide (410 < (p.did.length : Int))
def smallP (p : Proc) : Bool := !smallG p && p.lines.all fun l => decide ((l.asks.length : Int) ≤ 30)
def smallE (y : Yard) : Bool := fewE y.jobs && decide ((y.procs.length : Int) ≤ 12) && y.procs.all smallP
theorem small_fit {y : Yard} (h : smallE y = true) : Fit y := by
  unfold smallE at h
  simp only [Bool.and_eq_true, decide_eq_true_eq] at h
  obtain ⟨⟨h1, h2⟩, h3⟩ := h
  refine ⟨few_Fits h1, by omega, fun p hp => ?_⟩
  have h4 := List.all_eq_true.1 h3 p hp
  unfold smallP smallG at h4
  simp only [Bool.and_eq_true, Bool.not_eq_true', Bool.or_eq_false_iff, Bool.and_eq_false_iff, decide_eq_false_iff_not] at h4
  obtain ⟨⟨⟨⟨⟨⟨g1, g2⟩, g3⟩, g4⟩, g5⟩, g6⟩, g7⟩ := h4
  refine ⟨by omega, by omega, by omega, by omega, fun l hl => ?_⟩
  have := List.all_eq_true.1 g7 l hl
  simp only [decide_eq_true_eq] at this
  omega
theorem newY_fit {jobs : List (List Move)} {spots : Int} (hf : Fits jobs) : Fit (newY jobs spots) := by
  unfold newY
  split
  · rename_i h
    obtain ⟨hs0, hs12, _⟩ := check_pos h
    obtain ⟨n, rfl⟩ := Int.eq_ofNat_of_zero_le (show 0 ≤ spots by omega)
    rw [Int.toNat_natCast]
    exact (Live.new h).fit (by omega)
  · exact ⟨⟨by simp [Yard.nil], fun l hl => by cases hl⟩, by simp [Yard.nil], fun p hp => by cases hp⟩
theorem rd_tail {T0 : Res} {L : SH} : ∀ p u, Rd (Res.star L) p u → Rd (Res.star (T0 :: L)) p u := fun _ _ h w hw => h w hw.2.2
section
variable {S : Res}
set_option maxHeartbeats 1000000 in
set_option maxRecDepth 100000 in
theorem small_ct {ys : List Value} {y : Yard} (hy : yardR S ys y) : Reads Tryz.prog 19 #[.agg ys.toArray] [S] (.bool (smallE y)) := by
  obtain ⟨jv, pv, rfl, hj, hp⟩ := id hy
  obtain ⟨aj, cj, rfl, _⟩ := id hj
  obtain ⟨ap, cp, rfl, _⟩ := id hp
  have hpl := hp.lenle
  unfold maxLen at hpl
  generalize hr0 : smallE y = r0
  unfold smallE at hr0
  refine ct_of (n := 89) Tryz.func19 rfl rfl (len rfl) fun hr w0 => ?_
  refine cS (cR (st_bx rfl rfl fun b1 => ?_))
  refine sV (vA rfl) (sN (nK [1, 2] rfl (nT (cS (cS (cR (sV (vF rfl fa27_0 rfl) (sV (v_ldy rfl ld22) ?_))))))))
  refine st_clr rfl rfl en12 rfl (few_ct hj) ?_
  refine sV (v_not rfl) (sV (vM rfl) (st_cut (k := 10) (d := 15) (v := .bool (!fewE y.jobs || decide (12 < (y.procs.length : Int)))) (fun hcut => bool_want (b := !fewE y.jobs) false (fun hg => ?_) (fun hg => ?_)) ?_))
  · refine st_sk rfl rfl hg ?_
    refine st_sk rfl rfl hg ?_
    refine st_sk rfl rfl hg ?_
    refine st_sk rfl rfl hg ?_
    refine sV (v_pick_true (bool_ev rfl hg) rfl) ?_
    exact hcut _ (ssub_head (by first | rfl | (rw [hg]; rfl) | simp_all) (uS rfl (uS rfl (uS rfl (uS rfl (ssub_refl))))))
  · skip
    refine st_vg rfl (bG rfl hg) (vF rfl fa27_1 rfl) (st_vg rfl (bG rfl hg) (v_ldy rfl ld25) ?_)
    refine st_vg rfl (bG rfl hg) (v_len rfl Tryz.underlying25) (st_vg rfl (bG rfl hg) (v_gtr rfl rfl) (sV (vP (bool_ev rfl hg) rfl) ?_))
    exact hcut _ (ssub_head (by first | rfl | (rw [hg]; rfl) | simp_all) (uS rfl (uS rfl (uS rfl (uS rfl (ssub_refl))))))
  refine sN (nK [1, 2, 15] rfl (nT (cC rfl (fun h0 => ?_) (fun h0 => ?_))))
  · skip
    have hr : r0 = false := by
      rw [← hr0, Bool.and_eq_false_iff, Bool.and_eq_false_iff, decide_eq_false_iff_not]
      simp only [Bool.or_eq_true, Bool.not_eq_true', decide_eq_true_eq] at h0
      rcases h0 with h | h
      · exact .inl (.inl h)
      · exact .inl (.inr (by omega))
    subst hr
    refine cS (cR (sV (vA rfl) (sN (nK [2] rfl (nT (cT (xR ?_)))))))
    exact xt_rt rfl ⟨rfl, rfl⟩ (by (repeat (refine Sub.sel (by repeat (first | exact Sel.here | apply Sel.there)) ?_)); (repeat apply Sub.cons); first | exact Sub.refl _ | exact Sub.nil _)
  · skip
    simp only [Bool.or_eq_false_iff, Bool.not_eq_false', decide_eq_false_iff_not] at h0
    rw [h0.1, decide_eq_true (show (y.procs.length : Int) ≤ 12 by omega), Bool.true_and, Bool.true_and] at hr0
    refine cK (xT (cS (cS (cR (sV (vA rfl) (sN (nK [1, 2, 3] rfl (nT (cd_block (cd_lq (σ := Nat) (fun i => [(1, .pointer (some ⟨b1, 0, none⟩)), (3, .int .i64 (i : Nat))]) (fun _ => pt b1 (cl [.slice aj y.jobs.length cj, .slice ap y.procs.length cp] 27) :: S :: hr) (fun i => i ≤ y.procs.length ∧ ∀ (j : Nat) (hj : j < y.procs.length), j < i → smallP y.procs[j] = true) (fun i => y.procs.length - i) 0 ⟨Nat.zero_le _, fun j _ hj => by omega⟩ ?_))))))))))
    rintro i ⟨hi, hall⟩
    refine cS (cS (cR (sV (vM rfl) (sV (vF rfl fa27_1 rfl) (sV (v_ldy rfl ld25) ?_)))))
    refine sV (v_len rfl Tryz.underlying25) (sV (v_lss rfl rfl) (sN (nK [1, 3, 20] rfl (nT (cC rfl (fun hd => ?_) (fun hd => ?_))))))
    · skip
      have hlt : i < y.procs.length := by simpa using hd
      obtain ⟨b, off, cp2, us, hv2, hus, hrd, lv, pv', hv, dv, rfl, hL, hP, hH, hD⟩ := hp.at (List.getElem?_eq_getElem hlt)
      obtain ⟨al, cl', rfl, _⟩ := id hL
      obtain ⟨ap', cp', rfl, _⟩ := id hP
      obtain ⟨ah, ch', rfl, _⟩ := id hH
      obtain ⟨ad, cd', rfl, _⟩ := id hD
      have hll := hL.lenle
      unfold maxLen at hll
      have hbad : smallP y.procs[i] = false → r0 = false := fun h => by rw [← hr0, all_bad (g := smallP) hlt h]
      have hgood : smallP y.procs[i] = true → ∀ (j : Nat) (hj : j < y.procs.length), j < i + 1 → smallP y.procs[j] = true := fun h j hj' hji => by
        by_cases hjk : j = i
        · subst hjk; exact h
        · exact hall j hj' (by omega)
      generalize y.procs[i] = p at *
      refine cK (xT (cS (cd_block (cS (cR (sV (vF rfl fa27_1 rfl) (sV (v_ldy rfl ld25) ?_)))))))
      refine sV (vM rfl) (sV (v_indexAddr (k := i) (congrArg some hv2) rfl sl25 rfl hlt rfl) (sV (v_ldn rfl ld77 hus hrd) ?_))
      refine st_alc al77 fun b4 => ?_
      refine st_stoW rfl rfl sz77 rfl rfl ?_
      refine sN (nK [1, 3, 4] rfl (nT (cS (cS (cR (sV (vF rfl fa77_0 rfl) (sV (v_ldy rfl ld73) ?_)))))))
      refine sV (v_len rfl Tryz.underlying73) (sV (v_gtr rfl rfl) (sV (vM rfl) (st_cut (k := 10) (d := 37) (v := .bool (decide (30 < (p.lines.length : Int)) || decide (30 < (p.holds.length : Int)))) (fun hcut => bool_want (b := decide (30 < (p.lines.length : Int))) false (fun hg => ?_) (fun hg => ?_)) ?_)))
      · refine st_sk rfl rfl hg ?_
        refine st_sk rfl rfl hg ?_
        refine st_sk rfl rfl hg ?_
        refine st_sk rfl rfl hg ?_
        refine sV (v_pick_true (bool_ev rfl hg) rfl) ?_
        exact hcut _ (ssub_head (by first | rfl | (rw [hg]; rfl) | simp_all) (uS rfl (uS rfl (uS rfl (uS rfl (ssub_refl))))))
      · skip
        refine st_vg rfl (bG rfl hg) (vF rfl fa77_5 rfl) (st_vg rfl (bG rfl hg) (v_ldy rfl ld75) ?_)
        refine st_vg rfl (bG rfl hg) (v_len rfl Tryz.underlying75) (st_vg rfl (bG rfl hg) (v_gtr rfl rfl) (sV (vP (bool_ev rfl hg) rfl) ?_))
        exact hcut _ (ssub_head (by first | rfl | (rw [hg]; rfl) | simp_all) (uS rfl (uS rfl (uS rfl (uS rfl (ssub_refl))))))
      refine sV (vM rfl) (st_cut (k := 22) (d := 49) (v := .bool (decide (30 < (p.lines.length : Int)) || decide (30 < (p.holds.length : Int)) || (decide (30 < (p.puts.length : Int)) && decide ((p.puts.length : Int) ≤ 400)))) (fun hcut => bool_want (b := decide (30 < (p.lines.length : Int)) || decide (30 < (p.holds.length : Int))) false (fun hg => ?_) (fun hg => ?_)) ?_)
      · refine st_sk rfl rfl hg ?_
        refine st_sk rfl rfl hg ?_
        refine st_sk rfl rfl hg ?_
        refine st_sk rfl rfl hg ?_
        refine st_sk rfl rfl hg ?_
        refine st_sku rfl rfl ?_
        refine st_sku rfl rfl ?_
        refine st_sku rfl rfl ?_
        refine st_sku rfl rfl ?_
        refine st_sk rfl rfl hg ?_
        refine sV (v_pick_true (bool_ev rfl hg) rfl) ?_
        exact hcut _ (ssub_head (by first | rfl | (rw [hg]; rfl) | simp_all) (uS rfl (uS rfl (uS rfl (uS rfl (uS rfl (uS rfl (uS rfl (uS rfl (uS rfl (uS rfl (ssub_refl))))))))))))
      · skip
        refine st_vg rfl (bG rfl hg) (vF rfl fa77_1 rfl) (st_vg rfl (bG rfl hg) (v_ldy rfl ld74) ?_)
        refine st_vg rfl (bG rfl hg) (v_len rfl Tryz.underlying74) (st_vg rfl (bG rfl hg) (v_gtr rfl rfl) (st_vg rfl (bG rfl hg) (vM rfl) (st_cut (k := 21) (d := 48) (v := .bool (decide (30 < (p.puts.length : Int)) && decide ((p.puts.length : Int) ≤ 400))) (fun hcut => bool_want (b := decide (30 < (p.puts.length : Int))) true (fun hg1 => ?_) (fun hg1 => ?_)) ?_)))
        · refine st_sk rfl rfl hg1 ?_
          refine st_sk rfl rfl hg1 ?_
          refine st_sk rfl rfl hg1 ?_
          refine st_sk rfl rfl hg1 ?_
          refine st_vg rfl (bG rfl hg) (vP (bool_ev rfl hg1) rfl) ?_
          exact hcut _ (ssub_head (by first | rfl | (rw [hg1]; rfl) | simp_all) (uS rfl (uS rfl (uS rfl (uS rfl (ssub_refl))))))
        · skip
          refine st_vg rfl (bG rfl hg1) (vF rfl fa77_1 rfl) (st_vg rfl (bG rfl hg1) (v_ldy rfl ld74) ?_)
          refine st_vg rfl (bG rfl hg1) (v_len rfl Tryz.underlying74) (st_vg rfl (bG rfl hg1) (v_leq rfl rfl) (st_vg rfl (bG rfl hg) (v_pick_true (bool_ev rfl hg1) rfl) ?_))
          exact hcut _ (ssub_head (by first | rfl | (rw [hg1]; rfl) | simp_all) (uS rfl (uS rfl (uS rfl (uS rfl (ssub_refl))))))
        refine sV (vP (bool_ev rfl hg) rfl) ?_
        exact hcut _ (ssub_head (by first | rfl | (rw [hg]; rfl) | simp_all) (by repeat (first | exact ssub_refl | refine uS rfl ?_)))
      refine sV (vM rfl) (st_cut (k := 34) (d := 61) (v := .bool (decide (30 < (p.lines.length : Int)) || decide (30 < (p.holds.length : Int)) || (decide (30 < (p.puts.length : Int)) && decide ((p.puts.length : Int) ≤ 400)) || (decide (30 < (p.did.length : Int)) && decide ((p.did.length : Int) ≤ 400)))) (fun hcut => bool_want (b := decide (30 < (p.lines.length : Int)) || decide (30 < (p.holds.length : Int)) || (decide (30 < (p.puts.length : Int)) && decide ((p.puts.length : Int) ≤ 400))) false (fun hg => ?_) (fun hg => ?_)) ?_)
      · refine st_sk rfl rfl hg ?_
        refine st_sk rfl rfl hg ?_
        refine st_sk rfl rfl hg ?_
        refine st_sk rfl rfl hg ?_
        refine st_sk rfl rfl hg ?_
        refine st_sku rfl rfl ?_
        refine st_sku rfl rfl ?_
        refine st_sku rfl rfl ?_
        refine st_sku rfl rfl ?_
        refine st_sk rfl rfl hg ?_
        refine sV (v_pick_true (bool_ev rfl hg) rfl) ?_
        exact hcut _ (ssub_head (by first | rfl | (rw [hg]; rfl) | simp_all) (uS rfl (uS rfl (uS rfl (uS rfl (uS rfl (uS rfl (uS rfl (uS rfl (uS rfl (uS rfl (ssub_refl))))))))))))
      · skip
        refine st_vg rfl (bG rfl hg) (vF rfl fa77_8 rfl) (st_vg rfl (bG rfl hg) (v_ldy rfl ld62) ?_)
        refine st_vg rfl (bG rfl hg) (v_len rfl Tryz.underlying62) (st_vg rfl (bG rfl hg) (v_gtr rfl rfl) (st_vg rfl (bG rfl hg) (vM rfl) (st_cut (k := 33) (d := 60) (v := .bool (decide (30 < (p.did.length : Int)) && decide ((p.did.length : Int) ≤ 400))) (fun hcut => bool_want (b := decide (30 < (p.did.length : Int))) true (fun hg1 => ?_) (fun hg1 => ?_)) ?_)))
        · refine st_sk rfl rfl hg1 ?_
          refine st_sk rfl rfl hg1 ?_
          refine st_sk rfl rfl hg1 ?_
          refine st_sk rfl rfl hg1 ?_
          refine st_vg rfl (bG rfl hg) (vP (bool_ev rfl hg1) rfl) ?_
          exact hcut _ (ssub_head (by first | rfl | (rw [hg1]; rfl) | simp_all) (uS rfl (uS rfl (uS rfl (uS rfl (ssub_refl))))))
        · skip
          refine st_vg rfl (bG rfl hg1) (vF rfl fa77_8 rfl) (st_vg rfl (bG rfl hg1) (v_ldy rfl ld62) ?_)
          refine st_vg rfl (bG rfl hg1) (v_len rfl Tryz.underlying62) (st_vg rfl (bG rfl hg1) (v_leq rfl rfl) (st_vg rfl (bG rfl hg) (v_pick_true (bool_ev rfl hg1) rfl) ?_))
          exact hcut _ (ssub_head (by first | rfl | (rw [hg1]; rfl) | simp_all) (uS rfl (uS rfl (uS rfl (uS rfl (ssub_refl))))))
        refine sV (vP (bool_ev rfl hg) rfl) ?_
        exact hcut _ (ssub_head (by first | rfl | (rw [hg]; rfl) | simp_all) (by repeat (first | exact ssub_refl | refine uS rfl ?_)))
      refine sV (vM rfl) (st_cut (k := 40) (d := 67) (v := .bool (decide (30 < (p.lines.length : Int)) || decide (30 < (p.holds.length : Int)) || (decide (30 < (p.puts.length : Int)) && decide ((p.puts.length : Int) ≤ 400)) || (decide (30 < (p.did.length : Int)) && decide ((p.did.length : Int) ≤ 400)) || decide (410 < (p.puts.length : Int)))) (fun hcut => bool_want (b := decide (30 < (p.lines.length : Int)) || decide (30 < (p.holds.length : Int)) || (decide (30 < (p.puts.length : Int)) && decide ((p.puts.length : Int) ≤ 400)) || (decide (30 < (p.did.length : Int)) && decide ((p.did.length : Int) ≤ 400))) false (fun hg => ?_) (fun hg => ?_)) ?_)
      · refine st_sk rfl rfl hg ?_
        refine st_sk rfl rfl hg ?_
        refine st_sk rfl rfl hg ?_
        refine st_sk rfl rfl hg ?_
        refine sV (v_pick_true (bool_ev rfl hg) rfl) ?_
        exact hcut _ (ssub_head (by first | rfl | (rw [hg]; rfl) | simp_all) (uS rfl (uS rfl (uS rfl (uS rfl (ssub_refl))))))
      · skip
        refine st_vg rfl (bG rfl hg) (vF rfl fa77_1 rfl) (st_vg rfl (bG rfl hg) (v_ldy rfl ld74) ?_)
        refine st_vg rfl (bG rfl hg) (v_len rfl Tryz.underlying74) (st_vg rfl (bG rfl hg) (v_gtr rfl rfl) (sV (vP (bool_ev rfl hg) rfl) ?_))
        exact hcut _ (ssub_head (by first | rfl | (rw [hg]; rfl) | simp_all) (uS rfl (uS rfl (uS rfl (uS rfl (ssub_refl))))))
      refine sV (vM rfl) (st_cut (k := 46) (d := 73) (v := .bool (decide (30 < (p.lines.length : Int)) || decide (30 < (p.holds.length : Int)) || (decide (30 < (p.puts.length : Int)) && decide ((p.puts.length : Int) ≤ 400)) || (decide (30 < (p.did.length : Int)) && decide ((p.did.length : Int) ≤ 400)) || decide (410 < (p.puts.length : Int)) || decide (410 < (p.did.length : Int)))) (fun hcut => bool_want (b := decide (30 < (p.lines.length : Int)) || decide (30 < (p.holds.length : Int)) || (decide (30 < (p.puts.length : Int)) && decide ((p.puts.length : Int) ≤ 400)) || (decide (30 < (p.did.length : Int)) && decide ((p.did.length : Int) ≤ 400)) || decide (410 < (p.puts.length : Int))) false (fun hg => ?_) (fun hg => ?_)) ?_)
      · refine st_sk rfl rfl hg ?_
        refine st_sk rfl rfl hg ?_
        refine st_sk rfl rfl hg ?_
        refine st_sk rfl rfl hg ?_
        refine sV (v_pick_true (bool_ev rfl hg) rfl) ?_
        exact hcut _ (ssub_head (by first | rfl | (rw [hg]; rfl) | simp_all) (uS rfl (uS rfl (uS rfl (uS rfl (ssub_refl))))))
      · skip
        refine st_vg rfl (bG rfl hg) (vF rfl fa77_8 rfl) (st_vg rfl (bG rfl hg) (v_ldy rfl ld62) ?_)
        refine st_vg rfl (bG rfl hg) (v_len rfl Tryz.underlying62) (st_vg rfl (bG rfl hg) (v_gtr rfl rfl) (sV (vP (bool_ev rfl hg) rfl) ?_))
        exact hcut _ (ssub_head (by first | rfl | (rw [hg]; rfl) | simp_all) (uS rfl (uS rfl (uS rfl (uS rfl (ssub_refl))))))
      refine sN (nK [1, 3, 4, 73] rfl (nT (cC rfl (fun hq => ?_) (fun hq => ?_))))
      · skip
        have hr := hbad (by unfold smallP; rw [show smallG p = true from hq]; rfl)
        subst hr
        refine cS (cR (sV (vA rfl) (sN (nK [2] rfl (nT (cT (xR (xt_ret_block (xR (xR (xt_ret_block (xR ?_))))))))))))
        exact xt_rt rfl ⟨rfl, rfl⟩ (by (repeat (refine Sub.sel (by repeat (first | exact Sel.here | apply Sel.there)) ?_)); (repeat apply Sub.cons); first | exact Sub.refl _ | exact Sub.nil _)
      · skip
        refine cK (xT (cS (cR (sV (vA rfl) (sN (nK [1, 3, 4, 5] rfl (nT (cd_block (cd_lq (σ := Nat) (fun k => [(1, .pointer (some ⟨b1, 0, none⟩)), (3, .int .i64 (i : Nat)), (4, .pointer (some ⟨b4, 0, none⟩)), (5, .int .i64 (k : Nat))]) (fun _ => pt b4 (cl (pC (.slice al p.lines.length cl') (.slice ap' p.puts.length cp') (.slice ah p.holds.length ch') (.slice ad p.did.length cd') p) 77) :: pt b1 (cl [.slice aj y.jobs.length cj, .slice ap y.procs.length cp] 27) :: S :: hr) (fun k => k ≤ p.lines.length ∧ ∀ (j : Nat) (hj : j < p.lines.length), j < k → decide (((p.lines[j]).asks.length : Int) ≤ 30) = true) (fun k => p.lines.length - k) 0 ⟨Nat.zero_le _, fun j _ hj => by omega⟩ ?_)))))))))
        rintro k ⟨hk, hallk⟩
        refine cS (cS (cR (sV (vM rfl) (sV (vF rfl fa77_0 rfl) (sV (v_ldy rfl ld73) ?_)))))
        refine sV (v_len rfl Tryz.underlying73) (sV (v_lss rfl rfl) (sN (nK [1, 3, 4, 5, 78] rfl (nT (cC rfl (fun hd2 => ?_) (fun hd2 => ?_))))))
        · skip
          have hkt : k < p.lines.length := by simpa using hd2
          obtain ⟨c1, c2, c3, cus, hcv, hcus, hcrd, av, rfl, hA⟩ := hL.at (List.getElem?_eq_getElem hkt)
          obtain ⟨aa, ac, rfl, _⟩ := id hA
          refine cK (xT (cS (cd_block (cS (cR (sV (vF rfl fa77_0 rfl) (sV (v_ldy rfl ld73) ?_)))))))
          refine sV (vM rfl) (sV (v_indexAddr (k := k) (congrArg some hcv) rfl sl73 rfl hkt rfl) (sV (vF rfl fa120_1 rfl) (sV (v_ldy rfl ld118) ?_)))
          refine sV (v_len rfl Tryz.underlying118) (sV (v_gtr rfl rfl) (sN (nK [1, 3, 4, 5, 88] rfl (nT (cC rfl (fun hx => ?_) (fun hx => ?_))))))
          · skip
            have hr := hbad (by
              unfold smallP
              rw [all_bad (g := fun l : Line => decide ((l.asks.length : Int) ≤ 30)) hkt (by rw [decide_eq_false_iff_not]; simpa using hx), Bool.and_false])
            subst hr
            refine cS (cR (sV (vA rfl) (sN (nK [2] rfl (nT (cT (xt_ret_block (xR (xR (xt_ret_block (xt_ret_block (xR (xR (xt_ret_block (xR ?_)))))))))))))))
            exact xt_rt rfl ⟨rfl, rfl⟩ (by (repeat (refine Sub.sel (by repeat (first | exact Sel.here | apply Sel.there)) ?_)); (repeat apply Sub.cons); first | exact Sub.refl _ | exact Sub.nil _)
          · skip
            refine cK (xB (xT (cR (sV (vM rfl) (sV (v_add rfl rfl (by unfold I64 at *; omega)) (sV (vA rfl) (sN (nK [1, 3, 4, 5] rfl (nx_xt (xt_aq (k + 1) ⟨hkt, fun j hj' hji => ?_⟩ (by show _ - _ < _ - _; omega)))))))))))
            by_cases hjk : j = k
            · subst hjk; simpa using hx
            · exact hallk j hj' (by omega)
        · skip
          have hkl : k = p.lines.length := by have : ¬ k < p.lines.length := by simpa using hd2
                                              omega
          refine cd_exit (xE (xE (xt_exit_block (xB (xT (cR (sV (vM rfl) (sV (v_add rfl rfl (by unfold I64 at *; omega)) (sV (vA rfl) (sN (nK [1, 3] rfl (nx_xt ?_))))))))))))
          refine xt_aq (i + 1) ⟨hlt, hgood (by
            unfold smallP
            rw [show smallG p = false from hq, all_good (g := fun l : Line => decide ((l.asks.length : Int) ≤ 30)) (fun j hj' => hallk j hj' (by omega))]
            rfl)⟩ (by show _ - _ < _ - _; omega)
    · skip
      have hin : i = y.procs.length := by have : ¬ i < y.procs.length := by simpa using hd
                                          omega
      rw [all_good (g := smallP) (fun j hj' => hall j hj' (by omega))] at hr0
      subst hr0
      refine cd_exit (xE (xE (xt_exit_block (xT (cS (cR (sV (vA rfl) (sN (nK [2] rfl (nT (cT ?_)))))))))))
      exact xt_rt rfl ⟨rfl, rfl⟩ (by (repeat (refine Sub.sel (by repeat (first | exact Sel.here | apply Sel.there)) ?_)); (repeat apply Sub.cons); first | exact Sub.refl _ | exact Sub.nil _)
set_option maxHeartbeats 1000000 in
set_option maxRecDepth 100000 in
theorem waitChecks_ct {jv : Value} {jobs : List (List Move)} {spots : Int} (hj : Row S 1 (jobR S) jv jobs) (hs : I64 spots) : Ct Tryz.prog 3 #[jv, .int .i64 spots] [S] fun u h' => u = .bool true ∧ h' = [S] := by
  refine ct_of (n := 45) Tryz.func3 rfl rfl (len rfl) fun hr w0 => ?_
  refine cS (cR (sV (vA rfl) (sN (nT (cS (cS (cR (sV (vM rfl) (st_clr rfl rfl en12 rfl (few_ct hj) ?_)))))))))
  refine sV (v_not rfl) (sN (nK [0, 1, 4, 11] rfl (nT (cC rfl (fun h0 => ?_) (fun h0 => ?_)))))
  · skip
    refine cS (cR (st_cl rfl rfl en13 rfl (sanity_ct) ?_))
    rintro u h' ⟨rfl, rfl⟩
    refine sV (vA rfl) (sN (nK [4] rfl (nT (cT (xR (xt_law rfl ?_))))))
    refine Sub.sel (by repeat (first | exact Sel.here | apply Sel.there)) ?_
    repeat apply Sub.cons
    exact Sub.refl _
  · skip
    have hfew : fewE jobs = true := by simpa using h0
    have hfit := few_Fits hfew
    refine cK (xT (cS (cR (sV (vM rfl) (sV (vM rfl) (st_cl rfl rfl en14 rfl (new_ct hj hfit hs) ?_))))))
    rintro u h' ⟨T0, rfl, ys0, rfl, hy0⟩
    obtain ⟨ja, pa0, rfl, hc1, hc2⟩ := yardR_cells hy0
    refine sV (vM rfl) (sV (v_extract rfl rfl) (sV (v_extract rfl rfl) (st_alc al27 fun b5 => ?_)))
    refine st_stoW rfl rfl sz27 rfl (by simp [hc1, hc2]) ?_
    refine sV (vA rfl) (sN (nK [0, 1, 4, 5, 6] rfl (nT (cS (cR (sV (vM rfl) (sV (vM rfl) (st_cl rfl rfl en15 rfl (rnew_ct hj hfit hs) ?_))))))))
    rintro u h' ⟨T1, rfl, ys1, rfl, hy1⟩
    obtain ⟨ja1, pa1, rfl, hd1, hd2⟩ := yardR_cells hy1
    simp only [List.cons_append, List.nil_append]
    refine st_alc al32 fun b7 => ?_
    refine st_stoW rfl rfl sz32 rfl (by rw [List.all_cons, List.all_cons, hd1, hd2]; rfl) ?_
    refine sN (nK [0, 1, 4, 5, 6, 7] rfl (nT (cS (cR (sV (v_ldn rfl ld27 rfl rds_pt) ?_)))))
    refine sV (vF rfl fa32_0 rfl) (sV (v_ldn (vs := [ja1, pa1]) rfl ld27 rfl (rds_sub rds_pt rfl)) ?_)
    refine st_clr rfl rfl en16 rfl (reads_star (sameYards_ct (S := Res.star [T0, T1, S]) (hy0.mono (rd_in .here)) (hy1.mono rd_tail) (newY_fit hfit))) ?_
    rw [show decide (newY jobs spots = newY jobs spots) = true from decide_eq_true rfl]
    refine sV (vA rfl) (sN (nK [0, 1, 4, 6, 7, 8] rfl (nT (cS (cR (st_cl rfl rfl en13 rfl (sanity_ct) ?_))))))
    rintro u h' ⟨rfl, rfl⟩
    refine sV (vM rfl) (st_vg rfl rfl (vM rfl) (st_vg rfl rfl (vM rfl) (st_clrg rfl rfl rfl rfl en17 rfl (check_ct hj hfit hs) ?_)))
    refine st_vg rfl rfl (vM rfl) (st_vg rfl rfl (vM rfl) (st_clrg rfl rfl rfl rfl en18 rfl (rcheck_ct hj hfit hs) ?_))
    refine st_vg rfl rfl (v_is (show Value.bool (check jobs spots == check jobs spots) = .bool true by simp) (v_eql rfl rfl)) ?_
    refine sV (v_pick_true rfl rfl) (sV (vM rfl) (st_vg rfl rfl (vM rfl) (st_vg rfl rfl (vF rfl fa32_1 rfl) (st_vg rfl rfl (v_ldy rfl ld28) ?_))))
    refine st_vg rfl rfl (v_is (show Value.bool (check jobs spots == check jobs spots) = .bool true by simp) (v_eql rfl rfl)) ?_
    refine sV (v_pick_true rfl rfl) (sV (vM rfl) (st_vg rfl rfl (vM rfl) (sV (v_pick_true rfl rfl) (sV (vA rfl) (sN (nK [4] rfl (nT (cT (xt_law rfl ?_)))))))))
    refine Sub.sel (by repeat (first | exact Sel.here | apply Sel.there)) ?_
    repeat apply Sub.cons
    exact Sub.refl _
end
end Go.Wt
namespace Go.Wt
open Go Go.Ck Go.Proofs Go.Proofs.YtboepbencndobaaGreat Fx
attribute [local irreducible] Go.Ck.Sub St Cd Xt Nx DrL LsW
theorem blk_bd (acc : List (List Did)) (d : Did) (m : Nat) (h : ∀ b ∈ acc, b.length ≤ m) : (blk acc d).length ≤ acc.length + 1 ∧ ∀ b ∈ blk acc d, b.length ≤ m + 1 := by
  rcases List.eq_nil_or_concat acc with rfl | ⟨ls, x, rfl⟩
  · exact ⟨by simp [blk_nil], fun b hb => by simp [blk_nil] at hb; subst hb; simp⟩
  · rw [List.concat_eq_append] at h ⊢
    have hx := h x (by simp)
    have hl : ∀ b ∈ ls, b.length ≤ m := fun b hb => h b (by simp [hb])
    unfold blk
    rw [List.getLast?_append, List.getLast?_singleton]
    simp only [Option.some_or]
    split
    · refine ⟨by simp, fun b hb => ?_⟩
      simp only [List.dropLast_concat, List.mem_append, List.mem_singleton] at hb
      rcases hb with hb | rfl
      · have := hl b hb; omega
      · simp; omega
    · refine ⟨by simp, fun b hb => ?_⟩
      simp only [List.mem_append, List.mem_singleton] at hb
      rcases hb with (hb | rfl) | rfl
      · have := hl b hb; omega
      · omega
      · simp
theorem blks_bd : ∀ (ds : List Did) (acc : List (List Did)) (m : Nat), (∀ b ∈ acc, b.length ≤ m) → (ds.foldl blk acc).length ≤ acc.length + ds.length ∧ ∀ b ∈ ds.foldl blk acc, b.length ≤ m + ds.length
  | [], acc, m, h => ⟨by simp, fun b hb => by have := h b hb; simpa using this⟩
  | d :: ds, acc, m, h => by
    obtain ⟨h1, h2⟩ := blk_bd acc d m h
    obtain ⟨h3, h4⟩ := blks_bd ds (blk acc d) (m + 1) h2
    rw [List.foldl_cons]
    exact ⟨by simp; omega, fun b hb => by have := h4 b hb; simp; omega⟩
theorem blocks_few {y : Yard} (hf : Fit y) (spot : Int) : (blocksE y spot).1.length ≤ 1000000 ∧ ∀ l ∈ (blocksE y spot).1, l.length ≤ 1000000 := by
  unfold blocksE
  split
  · rename_i h
    obtain ⟨_, hsp⟩ := openedE_zero h
    obtain ⟨_, hs1⟩ := hsp spot (by simp)
    have h5 := hf.2.2 _ (List.getElem_mem hs1)
    rw [pr_get hs1]
    have h6 := h5.2.2.2.1
    obtain ⟨h3, h4⟩ := blks_bd (y.procs[spot.toNat]).did [] 0 (fun b hb => by cases hb)
    exact ⟨by simp at h3; simp only; omega, fun l hl => by have := h4 l hl; omega⟩
  · exact ⟨by simp, fun l hl => by cases hl⟩
section
variable {S : Res}
set_option maxHeartbeats 2000000 in
set_option maxRecDepth 100000 in
theorem waitStates_ct {ys : List Value} {y : Yard} {spot : Int} (hy : yardR S ys y) (hsp : I64 spot) : Ct Tryz.prog 4 #[.agg ys.toArray, .int .i64 spot] [S] fun u h' => u = .bool true ∧ h' = [S] := by
  obtain ⟨jv, pv, rfl, hj, hp⟩ := id hy
  obtain ⟨aj, cj, rfl, _⟩ := id hj
  obtain ⟨ap, cp, rfl, _⟩ := id hp
  refine ct_of (n := 124) Tryz.func4 rfl rfl (len rfl) fun hr w0 => ?_
  refine cS (cR (st_bx rfl rfl fun b2 => ?_))
  refine sV (vA rfl) (sN (nK [1, 2, 4] rfl (nT (cS (cS (cR (sV (v_ldn rfl ld27 rfl rds_pt) ?_)))))))
  refine st_clr rfl rfl en19 rfl (small_ct hy) ?_
  refine sV (v_not rfl) (sN (nK [1, 2, 4, 21] rfl (nT (cC rfl (fun h0 => ?_) (fun h0 => ?_)))))
  · skip
    refine cS (cR (st_cl rfl rfl en13 rfl (sanity_ct) ?_))
    rintro u h' ⟨rfl, rfl⟩
    refine sV (vA rfl) (sN (nK [4] rfl (nT (cT (xR (xt_law rfl ?_))))))
    refine Sub.sel (by repeat (first | exact Sel.here | apply Sel.there)) ?_
    repeat apply Sub.cons
    exact Sub.refl _
  · skip
    have hsm : smallE y = true := by simpa using h0
    have hfit := small_fit hsm
    refine cK (xT (cS (cR (sV (v_ldn rfl ld27 rfl rds_pt) ?_))))
    refine sV (vM rfl) (st_clr rfl rfl en20 rfl (State_ct hy hfit spot) ?_)
    refine sV (vM rfl) (sV (v_extract rfl rfl) (sV (v_extract rfl rfl) (sV (vA rfl) (sV (vA rfl) (sN (nK [1, 2, 4, 5, 6] rfl (nT (cS (cR (sV (v_ldn rfl ld27 rfl rds_pt) ?_))))))))))
    refine sV (vM rfl) (st_clr rfl rfl en21 rfl (rState_ct hy hfit spot) ?_)
    generalize stateE y spot = st
    obtain ⟨n1, e1⟩ := st
    simp only
    refine st_alc al41 fun b7 => ?_
    refine st_stoW rfl rfl sz41 rfl rfl ?_
    refine sN (nK [1, 2, 4, 5, 6, 7] rfl (nT (cS (cR (sV (v_ldn rfl ld27 rfl rds_pt) ?_)))))
    refine st_cl rfl rfl en22 rfl (Ready_ct hy hfit) ?_
    rintro u h' ⟨T1, rfl, v1, rfl, hT1⟩
    subst hT1
    refine sV (vM rfl) (sV (v_extract rfl rfl) (sV (v_extract rfl rfl) (sV (vA rfl) (sV (vA rfl) (sN (nK [1, 2, 4, 5, 6, 7, 8, 9] rfl (nT (cS (cR (sV (v_ldn rfl ld27 rfl rds_pt) ?_))))))))))
    refine st_cl rfl rfl en23 rfl (rReady_ct hy hfit) ?_
    rintro u h' ⟨T2, rfl, v2, rfl, hT2⟩
    subst hT2
    have hrl : (readyE y).1.length ≤ 1000000 := by
      unfold readyE
      split
      · have := rdy_len y.procs y.procs.length; have := hfit.2.1; simp only; omega
      · simp
    generalize readyE y = re at *
    obtain ⟨rl, e2⟩ := re
    simp only at hrl ⊢
    refine st_rowf (v := v2) (by repeat (first | exact Sel.here | apply Sel.there)) (fun va vc hve _ _ => ?_)
    subst hve
    refine st_alc al47 fun b10 => ?_
    refine st_stoW rfl rfl sz47 rfl rfl ?_
    refine sN (nK [1, 2, 4, 5, 6, 7, 8, 9, 10] rfl (nT (cS (cR (sV (v_ldn rfl ld27 rfl rds_pt) ?_)))))
    refine st_clr rfl rfl en24 rfl (Ended_ct hy hfit) ?_
    refine sV (vM rfl) (sV (v_extract rfl rfl) (sV (v_extract rfl rfl) (sV (vA rfl) (sV (vA rfl) (sN (nK [1, 2, 4, 5, 6, 7, 8, 9, 10, 11, 12] rfl (nT (cS (cR (sV (v_ldn rfl ld27 rfl rds_pt) ?_))))))))))
    refine st_clr rfl rfl en25 rfl (rEnded_ct hy hfit) ?_
    generalize endedE y = ed
    obtain ⟨ib, e3⟩ := ed
    simp only
    refine st_alc al52 fun b13 => ?_
    refine st_stoW rfl rfl sz52 rfl rfl ?_
    refine sN (nK [1, 2, 4, 5, 6, 7, 8, 9, 10, 11, 12, 13] rfl (nT (cS (cR (sV (v_ldn rfl ld27 rfl rds_pt) ?_)))))
    refine sV (vM rfl) (st_cl rfl rfl en26 rfl (Blocks_ct hy hfit spot) ?_)
    rintro u h' ⟨T3, rfl, v3, rfl, hr3⟩
    obtain ⟨o3, c3, rfl, _⟩ := id hr3
    refine sV (vM rfl) (sV (v_extract rfl rfl) (sV (v_extract rfl rfl) (sV (vA rfl) (sV (vA rfl) (sN (nK [1, 2, 4, 5, 6, 7, 8, 9, 10, 11, 12, 13, 14, 15] rfl (nT (cS (cR (sV (v_ldn rfl ld27 rfl rds_pt) ?_))))))))))
    refine sV (vM rfl) (st_cl rfl rfl en27 rfl (rBlocks_ct hy hfit spot) ?_)
    rintro u h' ⟨T4, rfl, v4, rfl, hr4⟩
    obtain ⟨o4, c4, rfl, _⟩ := id hr4
    obtain ⟨hbn, hbl⟩ := blocks_few hfit spot
    generalize blocksE y spot = bl at *
    obtain ⟨bl, e4⟩ := bl
    simp only at hr3 hr4 hbn hbl ⊢
    simp only [List.cons_append, List.nil_append]
    refine st_alc al58 fun b16 => ?_
    refine st_stoW rfl rfl sz58 rfl rfl ?_
    refine sN (nK [4, 5, 6, 7, 8, 9, 10, 11, 12, 13, 14, 15, 16] rfl (nT (cS (cR (sV (vM rfl) (sV (vF rfl fa47_0 rfl) (sV (v_ldy rfl ld43) ?_)))))))
    refine st_ok (r := VR v1 3 1 (rl.map iC)) (by repeat (first | exact Sel.here | apply Sel.there)) fun hk1 => ?_
    refine st_ok (r := VR (.slice va (rl.map iC).length vc) 3 1 (rl.map iC)) (by repeat (first | exact Sel.here | apply Sel.there)) fun hk2 => ?_
    refine st_clr rfl rfl en28 rfl (reads_star (same28_ct (S := Res.star [VR v1 3 1 (rl.map iC), VR (.slice va (rl.map iC).length vc) 3 1 (rl.map iC)]) (l := rl) (l' := rl) (vr_rowS (.head _) hk1) (vr_rowS (.tail _ (.head _)) hk2) hrl)) ?_
    rw [show (rl == rl) = true from beq_self_eq_true rl]
    refine sV (vA rfl) (sN (nK [4, 5, 6, 7, 9, 10, 11, 12, 13, 14, 15, 16, 17] rfl (nT (cS (cS (cR (sV (vM rfl) (sV (vF rfl fa58_1 rfl) (sV (v_ldy rfl ld28) ?_)))))))))
    refine sV (v_is (show Value.bool (e4 != e4) = .bool false by simp) (v_neq rfl rfl)) ?_
    refine sV (vM rfl) (st_vg rfl rfl (vM rfl) (st_vg rfl rfl (v_len rfl Tryz.underlying54) (st_vg rfl rfl (vF rfl fa58_0 rfl) (st_vg rfl rfl (v_ldy rfl ld54) ?_))))
    refine st_vg rfl rfl (v_len rfl Tryz.underlying54) (st_vg rfl rfl (v_is (show Value.bool ((bl.length : Int) != (bl.length : Int)) = .bool false by simp) (v_neq rfl rfl)) ?_)
    refine sV (vP rfl rfl) (sN (nK [4, 5, 6, 7, 9, 10, 11, 12, 13, 14, 16, 17, 70] rfl (nT (cd_false rfl ?_))))
    refine cK (xT (cS (cS (cR (sV (vA rfl) (sN (nK [4, 5, 6, 7, 9, 10, 11, 12, 13, 14, 16, 17, 18] rfl (nT (cd_block (cd_lq (σ := Nat) (fun i => [(5, .int .i64 n1), (6, .int .i64 e1), (7, .pointer (some ⟨b7, 0, none⟩)), (9, .int .i64 e2), (10, .pointer (some ⟨b10, 0, none⟩)), (11, .bool ib), (12, .int .i64 e3), (13, .pointer (some ⟨b13, 0, none⟩)), (14, .slice o3 bl.length c3), (16, .pointer (some ⟨b16, 0, none⟩)), (17, .bool true), (18, .int .i64 (i : Nat))]) (fun _ => pt b7 (cl [.int .i64 n1, .int .i64 e1] 41) :: pt b10 (cl [.slice va (rl.map iC).length vc, .int .i64 e2] 47) :: pt b13 (cl [.bool ib, .int .i64 e3] 52) :: pt b16 (cl [.slice o4 bl.length c4, .int .i64 e4] 58) :: T4 :: T3 :: S :: hr) (fun i => i ≤ bl.length) (fun i => bl.length - i) 0 (Nat.zero_le _) ?_))))))))))
    intro i hi
    refine cS (cS (cR (sV (vM rfl) (sV (vM rfl) (sV (v_len rfl Tryz.underlying54) (sV (v_lss rfl rfl) (sN (nK [5, 6, 7, 9, 10, 11, 12, 13, 14, 16, 17, 18, 74] rfl (nT (cC rfl (fun hd => ?_) (fun hd => ?_)))))))))))
    · skip
      have hlt : i < bl.length := by simpa using hd
      obtain ⟨c1, c2, c5, cu, hcv, hcrd, cv, hcu, hA⟩ := hr3.at1 (List.getElem?_eq_getElem hlt)
      obtain ⟨c1', c2', c5', cu', hcv', hcrd', cv', hcu', hA'⟩ := hr4.at1 (List.getElem?_eq_getElem hlt)
      simp only [List.cons.injEq, and_true] at hcu hcu'
      subst hcu hcu'
      obtain ⟨aa, ac, rfl, _⟩ := id hA
      obtain ⟨aa', ac', rfl, _⟩ := id hA'
      refine cK (xT (cS (cd_block (cd_drawh (ork [(0, 2), (1, 2), (2, 2), (3, 2), (4, 2), (5, 1), (6, 2), (7, 1), (8, 2), (9, 2), (10, 1), (11, 1), (12, 2), (13, 2)] .nil) (fun _ => true) mixed (by kernel_rfl) ?_))))
      refine dV rfl (vM rfl) (dV rfl (vM rfl) (dp_vg rfl rfl rfl (vM rfl) (dp_vg rfl rfl rfl (vM rfl) (dp_vg rfl rfl rfl (v_indexAddr (k := i) (congrArg some hcv) rfl sl54 rfl hlt rfl) (dr_vg rfl rfl rfl (v_ldy rfl ld62) ?_)))))
      refine dp_vg rfl rfl rfl (vF rfl fa58_0 rfl) (dr_vg rfl rfl rfl (v_ldy rfl ld54) ?_)
      refine dp_vg rfl rfl rfl (vM rfl) (dp_vg rfl rfl rfl (v_indexAddr (k := i) (congrArg some hcv') rfl sl54 rfl hlt rfl) (dr_vg rfl rfl rfl (v_ldy rfl ld62) ?_))
      refine dr_clrg rfl rfl rfl rfl rfl en29 rfl (reads_star (same29_ct (S := Res.star [T4, T3]) (hA.mono (rd_in (.there .here)) fun _ _ _ h => h) (hA'.mono (rd_in .here) fun _ _ _ h => h) (hbl _ (List.getElem_mem hlt)))) ?_
      rw [show (bl[i] == bl[i]) = true from beq_self_eq_true _]
      refine dV rfl (v_pick_true rfl rfl) (dV rfl (vA rfl) (dr_nil (nK [5, 6, 7, 9, 10, 11, 12, 13, 14, 16, 17, 18] rfl (nx_xt (xB (xT (cR (sV (vM rfl) (sV (v_add rfl rfl (by unfold I64 at *; omega)) (sV (vA rfl) (sN (nK [5, 6, 7, 9, 10, 11, 12, 13, 14, 16, 17, 18] rfl (nx_xt ?_)))))))))))))
      refine xt_aq (i + 1) hlt (by show _ - _ < _ - _; omega)
    · skip
      refine cd_exit (xE (xE (xt_exit_block (xT (cS (cR (st_cl rfl rfl en13 rfl (sanity_ct) ?_)))))))
      rintro u h' ⟨rfl, rfl⟩
      refine sV (vM rfl) (st_vg rfl rfl (vM rfl) (sV (v_pick_true rfl rfl) (sV (vM rfl) (st_vg rfl rfl (vM rfl) (st_vg rfl rfl (vF rfl fa41_0 rfl) (st_vg rfl rfl (v_ldy rfl ld3) ?_))))))
      refine st_vg rfl rfl (v_is (show Value.bool (n1 == n1) = .bool true by simp) (v_eql rfl rfl)) ?_
      refine sV (v_pick_true rfl rfl) (sV (vM rfl) (st_vg rfl rfl (vM rfl) (st_vg rfl rfl (vF rfl fa41_1 rfl) (st_vg rfl rfl (v_ldy rfl ld28) ?_))))
      refine st_vg rfl rfl (v_is (show Value.bool (e1 == e1) = .bool true by simp) (v_eql rfl rfl)) ?_
      refine sV (v_pick_true rfl rfl) (sV (vM rfl) (st_vg rfl rfl (vM rfl) (st_vg rfl rfl (vF rfl fa47_1 rfl) (st_vg rfl rfl (v_ldy rfl ld28) ?_))))
      refine st_vg rfl rfl (v_is (show Value.bool (e2 == e2) = .bool true by simp) (v_eql rfl rfl)) ?_
      refine sV (v_pick_true rfl rfl) (sV (vM rfl) (st_vg rfl rfl (vM rfl) (st_vg rfl rfl (vF rfl fa52_0 rfl) (st_vg rfl rfl (v_ldy rfl ld4) ?_))))
      refine st_vg rfl rfl (v_is (show Value.bool (ib == ib) = .bool true by simp) (v_eql_bool Tryz.underlying4 rfl rfl)) ?_
      refine sV (v_pick_true rfl rfl) (sV (vM rfl) (st_vg rfl rfl (vM rfl) (st_vg rfl rfl (vF rfl fa52_1 rfl) (st_vg rfl rfl (v_ldy rfl ld28) ?_))))
      refine st_vg rfl rfl (v_is (show Value.bool (e3 == e3) = .bool true by simp) (v_eql rfl rfl)) ?_
      refine sV (v_pick_true rfl rfl) (sV (vA rfl) (sN (nK [4] rfl (nT (cT (xt_law rfl ?_))))))
      refine Sub.sel (by repeat (first | exact Sel.here | apply Sel.there)) ?_
      repeat apply Sub.cons
      exact Sub.refl _
end
end Go.Wt
namespace Go.Proofs.YtboepbencndobaaGreat
open Go Go.RowKit Go.ChangeShapes Go.WideShapes Go.Ck Go.Wt
set_option maxRecDepth 100000 in
theorem waitStates_lifted (os : Os) (started : os.Started) (H : Type) (enc : TypeId × Value → H) :
    ReturnsInHanded {} Tryz.checked os 4 .any (Rows.waitStatesSpec.pre6 enc Tryz.prog Tryz.f4 Rows.waitStatesRow.domain false) (Rows.waitStatesSpec.post enc Tryz.prog Tryz.f4 false true false false) := by
  refine returnsInHanded_of_change (C := Tryz.checked) (show ownKnob Tryz.prog.godebug = none by kernel_rfl) started (by kernel_rfl) Tryz.func4
    (ChangeSpec.witness6 (enc := enc) (C := Tryz.checked) false ⟨#[], #[.agg #[.slice none 0 0, .slice none 0 0], .int .i64 0], []⟩ 8 (by kernel_rfl) (by kernel_rfl) (by kernel_rfl) (by kernel_rfl)) ?_
  intro W base args ds gs before hval0 hW hcnd _
  have hval : ∀ (j : Nat) t v, Tryz.f4.params[j]? = some t → args[j]? = some v → Value.okWide Tryz.prog W .any base t v := hval0
  have hW' := hW
  obtain ⟨p, q, hA0, hV, rfl, hfz, hnd⟩ := hW
  have hA : DataW.TrodAll enc Tryz.prog W 0 (fun _ => true) true Tryz.f4.params.toList args.toList ds p := hA0
  rw [Tryz.params4] at hA hval
  obtain ⟨v0, vs0, d0, ds0, p0, q0, hargs, rfl, rfl, h0, r0⟩ := trodAll_cons hA
  obtain ⟨v1, vs1, d1, ds1, p1, q1, rfl, rfl, rfl, h1, r1⟩ := trodAll_cons r0
  obtain ⟨rfl, rfl, rfl⟩ := trodAll_nil r1
  obtain rfl : args = #[v0, v1] := by cases args; simp_all
  obtain ⟨rfl, rfl⟩ := trodVars_none hV
  obtain ⟨y0, e0⟩ := arg_rep (ty := yardTy) (by kernel_rfl) h0
  have g0 := okWide_agg (Tryz.underlying27) (hval 0 27 v0 rfl rfl)
  obtain ⟨y1, e1⟩ := arg_one (ty := .int .i64) (by kernel_rfl) (by kernel_rfl) (hval 1 3 v1 rfl rfl) h1
  have s0 := yard_of e0
  have c0 : v0 = .agg (v0.cells.toList).toArray := by rw [Array.toArray_toList]; exact g0
  generalize v0.cells.toList = us0 at s0 c0
  subst c0
  obtain ⟨rfl, w1⟩ := rep_kind e1
  refine (ct_calls (waitStates_ct s0 (wf_I64 w1)) fun v h' h => ⟨h.1, by rw [h.2]; exact .refl _⟩).mono fun e W' ⟨he, hk⟩ => ⟨_, he, ?_⟩
  exact law_post (tys := [yardTy, .int .i64]) hW' rfl (by kernel_rfl) Tryz.underlying4 (by rw [Tryz.params4]; kernel_rfl) rfl hk
theorem waitStates_holds : Rows.WaitStatesSaid :=
  OpenClaim.holds_of_wide 4 Tryz.f4 rfl rfl rfl rfl rfl rfl rfl ⟨rfl, rfl, rfl, rfl, rfl⟩ rfl rfl rfl rfl rfl (by kernel_rfl) Tryz.func4 (by kernel_rfl)
    (of_decide_eq_true (by kernel_rfl)) (by unfold Func.isWrapper; first | (rw [if_pos (by decide +kernel)]; kernel_rfl) | (rw [if_neg (by decide +kernel)]; exact ⟨rfl, rfl⟩))
    (fun os started H enc _ => waitStates_lifted os started H enc)
end Go.Proofs.YtboepbencndobaaGreat
