/-
  The reference: ready, Ready, Blocks. Conditions: what is read, that lists are not too long.
  The law's bounds on a yard; WaitChecks: for every input the law answers true. Conditions: what is read, that numbers are those of the machine.
  Package wait: Same. Conditions: what is read, that lists are not too long.
-/
import Derived.Test.YtboepbencndobaaGreatM12
import Derived.Test.YtboepbencndobaaGreatM11
set_option linter.unusedVariables false
set_option linter.unusedSimpArgs false
namespace Go.Wt
open Go Go.Ck Go.Proofs Go.Proofs.YtboepbencndobaaGreat Fx
attribute [local irreducible] Go.Ck.Sub St Cd Xt Nx DrL LsW
section
variable {S : Res}
set_option maxRecDepth 100000 in
theorem rready_ct {jv pv : Value} {procs : List Proc} (hp : Row S 9 (procR S) pv procs) (hl : procs.length ≤ 1000000) (hw : ∀ (i : Nat) (hi : i < procs.length), (procs[i]).job < 0 → (procs[i]).waits < 0) (hj1 : jv.oneCell' = true) :
    CtN Tryz.prog 74 #[.agg #[jv, pv]] [S] fun u T => T = VR u 3 1 ((rdy procs procs.length).map iC) ∧ u.oneCell' = true := by
  obtain ⟨ap, cp, rfl, _⟩ := id hp
  refine ct_of (n := 27) Tryz.func74 rfl rfl (len rfl) fun hr w0 => ?_
  refine cS (cR (st_bx rfl rfl fun b1 => ?_))
  refine sV (vA rfl) (sN (nK [1, 2] rfl (nT (cS (cR (sV (vA rfl) (sN (nT (cS (cS (cR (sV (vA rfl) (sN (nT (cd_block (cd_vw (vw_nil 3 1) (cd_lq (σ := Nat × Value) (fun s => [(1, .pointer (some ⟨b1, 0, none⟩)), (3, s.2), (4, .int .i64 (s.1 : Nat))]) (fun s => VR s.2 3 1 ((rdy procs s.1).map iC) :: pt b1 (cl [jv, .slice ap procs.length cp] 27) :: S :: hr) (fun s => s.1 ≤ procs.length ∧ s.2.oneCell' = true) (fun s => procs.length - s.1) (0, .slice none 0 0) ⟨Nat.zero_le _, rfl⟩ ?_)))))))))))))))))
  rintro ⟨k, v⟩ ⟨hk, h1⟩
  simp only at hk h1
  refine cS (cS (cR (sV (vM rfl) (sV (vF rfl fa27_1 rfl) (sV (v_ldy rfl ld25) ?_)))))
  refine sV (v_len rfl Tryz.underlying25) (sV (v_lss rfl rfl) (sN (nK [1, 3, 4, 10] rfl (nT (cC rfl (fun hd => ?_) (fun hd => ?_))))))
  · skip
    have hlt : k < procs.length := by simpa using hd
    have hlen := rdy_len procs k
    refine cK (xT (cS (cd_block (cS (cR (sV (v_ldn rfl ld27 rfl rds_pt) ?_))))))
    refine sV (vM rfl) (st_clr rfl rfl en70 rfl (rstate_ct hp hlt (hw k hlt) hj1) ?_)
    refine sV (vA rfl) (sN (nK [1, 3, 4, 5] rfl (nT (cS (cR (sV (vM rfl) (sV (v_eql rfl rfl) (sV (vM rfl) (st_cut (k := 6) (d := 21) (v := .bool ((procs[k]).state == 1 || (procs[k]).state == 2)) (fun hcut => bool_want (b := ((procs[k]).state == 1)) false (fun hg => ?_) (fun hg => ?_)) ?_)))))))))
    · refine st_sk rfl rfl hg ?_
      refine st_sk rfl rfl hg ?_
      refine sV (v_pick_true (bool_ev rfl hg) rfl) ?_
      exact hcut _ (ssub_head (by first | rfl | (rw [hg]; rfl) | simp_all) (uS rfl (uS rfl (ssub_refl))))
    · skip
      refine st_vg rfl (bG rfl hg) (vM rfl) (st_vg rfl (bG rfl hg) (v_eql rfl rfl) (sV (vP (bool_ev rfl hg) rfl) ?_))
      exact hcut _ (ssub_head (by first | rfl | (rw [hg]; rfl) | simp_all) (uS rfl (uS rfl (ssub_refl))))
    refine sN (nK [1, 3, 4, 21] rfl (nT (cC rfl (fun hq => ?_) (fun hq => ?_))))
    · skip
      have hg : (procs[k]).goes = true := hq
      refine cR (sV (vM rfl) (sV (vM rfl) (st_buildSlice (cells := [.int .i64 k]) rfl Tryz.underlying43 inf3 rfl rfl (by kernel_rfl) (ltn rfl) fun b24 => ?_)))
      refine st_app [[.int .i64 k]] rfl rfl Tryz.underlying43 inf3 rfl (by decide) (by repeat (first | exact Sel.here | apply Sel.there)) (by simp) rfl (fun j u2 hu2 => at_here (rd_cl (by simpa using hu2))) (by simp [Value.oneCell']) (by simp; omega) (by simp; omega) (ltn rfl) fun v' hv' _ => ?_
      refine sV (vA rfl) (sN (nK [1, 3, 4] rfl (nx_xt (xB (xT (cR (sV (vM rfl) (sV (v_add rfl rfl (by unfold I64 at *; omega)) (sV (vA rfl) (sN (nK [1, 3, 4] rfl (nx_xt ?_))))))))))))
      rw [show (rdy procs k).map iC ++ [[.int .i64 (k : Int)]] = (rdy procs (k + 1)).map iC by rw [rdy_yes hlt hg]; simp [iC]]
      refine xt_aq (k + 1, v') ⟨hlt, hv'⟩ (by show _ - _ < _ - _; omega)
    · skip
      have hg : (procs[k]).goes = false := hq
      refine cK (xB (xT (cR (sV (vM rfl) (sV (v_add rfl rfl (by unfold I64 at *; omega)) (sV (vA rfl) (sN (nK [1, 3, 4] rfl (nx_xt ?_)))))))))
      rw [← rdy_no hlt hg]
      refine xt_aq (k + 1, v) ⟨hlt, h1⟩ (by show _ - _ < _ - _; omega)
  · skip
    have hkl : k = procs.length := by have : ¬ k < procs.length := by simpa using hd
                                      omega
    subst hkl
    refine cd_exit (xE (xE (xt_exit_block (xT (cS (cR (sV (vM rfl) (sV (vA rfl) (sN (nK [2] rfl (nT (cT ?_))))))))))))
    exact xt_rt rfl ⟨_, rfl, rfl, h1⟩ (by (repeat (refine Sub.sel (by repeat (first | exact Sel.here | apply Sel.there)) ?_)); (repeat apply Sub.cons); first | exact Sub.refl _ | exact Sub.nil _)
set_option maxRecDepth 100000 in
theorem rReady_ct {ys : List Value} {y : Yard} (hy : yardR S ys y) (hf : Fit y) : CtN Tryz.prog 23 #[.agg ys.toArray] [S] fun u T => ∃ v, u = .agg #[v, .int .i64 (readyE y).2] ∧ T = VR v 3 1 ((readyE y).1.map iC) := by
  obtain ⟨jv, pv, rfl, hj, hp⟩ := id hy
  obtain ⟨aj, cj, rfl, _⟩ := id hj
  unfold readyE
  refine ct_of (n := 13) Tryz.func23 rfl rfl (len rfl) fun hr w0 => ?_
  refine cS (cR (st_bx rfl rfl fun b1 => ?_))
  refine st_alc al47 fun b2 => ?_
  refine sN (nK [1, 2] rfl (nT (cS (cR (sV (v_ldn rfl ld27 rfl rds_pt) ?_)))))
  refine st_clr rfl rfl en73 rfl (rRight_ct hy hf) ?_
  refine sV (vA rfl) (sN (nK [1, 2, 3] rfl (nT (cS (cS (cR (sV (vM rfl) (sV (v_neq rfl rfl) (sN (nK [1, 2, 3, 7] rfl (nT (cC rfl (fun h1 => ?_) (fun h1 => ?_)))))))))))))
  · skip
    have hyr : y.right = false := by
      cases hyr : y.right with
      | false => rfl
      | true => rw [hyr] at h1; cases h1
    rw [hyr]
    refine cS (cR (sV (vM rfl) (sV (v_build (cells := [.slice none 0 0, .int .i64 2]) rfl (fun _ => by kernel_rfl)) ?_)))
    refine st_stoW rfl rfl sz47 rfl rfl ?_
    refine sN (nK [2] rfl (nT (cT (xR (xt_vw (vw_nil 3 1) ?_)))))
    exact xt_retV (.cellN rfl ld47 rfl (by repeat (first | exact Sel.here | apply Sel.there)) .nil) ⟨VR (.slice none 0 0) 3 1 [], rfl, .slice none 0 0, rfl, rfl⟩ (by repeat (first | exact Sub.refl _ | exact Sub.nil _ | refine Sub.sel (by repeat (first | exact Sel.here | apply Sel.there)) ?_ | apply Sub.cons))
  · skip
    have hyr : y.right = true := by
      cases hyr : y.right with
      | true => rfl
      | false => rw [hyr] at h1; cases h1
    rw [if_pos hyr]
    refine cK (xT (cS (cR (sV (v_ldn rfl ld27 rfl rds_pt) ?_))))
    refine st_cl rfl rfl en74 rfl (rready_ct hp hf.2.1 (fun i hi => right_waits hyr hi) rfl) ?_
    rintro u h' ⟨T, rfl, rfl, hu1⟩
    refine st_rowf (v := u) (by repeat (first | exact Sel.here | apply Sel.there)) (fun va vc hve _ _ => ?_)
    subst hve
    refine sV (v_build (cells := [.slice va ((rdy y.procs y.procs.length).map iC).length vc, .int .i64 0]) rfl (fun _ => by kernel_rfl)) ?_
    refine st_stoW rfl rfl sz47 rfl rfl ?_
    refine sN (nK [2] rfl (nT (cT ?_)))
    exact xt_retV (.cellN rfl ld47 rfl (by repeat (first | exact Sel.here | apply Sel.there)) .nil) ⟨_, rfl, _, rfl, rfl⟩ (by repeat (first | exact Sub.refl _ | exact Sub.nil _ | refine Sub.sel (by repeat (first | exact Sel.here | apply Sel.there)) ?_ | apply Sub.cons))
set_option maxHeartbeats 1000000 in
set_option maxRecDepth 100000 in
theorem rBlocks_ct {ys : List Value} {y : Yard} (hy : yardR S ys y) (hf : Fit y) (spot : Int) : CtN Tryz.prog 27 #[.agg ys.toArray, .int .i64 spot] [S] fun u T => ∃ v, u = .agg #[v, .int .i64 (blocksE y spot).2] ∧ Row T 1 (nR T 5 dC) v (blocksE y spot).1 := by
  obtain ⟨jv, pv, rfl, hj, hp⟩ := id hy
  obtain ⟨aj, cj, rfl, _⟩ := id hj
  unfold blocksE
  refine ct_of (n := 77) Tryz.func27 rfl rfl (len rfl) fun hr w0 => ?_
  refine cS (cR (st_bx rfl rfl fun b2 => ?_))
  refine st_alc al58 fun b4 => ?_
  refine sN (nK [1, 2, 4] rfl (nT (cS (cR (sV (v_ldn rfl ld27 rfl rds_pt) ?_)))))
  refine sV (vM rfl) (st_clr rfl rfl en69 rfl (rspotted_ct hy hf spot) ?_)
  refine sV (vA rfl) (sN (nK [1, 2, 4, 5] rfl (nT (cS (cS (cR (sV (vM rfl) (sV (v_neq rfl rfl) (sN (nK [1, 2, 4, 5, 14] rfl (nT (cC rfl (fun h1 => ?_) (fun h1 => ?_)))))))))))))
  · skip
    rw [if_neg (by simpa using h1)]
    generalize openedE y [spot] = e at *
    refine cS (cR (sV (vM rfl) (sV (v_build (cells := [.slice none 0 0, .int .i64 e]) rfl (fun _ => by kernel_rfl)) ?_)))
    refine st_stoW rfl rfl sz58 rfl rfl ?_
    refine sN (nK [4] rfl (nT (cT (xR (xt_vw (vw_pure (φ := True) trivial) ?_)))))
    exact xt_retV (.cellN rfl ld58 rfl (by repeat (first | exact Sel.here | apply Sel.there)) .nil) ⟨pureR True, rfl, .slice none 0 0, rfl, Row.nil⟩ (by repeat (first | exact Sub.refl _ | exact Sub.nil _ | refine Sub.sel (by repeat (first | exact Sel.here | apply Sel.there)) ?_ | apply Sub.cons))
  · skip
    have h1' : openedE y [spot] = 0 := by simpa using h1
    rw [if_pos h1']
    obtain ⟨_, hsp⟩ := openedE_zero h1'
    obtain ⟨hs0, hs1⟩ := hsp spot (by simp)
    obtain ⟨q, rfl⟩ := Int.eq_ofNat_of_zero_le hs0
    rw [Int.toNat_natCast] at hs1 ⊢
    obtain ⟨b, off, cp2, us, rfl, hus, hrd, lv, pv', hv, dv, rfl, hL, hP, hH, hD⟩ := hp.at (List.getElem?_eq_getElem hs1)
    have hfpp := hf.2.2 _ (List.getElem_mem hs1)
    obtain ⟨ad, cd', hdv, _⟩ := id hD
    rw [pr_get hs1]
    generalize hpe : y.procs[q] = p at *
    have hdl := hfpp.2.2.2.1
    refine cK (xT (cS (cR (sV (v_build (cells := [.slice none 0 0, .int .i64 0]) rfl (fun _ => by kernel_rfl)) ?_))))
    refine st_alc al58 fun b6 => ?_
    refine st_stoW rfl rfl sz58 rfl rfl ?_
    refine sN (nK [1, 2, 4, 6] rfl (nT (cS (cR (sV (vF rfl fa27_1 rfl) (sV (v_ldy rfl ld25) ?_))))))
    refine sV (vM rfl) (sV (v_indexAddr (k := q) rfl rfl sl25 rfl hs1 rfl) (sV (vF rfl fa77_8 rfl) (sV (v_ldy rfl ld62) ?_)))
    refine sV (vA rfl) (sN (nK [4, 6, 7] rfl (nT (cS (cS (cR (sV (vA rfl) (sN (nT (cd_block (cd_vw (vw_nil 62 1) (cd_pv (pv_add (triv_star (L := []) (fun r h => by cases h))) ?_))))))))))))
    refine cd_lq (σ := Nat × Value × List Value × List (List Did) × LB) (fun s => [(4, .pointer (some ⟨b4, 0, none⟩)), (6, .pointer (some ⟨b6, 0, none⟩)), (7, dv), (8, .int .i64 (s.1 : Nat))]) (fun s => pt b6 (cl [s.2.1, .int .i64 0] 58) :: VR s.2.1 62 1 ((s.2.2.1 ++ s.2.2.2.2.hs).map fun h => [h]) :: Res.star (nrows 81 5 dC s.2.2.1 s.2.2.2.1) :: (s.2.2.2.2.sh ++ (pt b4 (cl [.slice none 0 0, .int .i64 0] 58) :: S :: hr))) (fun s => s.1 ≤ p.did.length ∧ s.2.2.1.length = s.2.2.2.1.length ∧ s.2.1.oneCell' = true ∧ (p.did.take s.1).foldl blk [] = s.2.2.2.1 ++ s.2.2.2.2.ls ∧ (s.2.2.2.2 = none → s.2.2.1 = [] ∧ s.1 = 0) ∧ s.2.2.1.length ≤ s.1 ∧ (s.2.2.2.2 ≠ none → s.2.2.1.length + 1 ≤ s.1) ∧ (∀ h x t, s.2.2.2.2 = some (h, x, t) → t.length ≤ s.1) ∧ ∀ h x t, s.2.2.2.2 = some (h, x, t) → ∀ d, p.did[s.1 - 1]? = some d → d.1 = x.1) (fun s => p.did.length - s.1) (0, .slice none 0 0, [], [], none) ⟨Nat.zero_le _, rfl, rfl, rfl, fun _ => ⟨rfl, rfl⟩, Nat.zero_le _, fun h => absurd rfl h, (fun h x t e => by cases e), fun h x t e => by cases e⟩ ?_
    rintro ⟨k, v, hs, ls, lb⟩ ⟨hk, hkl, h1, hacc, hnone, hle1, hle2, hle3, hkey⟩
    simp only at hk hkl h1 hacc hnone hle1 hle2 hle3 hkey
    refine cS (cS (cR (sV (vM rfl) (sV (vM rfl) (sV (v_len (congrArg some hdv) Tryz.underlying62) (sV (v_lss rfl rfl) (sN (nK [4, 6, 7, 8, 27] rfl (nT (cC rfl (fun hd => ?_) (fun hd => ?_)))))))))))
    · skip
      have hlt : k < p.did.length := by simpa using hd
      obtain ⟨b2, off2, cp3, us2, hv2, hus2, hrd2, rfl⟩ := hD.at (List.getElem?_eq_getElem hlt)
      have hfold : (p.did.take (k + 1)).foldl blk [] = blk (ls ++ lb.ls) p.did[k] := by rw [List.take_succ_eq_append_getElem hlt, List.foldl_append, hacc]; rfl
      have hnext : ∀ (x : Did), (p.did[k]).1 = x.1 → ∀ d, p.did[k + 1 - 1]? = some d → d.1 = x.1 := fun x hx d hd' => by
        rw [Nat.add_sub_cancel, List.getElem?_eq_getElem hlt] at hd'
        cases hd'; exact hx
      rcases lb with _ | ⟨hl, x, t⟩
      · skip
        obtain ⟨rfl, rfl⟩ := hnone rfl
        generalize hde : p.did[0] = d at *
        have hls : ls = [] := List.eq_nil_of_length_eq_zero (by simpa using hkl.symm)
        subst hls
        simp only [LB.sh, LB.hs, LB.ls, List.nil_append, List.append_nil, List.map_nil] at hfold ⊢
        rw [blk_nil] at hfold
        refine cd_rowf (v := v) (by repeat (first | exact Sel.here | apply Sel.there)) (fun va vc hve _ _ => ?_)
        simp only [List.length_nil] at hve
        subst hve
        refine cK (xT (cS (cd_block (cS (cd_drawh (ork [(0, 2), (1, 2), (2, 2), (3, 2), (4, 2), (5, 2), (6, 2), (7, 2), (8, 2), (9, 1), (10, 2), (11, 2), (12, 2), (13, 2), (14, 1), (15, 1), (16, 2)] .nil) (fun _ => true) mixed (by kernel_rfl) ?_)))))
        refine dV rfl (vM rfl) (dV rfl (v_gtr rfl rfl) (dV rfl (vM rfl) (dp_sk rfl rfl rfl rfl ?_)))
        refine dp_sk rfl rfl rfl rfl ?_
        refine dp_sk rfl rfl rfl rfl ?_
        refine dp_sk rfl rfl rfl rfl ?_
        refine dp_sk rfl rfl rfl rfl ?_
        refine dp_sk rfl rfl rfl rfl ?_
        refine dr_sk rfl rfl rfl rfl ?_
        refine dp_sk rfl rfl rfl rfl ?_
        refine dp_sk rfl rfl rfl rfl ?_
        refine dp_sk rfl rfl rfl rfl ?_
        refine dp_sk rfl rfl rfl rfl ?_
        refine dr_sk rfl rfl rfl rfl ?_
        refine dr_sk rfl rfl rfl rfl ?_
        refine dV rfl (vP rfl rfl) (dr_nil (nK [4, 6, 7, 8, 46] rfl (nT (cd_false rfl ?_))))
        refine cd_drawh (ork [(0, 2), (1, 1), (2, 2), (3, 2), (4, 2), (5, 1), (6, 0), (7, 0), (8, 0), (9, 2), (10, 0)] .nil) (fun i => !(Nat.beq i 8 || Nat.beq i 10)) mixed (by kernel_rfl) ?_
        refine dV rfl (vF rfl fa58_0 rfl) (dr_v rfl (v_ldy rfl ld54) ?_)
        refine dV rfl (vM rfl) (dV rfl (vM rfl) (dV rfl (v_indexAddr (k := 0) (congrArg some hv2) rfl sl62 rfl hlt rfl) (dr_v rfl (v_ldn rfl ld81 hus2 hrd2) ?_)))
        refine dr_eff rfl (st_buildSlice (cells := dC d) rfl Tryz.underlying62 inf81 rfl rfl (by kernel_rfl) (ltn rfl) fun b72 => dr_nx ?_)
        refine dr_eff rfl (st_buildSlice (cells := [.slice (some ⟨b72, 0, none⟩) 1 1]) rfl Tryz.underlying54 inf62 rfl rfl (by kernel_rfl) (ltn rfl) fun b73 => dr_nx ?_)
        refine dr_eff rfl (st_app [[.slice (some ⟨b72, 0, none⟩) 1 1]] rfl rfl Tryz.underlying54 inf62 rfl (by decide) (by repeat (first | exact Sel.here | apply Sel.there)) (by simp) rfl (fun j u2 hu2 => at_here (rd_cl (by simpa using hu2))) (by simp [Value.oneCell']) (by simp) (by simp) (ltn rfl) fun v' hv' _ => dr_nx ?_)
        refine dV rfl (vF rfl fa58_0 rfl) (dr_eff rfl (st_sto rfl rfl sz54 (dr_nx ?_)))
        refine dr_nil (nK [4, 6, 7, 8] rfl (nx_xt (xB (xT (cR (sV (vM rfl) (sV (v_add rfl rfl (by unfold I64 at *; omega)) (sV (vA rfl) (sN (nK [4, 6, 7, 8] rfl (nx_xt (xt_pv (pv_of (E := 81) (sz := 5) [dC d] (cells := dC d) (b := b72) (n := 1) (by simp) (by simp [dC]) rfl (by decide)) ?_))))))))))))
        refine xt_aq (0 + 1, v', [], [], some (.slice (some ⟨b72, 0, none⟩) 1 1, d, [])) ⟨hlt, rfl, hv', hfold, (fun h => by cases h), Nat.zero_le _, (fun _ => by simp), (fun h x t e => by cases e; simp), (fun h x t e d' hd' => by cases e; exact hnext _ rfl d' hd')⟩ (by show _ - _ < _ - _; omega)
      · skip
        simp only [LB.sh, LB.hs, LB.ls] at hfold ⊢
        have hhs := hle2 (by simp)
        have htl := hle3 hl x t rfl
        have hk0 : 0 < k := by omega
        have hlt1 : k - 1 < p.did.length := by omega
        have hkx := hkey hl x t rfl _ (List.getElem?_eq_getElem hlt1)
        obtain ⟨b3, off3, cp4, us3, hv3, hus3, hrd3, rfl⟩ := hD.at (List.getElem?_eq_getElem hlt1)
        generalize p.did[k - 1] = d1 at *
        generalize hde : p.did[k] = d at *
        rw [blk_snoc, ← hkx] at hfold
        refine cd_row (v := v) (by repeat (first | exact Sel.here | apply Sel.there)) (fun _ h0 => by simp at h0) (fun vb vo vc hve _ _ => ?_)
        refine cd_row (v := hl) (by repeat (first | exact Sel.here | apply Sel.there)) (fun _ h0 => by simp at h0) (fun lb2 lo lc hle _ _ => ?_)
        simp only [List.length_map, List.length_append, List.length_cons, List.length_nil] at hve hle
        subst hve hle
        have hn : decide (0 < (k : Int)) = true := by simpa using hk0
        have hrow : ((hs ++ [Value.slice (some ⟨lb2, lo, none⟩) (t.length + 1) lc]).map fun h => [h])[hs.length]? = some [.slice (some ⟨lb2, lo, none⟩) (t.length + 1) lc] := by simp
        have hRd : Rd (VR (.slice (some ⟨vb, vo, none⟩) (hs.length + (0 + 1)) vc) 62 1 ((hs ++ [Value.slice (some ⟨lb2, lo, none⟩) (t.length + 1) lc]).map fun h => [h])) ⟨vb, vo + hs.length * 1, none⟩ (.slice (some ⟨lb2, lo, none⟩) (t.length + 1) lc) := by
          have := rd_vrk (E := 62) (b := vb) (o := vo) (n := hs.length + (0 + 1)) (cp := vc) (sz := 1) (k := 0) hrow rfl
          exact this
        refine cK (xT (cS (cd_block (cS (cd_drawh (ork [(0, 2), (1, 2), (2, 2), (3, 2), (4, 2), (5, 2), (6, 2), (7, 2), (8, 2), (9, 1), (10, 2), (11, 2), (12, 2), (13, 2), (14, 1), (15, 1), (16, 2)] .nil) (fun _ => true) mixed (by kernel_rfl) ?_)))))
        refine dV rfl (vM rfl) (dV rfl (v_is (congrArg Value.bool hn) (v_gtr rfl rfl)) (dV rfl (vM rfl) (dp_vg rfl rfl rfl (vM rfl) (dp_vg rfl rfl rfl (vM rfl) (dp_vg rfl rfl rfl (v_sub rfl rfl (by unfold I64 at *; omega)) (dp_vg rfl rfl rfl (v_max rfl rfl (by omega)) (dp_vg rfl rfl rfl (v_indexAddr (k := k - 1) (congrArg some hv3) rfl sl62 (by omega) hlt1 rfl) (dp_vg rfl rfl rfl (vF rfl fa81_0 rfl) (dr_vg rfl rfl rfl (v_ldn (vs := kC d1.1) rfl ld79 rfl (rds_sub hrd3 rfl)) ?_)))))))))
        refine dp_vg rfl rfl rfl (vM rfl) (dp_vg rfl rfl rfl (vM rfl) (dp_vg rfl rfl rfl (v_indexAddr (k := k) (congrArg some hv2) rfl sl62 rfl hlt rfl) (dp_vg rfl rfl rfl (vF rfl fa81_0 rfl) (dr_vg rfl rfl rfl (v_ldn (vs := kC d.1) rfl ld79 rfl (rds_sub hrd2 rfl)) ?_))))
        refine dr_vg rfl rfl rfl (v_eql_T eq79 rfl rfl) (dV rfl (v_pick_true rfl rfl) (dr_nil (nK [4, 6, 7, 8, 46] rfl (nT (cC rfl (fun hk2 => ?_) (fun hk2 => ?_))))))
        · skip
          refine cS (cR (sV (vF rfl fa58_0 rfl) (sV (v_ldy rfl ld54) ?_)))
          refine sV (v_len rfl Tryz.underlying54) (sV (v_sub rfl rfl (by unfold I64 at *; omega)) (sV (vA rfl) (sN (nK [4, 6, 7, 8, 9] rfl (nT (cd_draw (ork [(0, 2), (1, 1), (2, 2), (3, 2), (4, 1), (5, 2), (6, 2), (7, 1), (8, 2), (9, 2), (10, 2), (11, 1), (12, 0), (13, 0), (14, 2), (15, 0)] .nil) (fun i => !(Nat.beq i 15)) [pt b6 (cl [.slice (some ⟨vb, vo, none⟩) (hs.length + (0 + 1)) vc, .int .i64 0] 58), VR (.slice (some ⟨vb, vo, none⟩) (hs.length + (0 + 1)) vc) 62 1 ((hs ++ [Value.slice (some ⟨lb2, lo, none⟩) (t.length + 1) lc]).map fun h => [h]), S] mixed (by kernel_rfl) ?_))))))
          refine dV rfl (vF rfl fa58_0 rfl) (dr_v rfl (v_ldy rfl ld54) ?_)
          refine dV rfl (vM rfl) (dV rfl (vF rfl fa58_0 rfl) (dr_v rfl (v_ldy rfl ld54) ?_))
          refine dV rfl (vM rfl) ?_
          rw [if_pos (by simpa using hk2)] at hfold
          refine dV rfl (v_indexAddr (k := hs.length) rfl rfl sl54 (by push_cast; omega) (by omega) rfl) ?_
          refine dr_v rfl (v_ldy rfl ld62) ?_
          refine dV rfl (vM rfl) (dV rfl (vM rfl) (dV rfl (v_indexAddr (k := k) (congrArg some hv2) rfl sl62 rfl hlt rfl) (dr_v rfl (v_ldn rfl ld81 hus2 hrd2) ?_)))
          refine dr_eff rfl (st_buildSlice (cells := dC d) rfl Tryz.underlying62 inf81 rfl rfl (by kernel_rfl) (ltn rfl) fun b63 => dr_nx ?_)
          refine dr_eff rfl (st_app (v := .slice (some ⟨lb2, lo, none⟩) (t.length + 1) lc) [dC d] rfl rfl Tryz.underlying62 inf81 rfl (by decide) (by repeat (first | exact Sel.here | apply Sel.there)) (by simp [dC]) rfl (fun j u2 hu2 => at_here (rd_cl (by simpa using hu2))) (by simp [dC, Value.oneCell']) (by simp; omega) (by simp; omega) (ltn rfl) fun v' hv' _ => dr_nx ?_)
          refine dV rfl (v_indexAddr (k := hs.length) rfl rfl sl54 (by push_cast; omega) (by omega) rfl) ?_
          refine dr_eff rfl (st_vr (sz := 1) (m := hs.length) (k := 0) rfl rfl sz62 hv' hrow (by decide) rfl (by repeat (first | exact Sel.here | apply Sel.there)) (dr_nx ?_))
          refine dr_nil (nK [4, 6, 7, 8] rfl (nx_xt (xB (xT (cR (sV (vM rfl) (sV (v_add rfl rfl (by unfold I64 at *; omega)) (sV (vA rfl) (sN (nK [4, 6, 7, 8] rfl (nx_xt ?_)))))))))))
          have e2 : (((hs ++ [Value.slice (some ⟨lb2, lo, none⟩) (t.length + 1) lc]).map fun h => [h]).set hs.length ([Value.slice (some ⟨lb2, lo, none⟩) (t.length + 1) lc].set 0 v')) = (hs ++ [v']).map fun h => [h] := by simp
          rw [e2]
          have e3 : (x :: t).map dC ++ [dC d] = (x :: (t ++ [d])).map dC := by simp
          rw [e3]
          refine xt_aq (k + 1, .slice (some ⟨vb, vo, none⟩) (hs.length + (0 + 1)) vc, hs, ls, some (v', x, t ++ [d])) ⟨hlt, hkl, rfl, hfold, (fun h => by cases h), by show hs.length ≤ k + 1; omega, (fun _ => by show hs.length + 1 ≤ k + 1; omega), (fun h x2 t2 e => by cases e; simp; omega), (fun h x2 t2 e d' hd' => by cases e; exact hnext _ (by rw [← hkx]; exact (by simpa using hk2 : d1.1 = d.1).symm) d' hd')⟩ (by show _ - _ < _ - _; omega)
        · skip
          refine cd_drawh (ork [(0, 2), (1, 1), (2, 2), (3, 2), (4, 2), (5, 1), (6, 0), (7, 0), (8, 0), (9, 2), (10, 0)] .nil) (fun i => !(Nat.beq i 8 || Nat.beq i 10)) mixed (by kernel_rfl) ?_
          refine dV rfl (vF rfl fa58_0 rfl) (dr_v rfl (v_ldy rfl ld54) ?_)
          refine dV rfl (vM rfl) (dV rfl (vM rfl) ?_)
          rw [if_neg (by simpa using hk2)] at hfold
          refine dV rfl (v_indexAddr (k := k) (congrArg some hv2) rfl sl62 rfl hlt rfl) (dr_v rfl (v_ldn rfl ld81 hus2 hrd2) ?_)
          refine dr_eff rfl (st_buildSlice (cells := dC d) rfl Tryz.underlying62 inf81 rfl rfl (by kernel_rfl) (ltn rfl) fun b72 => dr_nx ?_)
          refine dr_eff rfl (st_buildSlice (cells := [.slice (some ⟨b72, 0, none⟩) 1 1]) rfl Tryz.underlying54 inf62 rfl rfl (by kernel_rfl) (ltn rfl) fun b73 => dr_nx ?_)
          refine dr_eff rfl (st_app (v := .slice (some ⟨vb, vo, none⟩) (hs.length + (0 + 1)) vc) [[.slice (some ⟨b72, 0, none⟩) 1 1]] rfl rfl Tryz.underlying54 inf62 rfl (by decide) (by repeat (first | exact Sel.here | apply Sel.there)) (by simp) rfl (fun j u2 hu2 => at_here (rd_cl (by simpa using hu2))) (by simp [Value.oneCell']) (by simp; omega) (by simp; omega) (ltn rfl) fun v' hv' _ => dr_nx ?_)
          refine dV rfl (vF rfl fa58_0 rfl) (dr_eff rfl (st_sto rfl rfl sz54 (dr_nx ?_)))
          refine dr_nil (nK [4, 6, 7, 8] rfl (nx_xt (xB (xT (cR (sV (vM rfl) (sV (v_add rfl rfl (by unfold I64 at *; omega)) (sV (vA rfl) (sN (nK [4, 6, 7, 8] rfl (nx_xt (xt_pv (pv_of (E := 81) (sz := 5) [dC d] (cells := dC d) (b := b72) (n := 1) (by simp) (by simp [dC]) rfl (by decide)) ?_))))))))))))
          refine xt_pv (pv_snoc (L := nrows 81 5 dC hs ls) (r := VR (.slice (some ⟨lb2, lo, none⟩) (t.length + 1) lc) 81 5 ((x :: t).map dC))) ?_
          rw [← nrows_snoc hkl]
          have e2 : ((hs ++ [Value.slice (some ⟨lb2, lo, none⟩) (t.length + 1) lc]).map fun h => [h]) ++ [[Value.slice (some ⟨b72, 0, none⟩) 1 1]] = (hs ++ [Value.slice (some ⟨lb2, lo, none⟩) (t.length + 1) lc] ++ [Value.slice (some ⟨b72, 0, none⟩) 1 1]).map fun h => [h] := by simp
          rw [e2]
          refine xt_aq (k + 1, v', hs ++ [Value.slice (some ⟨lb2, lo, none⟩) (t.length + 1) lc], ls ++ [x :: t], some (.slice (some ⟨b72, 0, none⟩) 1 1, d, [])) ⟨hlt, by simp [hkl], hv', hfold, (fun h => by cases h), by simp; omega, (fun _ => by simp; omega), (fun h x2 t2 e => by cases e; simp), (fun h x2 t2 e d' hd' => by cases e; exact hnext _ rfl d' hd')⟩ (by show _ - _ < _ - _; omega)
    · skip
      have hkj : k = p.did.length := by have : ¬ k < p.did.length := by simpa using hd
                                        omega
      subst hkj
      rw [List.take_length] at hacc
      rw [hacc]
      refine cd_rowf (v := v) (by repeat (first | exact Sel.here | apply Sel.there)) (fun va vc hve _ _ => ?_)
      generalize ((hs ++ lb.hs).map fun h => [h]).length = vn at hve
      subst hve
      rcases lb with _ | ⟨hl, x, t⟩
      · skip
        simp only [LB.sh, LB.hs, LB.ls, List.nil_append, List.append_nil]
        refine cd_exit (xE (xE (xt_exit_block (xT (cS (cR (sV (v_ldn rfl ld58 rfl rds_pt) ?_)))))))
        refine st_stoW rfl rfl sz58 rfl rfl ?_
        refine sN (nK [4] rfl (nT (cT (xt_pv (pv_add (triv_pure (φ := hs.length = ls.length) hkl)) ?_))))
        refine xt_pv (pv_pack (L := NO 62 81 5 dC (.slice va vn vc) hs ls)) ?_
        refine xt_ok .here fun hok => ?_
        exact xt_retV (.cellN rfl ld58 rfl (by repeat (first | exact Sel.here | apply Sel.there)) .nil) ⟨_, rfl, .slice va vn vc, rfl, NO_star hok⟩ (by repeat (first | exact Sub.refl _ | exact Sub.nil _ | refine Sub.sel (by repeat (first | exact Sel.here | apply Sel.there)) ?_ | apply Sub.cons))
      · skip
        simp only [LB.sh, LB.hs, LB.ls, List.cons_append, List.nil_append]
        refine cd_exit (xE (xE (xt_exit_block (xT (cS (cR (sV (v_ldn rfl ld58 rfl rds_pt) ?_)))))))
        refine st_stoW rfl rfl sz58 rfl rfl ?_
        refine sN (nK [4] rfl (nT (cT (xt_pv (pv_snoc (L := nrows 81 5 dC hs ls) (r := VR hl 81 5 ((x :: t).map dC))) ?_))))
        rw [← nrows_snoc hkl]
        refine xt_pv (pv_add (triv_pure (φ := (hs ++ [hl]).length = (ls ++ [x :: t]).length) (by simp [hkl]))) ?_
        refine xt_pv (pv_pack (L := NO 62 81 5 dC (.slice va vn vc) (hs ++ [hl]) (ls ++ [x :: t]))) ?_
        refine xt_ok .here fun hok => ?_
        exact xt_retV (.cellN rfl ld58 rfl (by repeat (first | exact Sel.here | apply Sel.there)) .nil) ⟨_, rfl, .slice va vn vc, rfl, NO_star hok⟩ (by repeat (first | exact Sub.refl _ | exact Sub.nil _ | refine Sub.sel (by repeat (first | exact Sel.here | apply Sel.there)) ?_ | apply Sub.cons))
end
end Go.Wt
namespace Go.Wt
open Go Go.Ck Go.Proofs Go.Proofs.YtboepbencndobaaGreat Fx
attribute [local irreducible] Go.Ck.Sub St Cd Xt Nx DrL LsW
def smallG (p : Proc) : Bool := decide (30 < (p.lines.length : Int)) || decide (30 < (p.holds.length : Int)) || (decide (30 < (p.puts.length : Int)) && decide ((p.puts.length : Int) ≤ 400)) || (decide (30 < (p.did.length : Int)) && decide ((p.did.length : Int) ≤ 400)) || decide (410 < (p.puts.length : Int)) || decide (410 < (p.did.length : Int))
def smallP (p : Proc) : Bool := !smallG p && p.lines.all fun l => decide ((l.asks.length : Int) ≤ 30)
def smallE (y : Yard) : Bool := fewE y.jobs && decide ((y.procs.length : Int) ≤ 12) && y.procs.all smallP
theorem small_fit {y : Yard} (h : smallE y = true) : Fit y := by
  unfold smallE at h
  simp only [Bool.and_eq_true, decide_eq_true_eq] at h
  obtain ⟨⟨h1, h2⟩, h3⟩ := h
  refine ⟨few_Fits h1, by omega, fun p hp => ?_⟩
  have h4 := List.all_eq_true.1 h3 p hp
  unfold smallP smallG at h4
  simp only [Bool.and_eq_true, Bool.not_eq_true', Bool.or_eq_false_iff, Bool.and_eq_false_iff, decide_eq_false_iff_not] at h4
  obtain ⟨⟨⟨⟨⟨⟨g1, g2⟩, g3⟩, g4⟩, g5⟩, g6⟩, g7⟩ := h4
  refine ⟨by omega, by omega, by omega, by omega, fun l hl => ?_⟩
  have := List.all_eq_true.1 g7 l hl
  simp only [decide_eq_true_eq] at this
  omega
theorem newY_fit {jobs : List (List Move)} {spots : Int} (hf : Fits jobs) : Fit (newY jobs spots) := by
  unfold newY
  split
  · rename_i h
    obtain ⟨hs0, hs12, _⟩ := check_pos h
    obtain ⟨n, rfl⟩ := Int.eq_ofNat_of_zero_le (show 0 ≤ spots by omega)
    rw [Int.toNat_natCast]
    exact (Live.new h).fit (by omega)
  · exact ⟨⟨by simp [Yard.nil], fun l hl => by cases hl⟩, by simp [Yard.nil], fun p hp => by cases hp⟩
theorem rd_tail {T0 : Res} {L : SH} : ∀ p u, Rd (Res.star L) p u → Rd (Res.star (T0 :: L)) p u := fun _ _ h w hw => h w hw.2.2
section
variable {S : Res}
set_option maxHeartbeats 1000000 in
set_option maxRecDepth 100000 in
theorem small_ct {ys : List Value} {y : Yard} (hy : yardR S ys y) : Reads Tryz.prog 19 #[.agg ys.toArray] [S] (.bool (smallE y)) := by
  obtain ⟨jv, pv, rfl, hj, hp⟩ := id hy
  obtain ⟨aj, cj, rfl, _⟩ := id hj
  obtain ⟨ap, cp, rfl, _⟩ := id hp
  have hpl := hp.lenle
  unfold maxLen at hpl
  generalize hr0 : smallE y = r0
  unfold smallE at hr0
  refine ct_of (n := 89) Tryz.func19 rfl rfl (len rfl) fun hr w0 => ?_
  refine cS (cR (st_bx rfl rfl fun b1 => ?_))
  refine sV (vA rfl) (sN (nK [1, 2] rfl (nT (cS (cS (cR (sV (vF rfl fa27_0 rfl) (sV (v_ldy rfl ld22) ?_))))))))
  refine st_clr rfl rfl en12 rfl (few_ct hj) ?_
  refine sV (v_not rfl) (sV (vM rfl) (st_cut (k := 10) (d := 15) (v := .bool (!fewE y.jobs || decide (12 < (y.procs.length : Int)))) (fun hcut => bool_want (b := !fewE y.jobs) false (fun hg => ?_) (fun hg => ?_)) ?_))
  · refine st_sk rfl rfl hg ?_
    refine st_sk rfl rfl hg ?_
    refine st_sk rfl rfl hg ?_
    refine st_sk rfl rfl hg ?_
    refine sV (v_pick_true (bool_ev rfl hg) rfl) ?_
    exact hcut _ (ssub_head (by first | rfl | (rw [hg]; rfl) | simp_all) (uS rfl (uS rfl (uS rfl (uS rfl (ssub_refl))))))
  · skip
    refine st_vg rfl (bG rfl hg) (vF rfl fa27_1 rfl) (st_vg rfl (bG rfl hg) (v_ldy rfl ld25) ?_)
    refine st_vg rfl (bG rfl hg) (v_len rfl Tryz.underlying25) (st_vg rfl (bG rfl hg) (v_gtr rfl rfl) (sV (vP (bool_ev rfl hg) rfl) ?_))
    exact hcut _ (ssub_head (by first | rfl | (rw [hg]; rfl) | simp_all) (uS rfl (uS rfl (uS rfl (uS rfl (ssub_refl))))))
  refine sN (nK [1, 2, 15] rfl (nT (cC rfl (fun h0 => ?_) (fun h0 => ?_))))
  · skip
    have hr : r0 = false := by
      rw [← hr0, Bool.and_eq_false_iff, Bool.and_eq_false_iff, decide_eq_false_iff_not]
      simp only [Bool.or_eq_true, Bool.not_eq_true', decide_eq_true_eq] at h0
      rcases h0 with h | h
      · exact .inl (.inl h)
      · exact .inl (.inr (by omega))
    subst hr
    refine cS (cR (sV (vA rfl) (sN (nK [2] rfl (nT (cT (xR ?_)))))))
    exact xt_rt rfl ⟨rfl, rfl⟩ (by (repeat (refine Sub.sel (by repeat (first | exact Sel.here | apply Sel.there)) ?_)); (repeat apply Sub.cons); first | exact Sub.refl _ | exact Sub.nil _)
  · skip
    simp only [Bool.or_eq_false_iff, Bool.not_eq_false', decide_eq_false_iff_not] at h0
    rw [h0.1, decide_eq_true (show (y.procs.length : Int) ≤ 12 by omega), Bool.true_and, Bool.true_and] at hr0
    refine cK (xT (cS (cS (cR (sV (vA rfl) (sN (nK [1, 2, 3] rfl (nT (cd_block (cd_lq (σ := Nat) (fun i => [(1, .pointer (some ⟨b1, 0, none⟩)), (3, .int .i64 (i : Nat))]) (fun _ => pt b1 (cl [.slice aj y.jobs.length cj, .slice ap y.procs.length cp] 27) :: S :: hr) (fun i => i ≤ y.procs.length ∧ ∀ (j : Nat) (hj : j < y.procs.length), j < i → smallP y.procs[j] = true) (fun i => y.procs.length - i) 0 ⟨Nat.zero_le _, fun j _ hj => by omega⟩ ?_))))))))))
    rintro i ⟨hi, hall⟩
    refine cS (cS (cR (sV (vM rfl) (sV (vF rfl fa27_1 rfl) (sV (v_ldy rfl ld25) ?_)))))
    refine sV (v_len rfl Tryz.underlying25) (sV (v_lss rfl rfl) (sN (nK [1, 3, 20] rfl (nT (cC rfl (fun hd => ?_) (fun hd => ?_))))))
    · skip
      have hlt : i < y.procs.length := by simpa using hd
      obtain ⟨b, off, cp2, us, hv2, hus, hrd, lv, pv', hv, dv, rfl, hL, hP, hH, hD⟩ := hp.at (List.getElem?_eq_getElem hlt)
      obtain ⟨al, cl', rfl, _⟩ := id hL
      obtain ⟨ap', cp', rfl, _⟩ := id hP
      obtain ⟨ah, ch', rfl, _⟩ := id hH
      obtain ⟨ad, cd', rfl, _⟩ := id hD
      have hll := hL.lenle
      unfold maxLen at hll
      have hbad : smallP y.procs[i] = false → r0 = false := fun h => by rw [← hr0, all_bad (g := smallP) hlt h]
      have hgood : smallP y.procs[i] = true → ∀ (j : Nat) (hj : j < y.procs.length), j < i + 1 → smallP y.procs[j] = true := fun h j hj' hji => by
        by_cases hjk : j = i
        · subst hjk; exact h
        · exact hall j hj' (by omega)
      generalize y.procs[i] = p at *
      refine cK (xT (cS (cd_block (cS (cR (sV (vF rfl fa27_1 rfl) (sV (v_ldy rfl ld25) ?_)))))))
      refine sV (vM rfl) (sV (v_indexAddr (k := i) (congrArg some hv2) rfl sl25 rfl hlt rfl) (sV (v_ldn rfl ld77 hus hrd) ?_))
      refine st_alc al77 fun b4 => ?_
      refine st_stoW rfl rfl sz77 rfl rfl ?_
      refine sN (nK [1, 3, 4] rfl (nT (cS (cS (cR (sV (vF rfl fa77_0 rfl) (sV (v_ldy rfl ld73) ?_)))))))
      refine sV (v_len rfl Tryz.underlying73) (sV (v_gtr rfl rfl) (sV (vM rfl) (st_cut (k := 10) (d := 37) (v := .bool (decide (30 < (p.lines.length : Int)) || decide (30 < (p.holds.length : Int)))) (fun hcut => bool_want (b := decide (30 < (p.lines.length : Int))) false (fun hg => ?_) (fun hg => ?_)) ?_)))
      · refine st_sk rfl rfl hg ?_
        refine st_sk rfl rfl hg ?_
        refine st_sk rfl rfl hg ?_
        refine st_sk rfl rfl hg ?_
        refine sV (v_pick_true (bool_ev rfl hg) rfl) ?_
        exact hcut _ (ssub_head (by first | rfl | (rw [hg]; rfl) | simp_all) (uS rfl (uS rfl (uS rfl (uS rfl (ssub_refl))))))
      · skip
        refine st_vg rfl (bG rfl hg) (vF rfl fa77_5 rfl) (st_vg rfl (bG rfl hg) (v_ldy rfl ld75) ?_)
        refine st_vg rfl (bG rfl hg) (v_len rfl Tryz.underlying75) (st_vg rfl (bG rfl hg) (v_gtr rfl rfl) (sV (vP (bool_ev rfl hg) rfl) ?_))
        exact hcut _ (ssub_head (by first | rfl | (rw [hg]; rfl) | simp_all) (uS rfl (uS rfl (uS rfl (uS rfl (ssub_refl))))))
      refine sV (vM rfl) (st_cut (k := 22) (d := 49) (v := .bool (decide (30 < (p.lines.length : Int)) || decide (30 < (p.holds.length : Int)) || (decide (30 < (p.puts.length : Int)) && decide ((p.puts.length : Int) ≤ 400)))) (fun hcut => bool_want (b := decide (30 < (p.lines.length : Int)) || decide (30 < (p.holds.length : Int))) false (fun hg => ?_) (fun hg => ?_)) ?_)
      · refine st_sk rfl rfl hg ?_
        refine st_sk rfl rfl hg ?_
        refine st_sk rfl rfl hg ?_
        refine st_sk rfl rfl hg ?_
        refine st_sk rfl rfl hg ?_
        refine st_sku rfl rfl ?_
        refine st_sku rfl rfl ?_
        refine st_sku rfl rfl ?_
        refine st_sku rfl rfl ?_
        refine st_sk rfl rfl hg ?_
        refine sV (v_pick_true (bool_ev rfl hg) rfl) ?_
        exact hcut _ (ssub_head (by first | rfl | (rw [hg]; rfl) | simp_all) (uS rfl (uS rfl (uS rfl (uS rfl (uS rfl (uS rfl (uS rfl (uS rfl (uS rfl (uS rfl (ssub_refl))))))))))))
      · skip
        refine st_vg rfl (bG rfl hg) (vF rfl fa77_1 rfl) (st_vg rfl (bG rfl hg) (v_ldy rfl ld74) ?_)
        refine st_vg rfl (bG rfl hg) (v_len rfl Tryz.underlying74) (st_vg rfl (bG rfl hg) (v_gtr rfl rfl) (st_vg rfl (bG rfl hg) (vM rfl) (st_cut (k := 21) (d := 48) (v := .bool (decide (30 < (p.puts.length : Int)) && decide ((p.puts.length : Int) ≤ 400))) (fun hcut => bool_want (b := decide (30 < (p.puts.length : Int))) true (fun hg1 => ?_) (fun hg1 => ?_)) ?_)))
        · refine st_sk rfl rfl hg1 ?_
          refine st_sk rfl rfl hg1 ?_
          refine st_sk rfl rfl hg1 ?_
          refine st_sk rfl rfl hg1 ?_
          refine st_vg rfl (bG rfl hg) (vP (bool_ev rfl hg1) rfl) ?_
          exact hcut _ (ssub_head (by first | rfl | (rw [hg1]; rfl) | simp_all) (uS rfl (uS rfl (uS rfl (uS rfl (ssub_refl))))))
        · skip
          refine st_vg rfl (bG rfl hg1) (vF rfl fa77_1 rfl) (st_vg rfl (bG rfl hg1) (v_ldy rfl ld74) ?_)
          refine st_vg rfl (bG rfl hg1) (v_len rfl Tryz.underlying74) (st_vg rfl (bG rfl hg1) (v_leq rfl rfl) (st_vg rfl (bG rfl hg) (v_pick_true (bool_ev rfl hg1) rfl) ?_))
          exact hcut _ (ssub_head (by first | rfl | (rw [hg1]; rfl) | simp_all) (uS rfl (uS rfl (uS rfl (uS rfl (ssub_refl))))))
        refine sV (vP (bool_ev rfl hg) rfl) ?_
        exact hcut _ (ssub_head (by first | rfl | (rw [hg]; rfl) | simp_all) (by repeat (first | exact ssub_refl | refine uS rfl ?_)))
      refine sV (vM rfl) (st_cut (k := 34) (d := 61) (v := .bool (decide (30 < (p.lines.length : Int)) || decide (30 < (p.holds.length : Int)) || (decide (30 < (p.puts.length : Int)) && decide ((p.puts.length : Int) ≤ 400)) || (decide (30 < (p.did.length : Int)) && decide ((p.did.length : Int) ≤ 400)))) (fun hcut => bool_want (b := decide (30 < (p.lines.length : Int)) || decide (30 < (p.holds.length : Int)) || (decide (30 < (p.puts.length : Int)) && decide ((p.puts.length : Int) ≤ 400))) false (fun hg => ?_) (fun hg => ?_)) ?_)
      · refine st_sk rfl rfl hg ?_
        refine st_sk rfl rfl hg ?_
        refine st_sk rfl rfl hg ?_
        refine st_sk rfl rfl hg ?_
        refine st_sk rfl rfl hg ?_
        refine st_sku rfl rfl ?_
        refine st_sku rfl rfl ?_
        refine st_sku rfl rfl ?_
        refine st_sku rfl rfl ?_
        refine st_sk rfl rfl hg ?_
        refine sV (v_pick_true (bool_ev rfl hg) rfl) ?_
        exact hcut _ (ssub_head (by first | rfl | (rw [hg]; rfl) | simp_all) (uS rfl (uS rfl (uS rfl (uS rfl (uS rfl (uS rfl (uS rfl (uS rfl (uS rfl (uS rfl (ssub_refl))))))))))))
      · skip
        refine st_vg rfl (bG rfl hg) (vF rfl fa77_8 rfl) (st_vg rfl (bG rfl hg) (v_ldy rfl ld62) ?_)
        refine st_vg rfl (bG rfl hg) (v_len rfl Tryz.underlying62) (st_vg rfl (bG rfl hg) (v_gtr rfl rfl) (st_vg rfl (bG rfl hg) (vM rfl) (st_cut (k := 33) (d := 60) (v := .bool (decide (30 < (p.did.length : Int)) && decide ((p.did.length : Int) ≤ 400))) (fun hcut => bool_want (b := decide (30 < (p.did.length : Int))) true (fun hg1 => ?_) (fun hg1 => ?_)) ?_)))
        · refine st_sk rfl rfl hg1 ?_
          refine st_sk rfl rfl hg1 ?_
          refine st_sk rfl rfl hg1 ?_
          refine st_sk rfl rfl hg1 ?_
          refine st_vg rfl (bG rfl hg) (vP (bool_ev rfl hg1) rfl) ?_
          exact hcut _ (ssub_head (by first | rfl | (rw [hg1]; rfl) | simp_all) (uS rfl (uS rfl (uS rfl (uS rfl (ssub_refl))))))
        · skip
          refine st_vg rfl (bG rfl hg1) (vF rfl fa77_8 rfl) (st_vg rfl (bG rfl hg1) (v_ldy rfl ld62) ?_)
          refine st_vg rfl (bG rfl hg1) (v_len rfl Tryz.underlying62) (st_vg rfl (bG rfl hg1) (v_leq rfl rfl) (st_vg rfl (bG rfl hg) (v_pick_true (bool_ev rfl hg1) rfl) ?_))
          exact hcut _ (ssub_head (by first | rfl | (rw [hg1]; rfl) | simp_all) (uS rfl (uS rfl (uS rfl (uS rfl (ssub_refl))))))
        refine sV (vP (bool_ev rfl hg) rfl) ?_
        exact hcut _ (ssub_head (by first | rfl | (rw [hg]; rfl) | simp_all) (by repeat (first | exact ssub_refl | refine uS rfl ?_)))
      refine sV (vM rfl) (st_cut (k := 40) (d := 67) (v := .bool (decide (30 < (p.lines.length : Int)) || decide (30 < (p.holds.length : Int)) || (decide (30 < (p.puts.length : Int)) && decide ((p.puts.length : Int) ≤ 400)) || (decide (30 < (p.did.length : Int)) && decide ((p.did.length : Int) ≤ 400)) || decide (410 < (p.puts.length : Int)))) (fun hcut => bool_want (b := decide (30 < (p.lines.length : Int)) || decide (30 < (p.holds.length : Int)) || (decide (30 < (p.puts.length : Int)) && decide ((p.puts.length : Int) ≤ 400)) || (decide (30 < (p.did.length : Int)) && decide ((p.did.length : Int) ≤ 400))) false (fun hg => ?_) (fun hg => ?_)) ?_)
      · refine st_sk rfl rfl hg ?_
        refine st_sk rfl rfl hg ?_
        refine st_sk rfl rfl hg ?_
        refine st_sk rfl rfl hg ?_
        refine sV (v_pick_true (bool_ev rfl hg) rfl) ?_
        exact hcut _ (ssub_head (by first | rfl | (rw [hg]; rfl) | simp_all) (uS rfl (uS rfl (uS rfl (uS rfl (ssub_refl))))))
      · skip
        refine st_vg rfl (bG rfl hg) (vF rfl fa77_1 rfl) (st_vg rfl (bG rfl hg) (v_ldy rfl ld74) ?_)
        refine st_vg rfl (bG rfl hg) (v_len rfl Tryz.underlying74) (st_vg rfl (bG rfl hg) (v_gtr rfl rfl) (sV (vP (bool_ev rfl hg) rfl) ?_))
        exact hcut _ (ssub_head (by first | rfl | (rw [hg]; rfl) | simp_all) (uS rfl (uS rfl (uS rfl (uS rfl (ssub_refl))))))
      refine sV (vM rfl) (st_cut (k := 46) (d := 73) (v := .bool (decide (30 < (p.lines.length : Int)) || decide (30 < (p.holds.length : Int)) || (decide (30 < (p.puts.length : Int)) && decide ((p.puts.length : Int) ≤ 400)) || (decide (30 < (p.did.length : Int)) && decide ((p.did.length : Int) ≤ 400)) || decide (410 < (p.puts.length : Int)) || decide (410 < (p.did.length : Int)))) (fun hcut => bool_want (b := decide (30 < (p.lines.length : Int)) || decide (30 < (p.holds.length : Int)) || (decide (30 < (p.puts.length : Int)) && decide ((p.puts.length : Int) ≤ 400)) || (decide (30 < (p.did.length : Int)) && decide ((p.did.length : Int) ≤ 400)) || decide (410 < (p.puts.length : Int))) false (fun hg => ?_) (fun hg => ?_)) ?_)
      · refine st_sk rfl rfl hg ?_
        refine st_sk rfl rfl hg ?_
        refine st_sk rfl rfl hg ?_
        refine st_sk rfl rfl hg ?_
        refine sV (v_pick_true (bool_ev rfl hg) rfl) ?_
        exact hcut _ (ssub_head (by first | rfl | (rw [hg]; rfl) | simp_all) (uS rfl (uS rfl (uS rfl (uS rfl (ssub_refl))))))
      · skip
        refine st_vg rfl (bG rfl hg) (vF rfl fa77_8 rfl) (st_vg rfl (bG rfl hg) (v_ldy rfl ld62) ?_)
        refine st_vg rfl (bG rfl hg) (v_len rfl Tryz.underlying62) (st_vg rfl (bG rfl hg) (v_gtr rfl rfl) (sV (vP (bool_ev rfl hg) rfl) ?_))
        exact hcut _ (ssub_head (by first | rfl | (rw [hg]; rfl) | simp_all) (uS rfl (uS rfl (uS rfl (uS rfl (ssub_refl))))))
      refine sN (nK [1, 3, 4, 73] rfl (nT (cC rfl (fun hq => ?_) (fun hq => ?_))))
      · skip
        have hr := hbad (by unfold smallP; rw [show smallG p = true from hq]; rfl)
        subst hr
        refine cS (cR (sV (vA rfl) (sN (nK [2] rfl (nT (cT (xR (xt_ret_block (xR (xR (xt_ret_block (xR ?_))))))))))))
        exact xt_rt rfl ⟨rfl, rfl⟩ (by (repeat (refine Sub.sel (by repeat (first | exact Sel.here | apply Sel.there)) ?_)); (repeat apply Sub.cons); first | exact Sub.refl _ | exact Sub.nil _)
      · skip
        refine cK (xT (cS (cR (sV (vA rfl) (sN (nK [1, 3, 4, 5] rfl (nT (cd_block (cd_lq (σ := Nat) (fun k => [(1, .pointer (some ⟨b1, 0, none⟩)), (3, .int .i64 (i : Nat)), (4, .pointer (some ⟨b4, 0, none⟩)), (5, .int .i64 (k : Nat))]) (fun _ => pt b4 (cl (pC (.slice al p.lines.length cl') (.slice ap' p.puts.length cp') (.slice ah p.holds.length ch') (.slice ad p.did.length cd') p) 77) :: pt b1 (cl [.slice aj y.jobs.length cj, .slice ap y.procs.length cp] 27) :: S :: hr) (fun k => k ≤ p.lines.length ∧ ∀ (j : Nat) (hj : j < p.lines.length), j < k → decide (((p.lines[j]).asks.length : Int) ≤ 30) = true) (fun k => p.lines.length - k) 0 ⟨Nat.zero_le _, fun j _ hj => by omega⟩ ?_)))))))))
        rintro k ⟨hk, hallk⟩
        refine cS (cS (cR (sV (vM rfl) (sV (vF rfl fa77_0 rfl) (sV (v_ldy rfl ld73) ?_)))))
        refine sV (v_len rfl Tryz.underlying73) (sV (v_lss rfl rfl) (sN (nK [1, 3, 4, 5, 78] rfl (nT (cC rfl (fun hd2 => ?_) (fun hd2 => ?_))))))
        · skip
          have hkt : k < p.lines.length := by simpa using hd2
          obtain ⟨c1, c2, c3, cus, hcv, hcus, hcrd, av, rfl, hA⟩ := hL.at (List.getElem?_eq_getElem hkt)
          obtain ⟨aa, ac, rfl, _⟩ := id hA
          refine cK (xT (cS (cd_block (cS (cR (sV (vF rfl fa77_0 rfl) (sV (v_ldy rfl ld73) ?_)))))))
          refine sV (vM rfl) (sV (v_indexAddr (k := k) (congrArg some hcv) rfl sl73 rfl hkt rfl) (sV (vF rfl fa120_1 rfl) (sV (v_ldy rfl ld118) ?_)))
          refine sV (v_len rfl Tryz.underlying118) (sV (v_gtr rfl rfl) (sN (nK [1, 3, 4, 5, 88] rfl (nT (cC rfl (fun hx => ?_) (fun hx => ?_))))))
          · skip
            have hr := hbad (by
              unfold smallP
              rw [all_bad (g := fun l : Line => decide ((l.asks.length : Int) ≤ 30)) hkt (by rw [decide_eq_false_iff_not]; simpa using hx), Bool.and_false])
            subst hr
            refine cS (cR (sV (vA rfl) (sN (nK [2] rfl (nT (cT (xt_ret_block (xR (xR (xt_ret_block (xt_ret_block (xR (xR (xt_ret_block (xR ?_)))))))))))))))
            exact xt_rt rfl ⟨rfl, rfl⟩ (by (repeat (refine Sub.sel (by repeat (first | exact Sel.here | apply Sel.there)) ?_)); (repeat apply Sub.cons); first | exact Sub.refl _ | exact Sub.nil _)
          · skip
            refine cK (xB (xT (cR (sV (vM rfl) (sV (v_add rfl rfl (by unfold I64 at *; omega)) (sV (vA rfl) (sN (nK [1, 3, 4, 5] rfl (nx_xt (xt_aq (k + 1) ⟨hkt, fun j hj' hji => ?_⟩ (by show _ - _ < _ - _; omega)))))))))))
            by_cases hjk : j = k
            · subst hjk; simpa using hx
            · exact hallk j hj' (by omega)
        · skip
          have hkl : k = p.lines.length := by have : ¬ k < p.lines.length := by simpa using hd2
                                              omega
          refine cd_exit (xE (xE (xt_exit_block (xB (xT (cR (sV (vM rfl) (sV (v_add rfl rfl (by unfold I64 at *; omega)) (sV (vA rfl) (sN (nK [1, 3] rfl (nx_xt ?_))))))))))))
          refine xt_aq (i + 1) ⟨hlt, hgood (by
            unfold smallP
            rw [show smallG p = false from hq, all_good (g := fun l : Line => decide ((l.asks.length : Int) ≤ 30)) (fun j hj' => hallk j hj' (by omega))]
            rfl)⟩ (by show _ - _ < _ - _; omega)
    · skip
      have hin : i = y.procs.length := by have : ¬ i < y.procs.length := by simpa using hd
                                          omega
      rw [all_good (g := smallP) (fun j hj' => hall j hj' (by omega))] at hr0
      subst hr0
      refine cd_exit (xE (xE (xt_exit_block (xT (cS (cR (sV (vA rfl) (sN (nK [2] rfl (nT (cT ?_)))))))))))
      exact xt_rt rfl ⟨rfl, rfl⟩ (by (repeat (refine Sub.sel (by repeat (first | exact Sel.here | apply Sel.there)) ?_)); (repeat apply Sub.cons); first | exact Sub.refl _ | exact Sub.nil _)
set_option maxHeartbeats 1000000 in
set_option maxRecDepth 100000 in
theorem waitChecks_ct {jv : Value} {jobs : List (List Move)} {spots : Int} (hj : Row S 1 (jobR S) jv jobs) (hs : I64 spots) : Ct Tryz.prog 3 #[jv, .int .i64 spots] [S] fun u h' => u = .bool true ∧ h' = [S] := by
  refine ct_of (n := 45) Tryz.func3 rfl rfl (len rfl) fun hr w0 => ?_
  refine cS (cR (sV (vA rfl) (sN (nT (cS (cS (cR (sV (vM rfl) (st_clr rfl rfl en12 rfl (few_ct hj) ?_)))))))))
  refine sV (v_not rfl) (sN (nK [0, 1, 4, 11] rfl (nT (cC rfl (fun h0 => ?_) (fun h0 => ?_)))))
  · skip
    refine cS (cR (st_cl rfl rfl en13 rfl (sanity_ct) ?_))
    rintro u h' ⟨rfl, rfl⟩
    refine sV (vA rfl) (sN (nK [4] rfl (nT (cT (xR (xt_law rfl ?_))))))
    refine Sub.sel (by repeat (first | exact Sel.here | apply Sel.there)) ?_
    repeat apply Sub.cons
    exact Sub.refl _
  · skip
    have hfew : fewE jobs = true := by simpa using h0
    have hfit := few_Fits hfew
    refine cK (xT (cS (cR (sV (vM rfl) (sV (vM rfl) (st_cl rfl rfl en14 rfl (new_ct hj hfit hs) ?_))))))
    rintro u h' ⟨T0, rfl, ys0, rfl, hy0⟩
    obtain ⟨ja, pa0, rfl, hc1, hc2⟩ := yardR_cells hy0
    refine sV (vM rfl) (sV (v_extract rfl rfl) (sV (v_extract rfl rfl) (st_alc al27 fun b5 => ?_)))
    refine st_stoW rfl rfl sz27 rfl (by simp [hc1, hc2]) ?_
    refine sV (vA rfl) (sN (nK [0, 1, 4, 5, 6] rfl (nT (cS (cR (sV (vM rfl) (sV (vM rfl) (st_cl rfl rfl en15 rfl (rnew_ct hj hfit hs) ?_))))))))
    rintro u h' ⟨T1, rfl, ys1, rfl, hy1⟩
    obtain ⟨ja1, pa1, rfl, hd1, hd2⟩ := yardR_cells hy1
    simp only [List.cons_append, List.nil_append]
    refine st_alc al32 fun b7 => ?_
    refine st_stoW rfl rfl sz32 rfl (by rw [List.all_cons, List.all_cons, hd1, hd2]; rfl) ?_
    refine sN (nK [0, 1, 4, 5, 6, 7] rfl (nT (cS (cR (sV (v_ldn rfl ld27 rfl rds_pt) ?_)))))
    refine sV (vF rfl fa32_0 rfl) (sV (v_ldn (vs := [ja1, pa1]) rfl ld27 rfl (rds_sub rds_pt rfl)) ?_)
    refine st_clr rfl rfl en16 rfl (reads_star (sameYards_ct (S := Res.star [T0, T1, S]) (hy0.mono (rd_in .here)) (hy1.mono rd_tail) (newY_fit hfit))) ?_
    rw [show decide (newY jobs spots = newY jobs spots) = true from decide_eq_true rfl]
    refine sV (vA rfl) (sN (nK [0, 1, 4, 6, 7, 8] rfl (nT (cS (cR (st_cl rfl rfl en13 rfl (sanity_ct) ?_))))))
    rintro u h' ⟨rfl, rfl⟩
    refine sV (vM rfl) (st_vg rfl rfl (vM rfl) (st_vg rfl rfl (vM rfl) (st_clrg rfl rfl rfl rfl en17 rfl (check_ct hj hfit hs) ?_)))
    refine st_vg rfl rfl (vM rfl) (st_vg rfl rfl (vM rfl) (st_clrg rfl rfl rfl rfl en18 rfl (rcheck_ct hj hfit hs) ?_))
    refine st_vg rfl rfl (v_is (show Value.bool (check jobs spots == check jobs spots) = .bool true by simp) (v_eql rfl rfl)) ?_
    refine sV (v_pick_true rfl rfl) (sV (vM rfl) (st_vg rfl rfl (vM rfl) (st_vg rfl rfl (vF rfl fa32_1 rfl) (st_vg rfl rfl (v_ldy rfl ld28) ?_))))
    refine st_vg rfl rfl (v_is (show Value.bool (check jobs spots == check jobs spots) = .bool true by simp) (v_eql rfl rfl)) ?_
    refine sV (v_pick_true rfl rfl) (sV (vM rfl) (st_vg rfl rfl (vM rfl) (sV (v_pick_true rfl rfl) (sV (vA rfl) (sN (nK [4] rfl (nT (cT (xt_law rfl ?_)))))))))
    refine Sub.sel (by repeat (first | exact Sel.here | apply Sel.there)) ?_
    repeat apply Sub.cons
    exact Sub.refl _
end
end Go.Wt
namespace Go.Wt
open Go Go.Ck Go.Proofs Go.Proofs.YtboepbencndobaaGreat Fx
attribute [local irreducible] Go.Ck.Sub St Cd Xt Nx DrL LsW
section
variable {S : Res} {v v' : Value}
set_option maxRecDepth 100000 in
theorem lineq_ct {us us' : List Value} {l l' : Line} (hl : lineR S us l) (hl' : lineR S us' l') (hb : l.asks.length ≤ 1000000) : Reads Tryz.prog 93 #[.agg us.toArray, .agg us'.toArray] [S] (.bool (decide (l = l'))) := by
  obtain ⟨av, rfl, hA⟩ := hl
  obtain ⟨av', rfl, hA'⟩ := hl'
  obtain ⟨aa, ac, rfl, _⟩ := id hA
  obtain ⟨aa', ac', rfl, _⟩ := id hA'
  obtain ⟨xk, xa, xc, xb⟩ := l
  obtain ⟨yk, ya, yc, yb⟩ := l'
  simp only at *
  have hres : decide ((⟨xk, xa, xc, xb⟩ : Line) = ⟨yk, ya, yc, yb⟩) = ((xk == yk) && (xc == yc) && (xb == yb) && (xa == ya)) := by
    rw [Bool.eq_iff_iff]
    simp only [Line.mk.injEq, decide_eq_true_eq, Bool.and_eq_true, beq_iff_eq]
    constructor
    · rintro ⟨h1, h2, h3, h4⟩; exact ⟨⟨⟨h1, h3⟩, h4⟩, h2⟩
    · rintro ⟨⟨⟨h1, h3⟩, h4⟩, h2⟩; exact ⟨h1, h2, h3, h4⟩
  rw [hres]
  refine ct_of (n := 31) Tryz.func93 rfl rfl (len rfl) fun hr w0 => ?_
  refine cS (cR (st_bx rfl rfl fun b2 => ?_))
  refine st_bx rfl rfl fun b3 => ?_
  refine sV (vA rfl) (sN (nK [2, 3, 4] rfl (nT (cS (cR (sV (vF rfl fa120_0 rfl) (sV (v_ldn (vs := kC xk) rfl ld79 rfl (rds_sub rds_pt rfl)) ?_)))))))
  refine sV (vF rfl fa120_0 rfl) (sV (v_ldn (vs := kC yk) rfl ld79 rfl (rds_sub rds_pt rfl)) ?_)
  refine sV (v_eql_T eq79 rfl rfl) (sV (vM rfl) (st_cut (k := 12) (d := 16) (v := .bool ((xk == yk) && (xc == yc))) (fun hcut => bool_want (b := (xk == yk)) true (fun hg => ?_) (fun hg => ?_)) ?_))
  · refine st_sk rfl rfl hg ?_
    refine st_sk rfl rfl hg ?_
    refine st_sk rfl rfl hg ?_
    refine st_sk rfl rfl hg ?_
    refine st_sk rfl rfl hg ?_
    refine sV (vP (bool_ev rfl hg) rfl) ?_
    exact hcut _ (ssub_head (by first | rfl | (rw [hg]; rfl) | simp_all) (uS rfl (uS rfl (uS rfl (uS rfl (uS rfl (ssub_refl)))))))
  · skip
    refine st_vg rfl (bG rfl hg) (vF rfl fa120_2 rfl) (st_vg rfl (bG rfl hg) (v_ldy rfl ld4) ?_)
    refine st_vg rfl (bG rfl hg) (vF rfl fa120_2 rfl) (st_vg rfl (bG rfl hg) (v_ldy rfl ld4) ?_)
    refine st_vg rfl (bG rfl hg) (v_eql_bool Tryz.underlying4 rfl rfl) (sV (v_pick_true (bool_ev rfl hg) rfl) ?_)
    exact hcut _ (ssub_head (by first | rfl | (rw [hg]; rfl) | simp_all) (uS rfl (uS rfl (uS rfl (uS rfl (uS rfl (ssub_refl)))))))
  refine sV (vM rfl) (st_cut (k := 19) (d := 23) (v := .bool ((xk == yk) && (xc == yc) && (xb == yb))) (fun hcut => bool_want (b := ((xk == yk) && (xc == yc))) true (fun hg => ?_) (fun hg => ?_)) ?_)
  · refine st_sk rfl rfl hg ?_
    refine st_sk rfl rfl hg ?_
    refine st_sk rfl rfl hg ?_
    refine st_sk rfl rfl hg ?_
    refine st_sk rfl rfl hg ?_
    refine sV (vP (bool_ev rfl hg) rfl) ?_
    exact hcut _ (ssub_head (by first | rfl | (rw [hg]; rfl) | simp_all) (uS rfl (uS rfl (uS rfl (uS rfl (uS rfl (ssub_refl)))))))
  · skip
    refine st_vg rfl (bG rfl hg) (vF rfl fa120_3 rfl) (st_vg rfl (bG rfl hg) (v_ldy rfl ld4) ?_)
    refine st_vg rfl (bG rfl hg) (vF rfl fa120_3 rfl) (st_vg rfl (bG rfl hg) (v_ldy rfl ld4) ?_)
    refine st_vg rfl (bG rfl hg) (v_eql_bool Tryz.underlying4 rfl rfl) (sV (v_pick_true (bool_ev rfl hg) rfl) ?_)
    exact hcut _ (ssub_head (by first | rfl | (rw [hg]; rfl) | simp_all) (uS rfl (uS rfl (uS rfl (uS rfl (uS rfl (ssub_refl)))))))
  refine sV (vM rfl) (st_cut (k := 26) (d := 30) (v := .bool ((xk == yk) && (xc == yc) && (xb == yb) && (xa == ya))) (fun hcut => bool_want (b := ((xk == yk) && (xc == yc) && (xb == yb))) true (fun hg => ?_) (fun hg => ?_)) ?_)
  · refine st_sk rfl rfl hg ?_
    refine st_sk rfl rfl hg ?_
    refine st_sk rfl rfl hg ?_
    refine st_sk rfl rfl hg ?_
    refine st_sk rfl rfl hg ?_
    refine sV (vP (bool_ev rfl hg) rfl) ?_
    exact hcut _ (ssub_head (by first | rfl | (rw [hg]; rfl) | simp_all) (uS rfl (uS rfl (uS rfl (uS rfl (uS rfl (ssub_refl)))))))
  · skip
    refine st_vg rfl (bG rfl hg) (vF rfl fa120_1 rfl) (st_vg rfl (bG rfl hg) (v_ldy rfl ld118) ?_)
    refine st_vg rfl (bG rfl hg) (vF rfl fa120_1 rfl) (st_vg rfl (bG rfl hg) (v_ldy rfl ld118) ?_)
    refine st_clrg rfl (bG rfl hg) rfl rfl en94 rfl (equal94_ct hA hA' hb) ?_
    refine sV (v_pick_true (bool_ev rfl hg) rfl) ?_
    exact hcut _ (ssub_head (by first | rfl | (rw [hg]; rfl) | simp_all) (uS rfl (uS rfl (uS rfl (uS rfl (uS rfl (ssub_refl)))))))
  refine sV (vA rfl) (sN (nK [4] rfl (nT (cT ?_))))
  exact xt_rt rfl ⟨rfl, rfl⟩ (by (repeat (refine Sub.sel (by repeat (first | exact Sel.here | apply Sel.there)) ?_)); (repeat apply Sub.cons); first | exact Sub.refl _ | exact Sub.nil _)
set_option maxRecDepth 100000 in
theorem eqf96_ct {bf : Nat} {l l' : List Line} (hv : Row S 5 (lineR S) v l) (hv' : Row S 5 (lineR S) v' l') (hl : l.length ≤ 1000000) (hb : ∀ x ∈ l, x.asks.length ≤ 1000000) : Reads Tryz.prog 96 #[v, v', .func (.func 93) #[] #[]] [S] (.bool (decide (l = l'))) := by
  obtain ⟨a, cap, hv1, _⟩ := id hv
  obtain ⟨a', cap', hv1', _⟩ := id hv'
  refine ct_of (n := 32) Tryz.func96 rfl rfl (len rfl) fun hr w0 => ?_
  refine cS (cR (sV (vA rfl) (sN (nT (cS (cS (cR (sV (vM rfl) (sV (v_len (congrArg some hv1) Tryz.underlying73) (sV (vM rfl) (sV (v_len (congrArg some hv1') Tryz.underlying73) (sV (v_neq rfl rfl) (sN (nK [0, 1, 2, 6, 14] rfl (nT (cC rfl (fun h0 => ?_) (fun h0 => ?_)))))))))))))))))
  · skip
    refine cS (cR (sV (vA rfl) (sN (nK [6] rfl (nT (cT (xR ?_)))))))
    rw [decide_eq_false (fun e => by simp [e] at h0)]
    exact xt_rt rfl ⟨rfl, rfl⟩ (by (repeat (refine Sub.sel (by repeat (first | exact Sel.here | apply Sel.there)) ?_)); (repeat apply Sub.cons); first | exact Sub.refl _ | exact Sub.nil _)
  · skip
    refine cK (xT (cS (cS (cR (sV (vM rfl) (sV (v_len (congrArg some hv1) Tryz.underlying73) (sV (vM rfl) (sN (nK [1, 2, 6, 15, 16, 17] rfl (nT (cd_block ?_)))))))))))
    have hlen : l.length = l'.length := Int.ofNat.inj (show (l.length : Int) = (l'.length : Int) by simpa using h0)
    refine cd_lq (σ := Nat) (fun i => [(1, v'), (2, .func (.func 93) #[] #[]), (15, v), (16, .int .i64 l.length), (17, .int .i64 (i : Nat))]) (fun _ => [S] ++ hr) (fun i => i ≤ l.length ∧ ∀ (j : Nat), j < i → l[j]? = l'[j]?) (fun i => l.length - i) 0 ⟨Nat.zero_le _, fun j hj => by omega⟩ ?_
    rintro i ⟨hi, hne⟩
    refine cS (cR (sV (v_lss rfl rfl) (sN (nT (cS (cC rfl (fun hd => ?_) (fun hd => ?_)))))))
    · skip
      have hlt : i < l.length := by simpa using hd
      have hlt' : i < l'.length := by omega
      obtain ⟨b, o, cp2, us, hv2, hus, hrd, hX⟩ := hv.at (List.getElem?_eq_getElem hlt)
      obtain ⟨b', o', cp2', us', hv2', hus', hrd', hX'⟩ := hv'.at (List.getElem?_eq_getElem hlt')
      have hbx := hb _ (List.getElem_mem hlt)
      have hno : l[i] ≠ l'[i] → decide (l = l') = false := fun h => decide_eq_false fun e => h (by simp only [e])
      have hyes : l[i] = l'[i] → l[i]? = l'[i]? := fun h => by rw [List.getElem?_eq_getElem hlt, List.getElem?_eq_getElem hlt', h]
      generalize l[i] = x at *
      generalize l'[i] = x' at *
      obtain ⟨av, rfl, hA⟩ := id hX
      obtain ⟨aa, ac, rfl, _⟩ := id hA
      obtain ⟨av', rfl, hA'⟩ := id hX'
      obtain ⟨aa', ac', rfl, _⟩ := id hA'
      simp only [List.cons_append, List.nil_append]
      refine cK (xT (cS (cd_block (cS (cR (sV (vM rfl) (sV (v_indexAddr (k := i) (congrArg some hv2) rfl sl73 rfl hlt rfl) (sV (v_ldn rfl ld120 hus hrd) ?_))))))))
      refine st_alc al120 fun b8 => ?_
      refine sV (vA rfl) (st_stoW rfl rfl sz120 rfl rfl ?_)
      refine sN (nK [1, 2, 7, 8, 15, 16, 17] rfl (nT (cS (cR (sV (vM rfl) (sV (vM rfl) (sV (v_indexAddr (k := i) (congrArg some hv2') rfl sl73 rfl hlt' rfl) (sV (v_ldn rfl ld120 hus' hrd') ?_))))))))
      refine st_alc al120 fun b9 => ?_
      refine st_stoW rfl rfl sz120 rfl rfl ?_
      refine sN (nK [1, 2, 8, 9, 15, 16, 17] rfl (nT (cS (cR (sV (vM rfl) (sV (v_ldn rfl ld120 rfl rds_pt) ?_))))))
      refine sV (v_ldn rfl ld120 rfl rds_pt) ?_
      refine st_clr rfl rfl en93 rfl (lineq_ct hX hX' hbx) ?_
      refine sV (v_not rfl) (sN (nK [1, 2, 15, 16, 17, 30] rfl (nT (cC rfl (fun he => ?_) (fun he => ?_)))))
      · skip
        refine cS (cR (sV (vA rfl) (sN (nK [6] rfl (nT (cT (xt_ret_block (xR (xR (xt_ret_block (xR ?_)))))))))))
        rw [hno (fun e => by rw [decide_eq_true e] at he; cases he)]
        exact xt_rt rfl ⟨rfl, rfl⟩ (by (repeat (refine Sub.sel (by repeat (first | exact Sel.here | apply Sel.there)) ?_)); (repeat apply Sub.cons); first | exact Sub.refl _ | exact Sub.nil _)
      · skip
        refine cK (xB (xT (cR (sV (v_add rfl rfl (by unfold I64 at *; omega)) (sV (vM rfl) (sN (nK [1, 2, 15, 16, 17] rfl (nx_xt (xt_aq (i + 1) ⟨hlt, fun j hj => ?_⟩ (by show _ - _ < _ - _; omega))))))))))
        by_cases hji : j = i
        · subst hji; exact hyes (by simpa using he)
        · exact hne j (by omega)
    · skip
      refine cd_exit (xE (xE (xt_exit_block (xT (cS (cR (sV (vA rfl) (sN (nK [6] rfl (nT (cT ?_)))))))))))
      have hil : i = l.length := by have : ¬ i < l.length := by simpa using hd
                                    omega
      rw [decide_eq_true (list_eq hlen fun j hj => hne j (by omega))]
      exact xt_rt rfl ⟨rfl, rfl⟩ (by (repeat (refine Sub.sel (by repeat (first | exact Sel.here | apply Sel.there)) ?_)); (repeat apply Sub.cons); first | exact Sub.refl _ | exact Sub.nil _)
set_option maxRecDepth 100000 in
theorem proceq_ct {us us' : List Value} {p p' : Proc} {bf : Nat} (hp : procR S us p) (hp' : procR S us' p') (hf : FitP p) : Reads Tryz.prog 95 #[.agg us.toArray, .agg us'.toArray, .pointer (some ⟨bf, 0, none⟩)] [pt bf (cl [.func (.func 93) #[] #[]] 157), S] (.bool (decide (p = p'))) := by
  obtain ⟨lv, pv, hv, dv, rfl, hL, hP, hH, hD⟩ := hp
  obtain ⟨lv', pv', hv', dv', rfl, hL', hP', hH', hD'⟩ := hp'
  obtain ⟨f1, f2, f3, f4, f5⟩ := hf
  obtain ⟨al, cl1, rfl, _⟩ := id hL
  obtain ⟨ap, cp1, rfl, _⟩ := id hP
  obtain ⟨ah, ch1, rfl, _⟩ := id hH
  obtain ⟨ad, cd1, rfl, _⟩ := id hD
  obtain ⟨al', cl2, rfl, _⟩ := id hL'
  obtain ⟨ap', cp2, rfl, _⟩ := id hP'
  obtain ⟨ah', ch2, rfl, _⟩ := id hH'
  obtain ⟨ad', cd2, rfl, _⟩ := id hD'
  obtain ⟨p1, p2, p3, p4, p5, p6, p7, p8, p9⟩ := p
  obtain ⟨q1, q2, q3, q4, q5, q6, q7, q8, q9⟩ := p'
  simp only at *
  have hres : decide ((⟨p1, p2, p3, p4, p5, p6, p7, p8, p9⟩ : Proc) = ⟨q1, q2, q3, q4, q5, q6, q7, q8, q9⟩) = (decide (p1 = q1) && (p2 == q2) && (p3 == q3) && (p4 == q4) && (p5 == q5) && (p6 == q6) && (p7 == q7) && (p8 == q8) && (p9 == q9)) := by
    rw [Bool.eq_iff_iff]
    simp only [Proc.mk.injEq, decide_eq_true_eq, Bool.and_eq_true, beq_iff_eq, and_assoc]
  rw [hres]
  refine ct_of (n := 68) Tryz.func95 rfl rfl (len rfl) fun hr w0 => ?_
  refine cS (cR (st_bx rfl rfl fun b3 => ?_))
  refine st_bx rfl rfl fun b4 => ?_
  refine sV (vA rfl) (sN (nK [2, 3, 4, 5] rfl (nT (cS (cR (sV (vF rfl fa77_0 rfl) (sV (v_ldy rfl ld73) ?_)))))))
  refine sV (vF rfl fa77_0 rfl) (sV (v_ldy rfl ld73) ?_)
  refine sV (v_ldy rfl ld157) ?_
  refine st_clr rfl rfl en96 rfl (eqf96_ct (bf := 0) hL hL' f1 f5) ?_
  refine sV (vM rfl) (st_cut (k := 13) (d := 18) (v := .bool (decide (p1 = q1) && (p2 == q2))) (fun hcut => bool_want (b := decide (p1 = q1)) true (fun hg => ?_) (fun hg => ?_)) ?_)
  · refine st_sk rfl rfl hg ?_
    refine st_sk rfl rfl hg ?_
    refine st_sk rfl rfl hg ?_
    refine st_sk rfl rfl hg ?_
    refine st_sk rfl rfl hg ?_
    refine sV (vP (bool_ev rfl hg) rfl) ?_
    exact hcut _ (ssub_head (by first | rfl | (rw [hg]; rfl) | simp_all) (uS rfl (uS rfl (uS rfl (uS rfl (uS rfl (ssub_refl)))))))
  · skip
    refine st_vg rfl (bG rfl hg) (vF rfl fa77_1 rfl) (st_vg rfl (bG rfl hg) (v_ldy rfl ld74) ?_)
    refine st_vg rfl (bG rfl hg) (vF rfl fa77_1 rfl) (st_vg rfl (bG rfl hg) (v_ldy rfl ld74) ?_)
    refine st_clrg rfl (bG rfl hg) rfl rfl en43 rfl (equal43_ct hP hP' f2) ?_
    refine sV (v_pick_true (bool_ev rfl hg) rfl) ?_
    exact hcut _ (ssub_head (by first | rfl | (rw [hg]; rfl) | simp_all) (uS rfl (uS rfl (uS rfl (uS rfl (uS rfl (ssub_refl)))))))
  refine sV (vM rfl) (st_cut (k := 20) (d := 25) (v := .bool (decide (p1 = q1) && (p2 == q2) && (p3 == q3))) (fun hcut => bool_want (b := decide (p1 = q1) && (p2 == q2)) true (fun hg => ?_) (fun hg => ?_)) ?_)
  · refine st_sk rfl rfl hg ?_
    refine st_sk rfl rfl hg ?_
    refine st_sk rfl rfl hg ?_
    refine st_sk rfl rfl hg ?_
    refine st_sk rfl rfl hg ?_
    refine sV (vP (bool_ev rfl hg) rfl) ?_
    exact hcut _ (ssub_head (by first | rfl | (rw [hg]; rfl) | simp_all) (uS rfl (uS rfl (uS rfl (uS rfl (uS rfl (ssub_refl)))))))
  · skip
    refine st_vg rfl (bG rfl hg) (vF rfl fa77_2 rfl) (st_vg rfl (bG rfl hg) (v_ldy rfl ld3) ?_)
    refine st_vg rfl (bG rfl hg) (vF rfl fa77_2 rfl) (st_vg rfl (bG rfl hg) (v_ldy rfl ld3) ?_)
    refine st_vg rfl (bG rfl hg) (v_eql rfl rfl) (sV (v_pick_true (bool_ev rfl hg) rfl) ?_)
    exact hcut _ (ssub_head (by first | rfl | (rw [hg]; rfl) | simp_all) (uS rfl (uS rfl (uS rfl (uS rfl (uS rfl (ssub_refl)))))))
  refine sV (vM rfl) (st_cut (k := 27) (d := 32) (v := .bool (decide (p1 = q1) && (p2 == q2) && (p3 == q3) && (p4 == q4))) (fun hcut => bool_want (b := decide (p1 = q1) && (p2 == q2) && (p3 == q3)) true (fun hg => ?_) (fun hg => ?_)) ?_)
  · refine st_sk rfl rfl hg ?_
    refine st_sk rfl rfl hg ?_
    refine st_sk rfl rfl hg ?_
    refine st_sk rfl rfl hg ?_
    refine st_sk rfl rfl hg ?_
    refine sV (vP (bool_ev rfl hg) rfl) ?_
    exact hcut _ (ssub_head (by first | rfl | (rw [hg]; rfl) | simp_all) (uS rfl (uS rfl (uS rfl (uS rfl (uS rfl (ssub_refl)))))))
  · skip
    refine st_vg rfl (bG rfl hg) (vF rfl fa77_3 rfl) (st_vg rfl (bG rfl hg) (v_ldy rfl ld3) ?_)
    refine st_vg rfl (bG rfl hg) (vF rfl fa77_3 rfl) (st_vg rfl (bG rfl hg) (v_ldy rfl ld3) ?_)
    refine st_vg rfl (bG rfl hg) (v_eql rfl rfl) (sV (v_pick_true (bool_ev rfl hg) rfl) ?_)
    exact hcut _ (ssub_head (by first | rfl | (rw [hg]; rfl) | simp_all) (uS rfl (uS rfl (uS rfl (uS rfl (uS rfl (ssub_refl)))))))
  refine sV (vM rfl) (st_cut (k := 34) (d := 39) (v := .bool (decide (p1 = q1) && (p2 == q2) && (p3 == q3) && (p4 == q4) && (p5 == q5))) (fun hcut => bool_want (b := decide (p1 = q1) && (p2 == q2) && (p3 == q3) && (p4 == q4)) true (fun hg => ?_) (fun hg => ?_)) ?_)
  · refine st_sk rfl rfl hg ?_
    refine st_sk rfl rfl hg ?_
    refine st_sk rfl rfl hg ?_
    refine st_sk rfl rfl hg ?_
    refine st_sk rfl rfl hg ?_
    refine sV (vP (bool_ev rfl hg) rfl) ?_
    exact hcut _ (ssub_head (by first | rfl | (rw [hg]; rfl) | simp_all) (uS rfl (uS rfl (uS rfl (uS rfl (uS rfl (ssub_refl)))))))
  · skip
    refine st_vg rfl (bG rfl hg) (vF rfl fa77_4 rfl) (st_vg rfl (bG rfl hg) (v_ldy rfl ld4) ?_)
    refine st_vg rfl (bG rfl hg) (vF rfl fa77_4 rfl) (st_vg rfl (bG rfl hg) (v_ldy rfl ld4) ?_)
    refine st_vg rfl (bG rfl hg) (v_eql_bool Tryz.underlying4 rfl rfl) (sV (v_pick_true (bool_ev rfl hg) rfl) ?_)
    exact hcut _ (ssub_head (by first | rfl | (rw [hg]; rfl) | simp_all) (uS rfl (uS rfl (uS rfl (uS rfl (uS rfl (ssub_refl)))))))
  refine sV (vM rfl) (st_cut (k := 41) (d := 46) (v := .bool (decide (p1 = q1) && (p2 == q2) && (p3 == q3) && (p4 == q4) && (p5 == q5) && (p6 == q6))) (fun hcut => bool_want (b := decide (p1 = q1) && (p2 == q2) && (p3 == q3) && (p4 == q4) && (p5 == q5)) true (fun hg => ?_) (fun hg => ?_)) ?_)
  · refine st_sk rfl rfl hg ?_
    refine st_sk rfl rfl hg ?_
    refine st_sk rfl rfl hg ?_
    refine st_sk rfl rfl hg ?_
    refine st_sk rfl rfl hg ?_
    refine sV (vP (bool_ev rfl hg) rfl) ?_
    exact hcut _ (ssub_head (by first | rfl | (rw [hg]; rfl) | simp_all) (uS rfl (uS rfl (uS rfl (uS rfl (uS rfl (ssub_refl)))))))
  · skip
    refine st_vg rfl (bG rfl hg) (vF rfl fa77_5 rfl) (st_vg rfl (bG rfl hg) (v_ldy rfl ld75) ?_)
    refine st_vg rfl (bG rfl hg) (vF rfl fa77_5 rfl) (st_vg rfl (bG rfl hg) (v_ldy rfl ld75) ?_)
    refine st_clrg rfl (bG rfl hg) rfl rfl en97 rfl (equal97_ct hH hH' f3) ?_
    refine sV (v_pick_true (bool_ev rfl hg) rfl) ?_
    exact hcut _ (ssub_head (by first | rfl | (rw [hg]; rfl) | simp_all) (uS rfl (uS rfl (uS rfl (uS rfl (uS rfl (ssub_refl)))))))
  refine sV (vM rfl) (st_cut (k := 48) (d := 53) (v := .bool (decide (p1 = q1) && (p2 == q2) && (p3 == q3) && (p4 == q4) && (p5 == q5) && (p6 == q6) && (p7 == q7))) (fun hcut => bool_want (b := decide (p1 = q1) && (p2 == q2) && (p3 == q3) && (p4 == q4) && (p5 == q5) && (p6 == q6)) true (fun hg => ?_) (fun hg => ?_)) ?_)
  · refine st_sk rfl rfl hg ?_
    refine st_sk rfl rfl hg ?_
    refine st_sk rfl rfl hg ?_
    refine st_sk rfl rfl hg ?_
    refine st_sk rfl rfl hg ?_
    refine sV (vP (bool_ev rfl hg) rfl) ?_
    exact hcut _ (ssub_head (by first | rfl | (rw [hg]; rfl) | simp_all) (uS rfl (uS rfl (uS rfl (uS rfl (uS rfl (ssub_refl)))))))
  · skip
    refine st_vg rfl (bG rfl hg) (vF rfl fa77_6 rfl) (st_vg rfl (bG rfl hg) (v_ldy rfl ld3) ?_)
    refine st_vg rfl (bG rfl hg) (vF rfl fa77_6 rfl) (st_vg rfl (bG rfl hg) (v_ldy rfl ld3) ?_)
    refine st_vg rfl (bG rfl hg) (v_eql rfl rfl) (sV (v_pick_true (bool_ev rfl hg) rfl) ?_)
    exact hcut _ (ssub_head (by first | rfl | (rw [hg]; rfl) | simp_all) (uS rfl (uS rfl (uS rfl (uS rfl (uS rfl (ssub_refl)))))))
  refine sV (vM rfl) (st_cut (k := 55) (d := 60) (v := .bool (decide (p1 = q1) && (p2 == q2) && (p3 == q3) && (p4 == q4) && (p5 == q5) && (p6 == q6) && (p7 == q7) && (p8 == q8))) (fun hcut => bool_want (b := decide (p1 = q1) && (p2 == q2) && (p3 == q3) && (p4 == q4) && (p5 == q5) && (p6 == q6) && (p7 == q7)) true (fun hg => ?_) (fun hg => ?_)) ?_)
  · refine st_sk rfl rfl hg ?_
    refine st_sk rfl rfl hg ?_
    refine st_sk rfl rfl hg ?_
    refine st_sk rfl rfl hg ?_
    refine st_sk rfl rfl hg ?_
    refine sV (vP (bool_ev rfl hg) rfl) ?_
    exact hcut _ (ssub_head (by first | rfl | (rw [hg]; rfl) | simp_all) (uS rfl (uS rfl (uS rfl (uS rfl (uS rfl (ssub_refl)))))))
  · skip
    refine st_vg rfl (bG rfl hg) (vF rfl fa77_7 rfl) (st_vg rfl (bG rfl hg) (v_ldy rfl ld3) ?_)
    refine st_vg rfl (bG rfl hg) (vF rfl fa77_7 rfl) (st_vg rfl (bG rfl hg) (v_ldy rfl ld3) ?_)
    refine st_vg rfl (bG rfl hg) (v_eql rfl rfl) (sV (v_pick_true (bool_ev rfl hg) rfl) ?_)
    exact hcut _ (ssub_head (by first | rfl | (rw [hg]; rfl) | simp_all) (uS rfl (uS rfl (uS rfl (uS rfl (uS rfl (ssub_refl)))))))
  refine sV (vM rfl) (st_cut (k := 62) (d := 67) (v := .bool (decide (p1 = q1) && (p2 == q2) && (p3 == q3) && (p4 == q4) && (p5 == q5) && (p6 == q6) && (p7 == q7) && (p8 == q8) && (p9 == q9))) (fun hcut => bool_want (b := decide (p1 = q1) && (p2 == q2) && (p3 == q3) && (p4 == q4) && (p5 == q5) && (p6 == q6) && (p7 == q7) && (p8 == q8)) true (fun hg => ?_) (fun hg => ?_)) ?_)
  · refine st_sk rfl rfl hg ?_
    refine st_sk rfl rfl hg ?_
    refine st_sk rfl rfl hg ?_
    refine st_sk rfl rfl hg ?_
    refine st_sk rfl rfl hg ?_
    refine sV (vP (bool_ev rfl hg) rfl) ?_
    exact hcut _ (ssub_head (by first | rfl | (rw [hg]; rfl) | simp_all) (uS rfl (uS rfl (uS rfl (uS rfl (uS rfl (ssub_refl)))))))
  · skip
    refine st_vg rfl (bG rfl hg) (vF rfl fa77_8 rfl) (st_vg rfl (bG rfl hg) (v_ldy rfl ld62) ?_)
    refine st_vg rfl (bG rfl hg) (vF rfl fa77_8 rfl) (st_vg rfl (bG rfl hg) (v_ldy rfl ld62) ?_)
    refine st_clrg rfl (bG rfl hg) rfl rfl en98 rfl (equal98_ct hD hD' f4) ?_
    refine sV (v_pick_true (bool_ev rfl hg) rfl) ?_
    exact hcut _ (ssub_head (by first | rfl | (rw [hg]; rfl) | simp_all) (uS rfl (uS rfl (uS rfl (uS rfl (uS rfl (ssub_refl)))))))
  refine sV (vA rfl) (sN (nK [5] rfl (nT (cT ?_))))
  exact xt_rt rfl ⟨rfl, rfl⟩ (by (repeat (refine Sub.sel (by repeat (first | exact Sel.here | apply Sel.there)) ?_)); (repeat apply Sub.cons); first | exact Sub.refl _ | exact Sub.nil _)
set_option maxRecDepth 100000 in
theorem eqf101_ct {bf : Nat} {l l' : List Proc} (hv : Row S 9 (procR S) v l) (hv' : Row S 9 (procR S) v' l') (hl : l.length ≤ 1000000) (hb : ∀ x ∈ l, FitP x) : Reads Tryz.prog 101 #[v, v', .func (.func 95) #[] #[.pointer (some ⟨bf, 0, none⟩)]] [pt bf (cl [.func (.func 93) #[] #[]] 157), S] (.bool (decide (l = l'))) := by
  obtain ⟨a, cap, hv1, _⟩ := id hv
  obtain ⟨a', cap', hv1', _⟩ := id hv'
  refine ct_of (n := 32) Tryz.func101 rfl rfl (len rfl) fun hr w0 => ?_
  refine cS (cR (sV (vA rfl) (sN (nT (cS (cS (cR (sV (vM rfl) (sV (v_len (congrArg some hv1) Tryz.underlying25) (sV (vM rfl) (sV (v_len (congrArg some hv1') Tryz.underlying25) (sV (v_neq rfl rfl) (sN (nK [0, 1, 2, 6, 14] rfl (nT (cC rfl (fun h0 => ?_) (fun h0 => ?_)))))))))))))))))
  · skip
    refine cS (cR (sV (vA rfl) (sN (nK [6] rfl (nT (cT (xR ?_)))))))
    rw [decide_eq_false (fun e => by simp [e] at h0)]
    exact xt_rt rfl ⟨rfl, rfl⟩ (by (repeat (refine Sub.sel (by repeat (first | exact Sel.here | apply Sel.there)) ?_)); (repeat apply Sub.cons); first | exact Sub.refl _ | exact Sub.nil _)
  · skip
    refine cK (xT (cS (cS (cR (sV (vM rfl) (sV (v_len (congrArg some hv1) Tryz.underlying25) (sV (vM rfl) (sN (nK [1, 2, 6, 15, 16, 17] rfl (nT (cd_block ?_)))))))))))
    have hlen : l.length = l'.length := Int.ofNat.inj (show (l.length : Int) = (l'.length : Int) by simpa using h0)
    refine cd_lq (σ := Nat) (fun i => [(1, v'), (2, .func (.func 95) #[] #[.pointer (some ⟨bf, 0, none⟩)]), (15, v), (16, .int .i64 l.length), (17, .int .i64 (i : Nat))]) (fun _ => [pt bf (cl [.func (.func 93) #[] #[]] 157), S] ++ hr) (fun i => i ≤ l.length ∧ ∀ (j : Nat), j < i → l[j]? = l'[j]?) (fun i => l.length - i) 0 ⟨Nat.zero_le _, fun j hj => by omega⟩ ?_
    rintro i ⟨hi, hne⟩
    refine cS (cR (sV (v_lss rfl rfl) (sN (nT (cS (cC rfl (fun hd => ?_) (fun hd => ?_)))))))
    · skip
      have hlt : i < l.length := by simpa using hd
      have hlt' : i < l'.length := by omega
      obtain ⟨b, o, cp2, us, hv2, hus, hrd, hX⟩ := hv.at (List.getElem?_eq_getElem hlt)
      obtain ⟨b', o', cp2', us', hv2', hus', hrd', hX'⟩ := hv'.at (List.getElem?_eq_getElem hlt')
      have hbx := hb _ (List.getElem_mem hlt)
      have hno : l[i] ≠ l'[i] → decide (l = l') = false := fun h => decide_eq_false fun e => h (by simp only [e])
      have hyes : l[i] = l'[i] → l[i]? = l'[i]? := fun h => by rw [List.getElem?_eq_getElem hlt, List.getElem?_eq_getElem hlt', h]
      generalize l[i] = x at *
      generalize l'[i] = x' at *
      obtain ⟨lv, pv, hv0, dv, rfl, hL, hP, hH, hD⟩ := id hX
      obtain ⟨_, _, rfl, _⟩ := id hL
      obtain ⟨_, _, rfl, _⟩ := id hP
      obtain ⟨_, _, rfl, _⟩ := id hH
      obtain ⟨_, _, rfl, _⟩ := id hD
      obtain ⟨lv', pv', hv0', dv', rfl, hL', hP', hH', hD'⟩ := id hX'
      obtain ⟨_, _, rfl, _⟩ := id hL'
      obtain ⟨_, _, rfl, _⟩ := id hP'
      obtain ⟨_, _, rfl, _⟩ := id hH'
      obtain ⟨_, _, rfl, _⟩ := id hD'
      simp only [List.cons_append, List.nil_append]
      refine cK (xT (cS (cd_block (cS (cR (sV (vM rfl) (sV (v_indexAddr (k := i) (congrArg some hv2) rfl sl25 rfl hlt rfl) (sV (v_ldn rfl ld77 hus hrd) ?_))))))))
      refine st_alc al77 fun b8 => ?_
      refine sV (vA rfl) (st_stoW rfl rfl sz77 rfl rfl ?_)
      refine sN (nK [1, 2, 7, 8, 15, 16, 17] rfl (nT (cS (cR (sV (vM rfl) (sV (vM rfl) (sV (v_indexAddr (k := i) (congrArg some hv2') rfl sl25 rfl hlt' rfl) (sV (v_ldn rfl ld77 hus' hrd') ?_))))))))
      refine st_alc al77 fun b9 => ?_
      refine st_stoW rfl rfl sz77 rfl rfl ?_
      refine sN (nK [1, 2, 8, 9, 15, 16, 17] rfl (nT (cS (cR (sV (vM rfl) (sV (v_ldn rfl ld77 rfl rds_pt) ?_))))))
      refine sV (v_ldn rfl ld77 rfl rds_pt) ?_
      refine st_clr rfl rfl en95 rfl (proceq_ct hX hX' hbx) ?_
      refine sV (v_not rfl) (sN (nK [1, 2, 15, 16, 17, 30] rfl (nT (cC rfl (fun he => ?_) (fun he => ?_)))))
      · skip
        refine cS (cR (sV (vA rfl) (sN (nK [6] rfl (nT (cT (xt_ret_block (xR (xR (xt_ret_block (xR ?_)))))))))))
        rw [hno (fun e => by rw [decide_eq_true e] at he; cases he)]
        exact xt_rt rfl ⟨rfl, rfl⟩ (by (repeat (refine Sub.sel (by repeat (first | exact Sel.here | apply Sel.there)) ?_)); (repeat apply Sub.cons); first | exact Sub.refl _ | exact Sub.nil _)
      · skip
        refine cK (xB (xT (cR (sV (v_add rfl rfl (by unfold I64 at *; omega)) (sV (vM rfl) (sN (nK [1, 2, 15, 16, 17] rfl (nx_xt (xt_aq (i + 1) ⟨hlt, fun j hj => ?_⟩ (by show _ - _ < _ - _; omega))))))))))
        by_cases hji : j = i
        · subst hji; exact hyes (by simpa using he)
        · exact hne j (by omega)
    · skip
      refine cd_exit (xE (xE (xt_exit_block (xT (cS (cR (sV (vA rfl) (sN (nK [6] rfl (nT (cT ?_)))))))))))
      have hil : i = l.length := by have : ¬ i < l.length := by simpa using hd
                                    omega
      rw [decide_eq_true (list_eq hlen fun j hj => hne j (by omega))]
      exact xt_rt rfl ⟨rfl, rfl⟩ (by (repeat (refine Sub.sel (by repeat (first | exact Sel.here | apply Sel.there)) ?_)); (repeat apply Sub.cons); first | exact Sub.refl _ | exact Sub.nil _)
set_option maxRecDepth 100000 in
theorem eqf99_ct {l l' : List (List Move)} (hv : Row S 1 (jobR S) v l) (hv' : Row S 1 (jobR S) v' l') (hl : l.length ≤ 1000000) (hb : ∀ x ∈ l, x.length ≤ 1000000) : Reads Tryz.prog 99 #[v, v', .func (.func 100) #[] #[]] [S] (.bool (decide (l = l'))) := by
  obtain ⟨a, cap, hv1, _⟩ := id hv
  obtain ⟨a', cap', hv1', _⟩ := id hv'
  refine ct_of (n := 32) Tryz.func99 rfl rfl (len rfl) fun hr w0 => ?_
  refine cS (cR (sV (vA rfl) (sN (nT (cS (cS (cR (sV (vM rfl) (sV (v_len (congrArg some hv1) Tryz.underlying22) (sV (vM rfl) (sV (v_len (congrArg some hv1') Tryz.underlying22) (sV (v_neq rfl rfl) (sN (nK [0, 1, 2, 6, 14] rfl (nT (cC rfl (fun h0 => ?_) (fun h0 => ?_)))))))))))))))))
  · skip
    refine cS (cR (sV (vA rfl) (sN (nK [6] rfl (nT (cT (xR ?_)))))))
    rw [decide_eq_false (fun e => by simp [e] at h0)]
    exact xt_rt rfl ⟨rfl, rfl⟩ (by (repeat (refine Sub.sel (by repeat (first | exact Sel.here | apply Sel.there)) ?_)); (repeat apply Sub.cons); first | exact Sub.refl _ | exact Sub.nil _)
  · skip
    refine cK (xT (cS (cS (cR (sV (vM rfl) (sV (v_len (congrArg some hv1) Tryz.underlying22) (sV (vM rfl) (sN (nK [1, 2, 6, 15, 16, 17] rfl (nT (cd_block ?_)))))))))))
    have hlen : l.length = l'.length := Int.ofNat.inj (show (l.length : Int) = (l'.length : Int) by simpa using h0)
    refine cd_lq (σ := Nat) (fun i => [(1, v'), (2, .func (.func 100) #[] #[]), (15, v), (16, .int .i64 l.length), (17, .int .i64 (i : Nat))]) (fun _ => S :: hr) (fun i => i ≤ l.length ∧ ∀ (j : Nat), j < i → l[j]? = l'[j]?) (fun i => l.length - i) 0 ⟨Nat.zero_le _, fun j hj => by omega⟩ ?_
    rintro i ⟨hi, hne⟩
    refine cS (cR (sV (v_lss rfl rfl) (sN (nT (cS (cC rfl (fun hd => ?_) (fun hd => ?_)))))))
    · skip
      have hlt : i < l.length := by simpa using hd
      have hlt' : i < l'.length := by omega
      obtain ⟨b, o, cp2, u, ua, uc, hv2, hrd, hu, hX⟩ := jobs_at hv hlt
      subst hu
      obtain ⟨b', o', cp2', u', ua', uc', hv2', hrd', hu', hX'⟩ := jobs_at hv' hlt'
      subst hu'
      have hbx := hb _ (List.getElem_mem hlt)
      have hno : l[i] ≠ l'[i] → decide (l = l') = false := fun h => decide_eq_false fun e => h (by simp only [e])
      have hyes : l[i] = l'[i] → l[i]? = l'[i]? := fun h => by rw [List.getElem?_eq_getElem hlt, List.getElem?_eq_getElem hlt', h]
      generalize l[i] = x at *
      generalize l'[i] = x' at *
      refine cK (xT (cS (cd_block (cS (cR (sV (vM rfl) (sV (v_indexAddr (k := i) (congrArg some hv2) rfl sl22 rfl hlt rfl) (sV (v_ldy rfl ld108) ?_))))))))
      refine sV (vA rfl) (sV (vA rfl) (sN (nK [1, 2, 7, 8, 15, 16, 17] rfl (nT (cS (cR (sV (vM rfl) (sV (vM rfl) (sV (v_indexAddr (k := i) (congrArg some hv2') rfl sl22 rfl hlt' rfl) (sV (v_ldy rfl ld108) ?_))))))))))
      refine sV (vA rfl) (sN (nK [1, 2, 8, 9, 15, 16, 17] rfl (nT (cS (cR (sV (vM rfl) (sV (vM rfl) (sV (vM rfl) (st_clr rfl rfl en100 rfl (equal100_ct hX hX' hbx) ?_)))))))))
      refine sV (v_not rfl) (sN (nK [1, 2, 15, 16, 17, 30] rfl (nT (cC rfl (fun he => ?_) (fun he => ?_)))))
      · skip
        refine cS (cR (sV (vA rfl) (sN (nK [6] rfl (nT (cT (xt_ret_block (xR (xR (xt_ret_block (xR ?_)))))))))))
        rw [hno (fun e => by rw [beq_iff_eq.2 e] at he; cases he)]
        exact xt_rt rfl ⟨rfl, rfl⟩ (by (repeat (refine Sub.sel (by repeat (first | exact Sel.here | apply Sel.there)) ?_)); (repeat apply Sub.cons); first | exact Sub.refl _ | exact Sub.nil _)
      · skip
        refine cK (xB (xT (cR (sV (v_add rfl rfl (by unfold I64 at *; omega)) (sV (vM rfl) (sN (nK [1, 2, 15, 16, 17] rfl (nx_xt (xt_aq (i + 1) ⟨hlt, fun j hj => ?_⟩ (by show _ - _ < _ - _; omega))))))))))
        by_cases hji : j = i
        · subst hji; exact hyes (by simpa using he)
        · exact hne j (by omega)
    · skip
      refine cd_exit (xE (xE (xt_exit_block (xT (cS (cR (sV (vA rfl) (sN (nK [6] rfl (nT (cT ?_)))))))))))
      have hil : i = l.length := by have : ¬ i < l.length := by simpa using hd
                                    omega
      rw [decide_eq_true (list_eq hlen fun j hj => hne j (by omega))]
      exact xt_rt rfl ⟨rfl, rfl⟩ (by (repeat (refine Sub.sel (by repeat (first | exact Sel.here | apply Sel.there)) ?_)); (repeat apply Sub.cons); first | exact Sub.refl _ | exact Sub.nil _)
def sameE (y z : Yard) : Bool × Int := if firstE [openedE y [], openedE z []] = 0 then (decide (y = z), 0) else (false, firstE [openedE y [], openedE z []])
set_option maxRecDepth 100000 in
theorem Same_ct {ys zs : List Value} {y z : Yard} (hy : yardR S ys y) (hz : yardR S zs z) (hf : Fit y) (hfz : Fit z) : Reads Tryz.prog 45 #[.agg ys.toArray, .agg zs.toArray] [S] (.tuple #[.bool (sameE y z).1, .int .i64 (sameE y z).2]) := by
  obtain ⟨jv, pv, rfl, hj, hp⟩ := id hy
  obtain ⟨jv', pv', rfl, hj', hp'⟩ := id hz
  unfold sameE
  refine ct_of (n := 32) Tryz.func45 rfl rfl (len rfl) fun hr w0 => ?_
  refine cS (cR (st_bx rfl rfl fun b2 => ?_))
  refine st_bx rfl rfl fun b3 => ?_
  refine sV (vA rfl) (sV (vA rfl) (sN (nK [2, 3, 4, 5] rfl (nT (cS (cS (cd_drawh (ork [(0, 1), (1, 1), (2, 1), (3, 1), (4, 0), (5, 0), (6, 2)] .nil) (fun i => !(Nat.beq i 4 || Nat.beq i 5)) mixed (by kernel_rfl) ?_)))))))
  refine dr_v rfl (v_ldn rfl ld27 rfl rds_pt) ?_
  refine dr_clr rfl rfl rfl en67 rfl (opened_ct (l := []) hy hf Row.nil (by simp)) ?_
  refine dr_v rfl (v_ldn rfl ld27 rfl rds_pt) ?_
  refine dr_clr rfl rfl rfl en67 rfl (opened_ct (l := []) hz hfz Row.nil (by simp)) ?_
  generalize openedE y [] = e1
  generalize openedE z [] = e2
  refine dr_eff rfl (st_buildSlice (cells := [.int .i64 e1, .int .i64 e2]) rfl Tryz.underlying166 inf28 rfl rfl (by kernel_rfl) (ltn rfl) fun b13 => dr_nx ?_)
  refine dr_eff rfl (st_cl rfl rfl en62 rfl (first_ct (S := pt b13 (cl [.int .i64 e1, .int .i64 e2] 28)) (l := [e1, e2]) (row_pt rfl (by simp [iC]) rfl (by decide)) (by simp)) ?_)
  rintro u h' ⟨rfl, rfl⟩
  refine dr_nx ?_
  refine dV rfl (vA rfl) (dr_nil (nK [2, 3, 4, 5, 6] rfl (nT (cS (cR (sV (vM rfl) (sV (v_neq rfl rfl) (sN (nK [2, 3, 4, 5, 6, 16] rfl (nT ?_))))))))))
  generalize firstE [e1, e2] = fe
  refine cC rfl (fun h1 => ?_) (fun h1 => ?_)
  · skip
    rw [if_neg (by simpa using h1)]
    refine cS (cR (sV (vM rfl) (sV (vA rfl) (sV (vA rfl) (sN (nK [4, 5] rfl (nT (cT (xR ?_)))))))))
    exact xt_rt rfl ⟨rfl, rfl⟩ (by (repeat (refine Sub.sel (by repeat (first | exact Sel.here | apply Sel.there)) ?_)); (repeat apply Sub.cons); first | exact Sub.refl _ | exact Sub.nil _)
  · skip
    have h1' : fe = 0 := by simpa using h1
    rw [if_pos h1']
    obtain ⟨yj, yp⟩ := y
    obtain ⟨zj, zp⟩ := z
    simp only at hj hp hj' hp' ⊢
    have hres : decide ((⟨yj, yp⟩ : Yard) = ⟨zj, zp⟩) = (decide (yj = zj) && decide (yp = zp)) := by
      rw [Bool.eq_iff_iff]
      simp only [Yard.mk.injEq, decide_eq_true_eq, Bool.and_eq_true]
    rw [hres]
    refine cK (xT (cS (cR (st_alc al157 fun b7 => ?_))))
    refine st_sto rfl rfl sz157 ?_
    refine sN (nK [2, 3, 4, 5, 7] rfl (nT (cS (cR (sV (v_makeFunc rfl rfl) (sV (vA rfl) (sN (nK [2, 3, 4, 5, 8] rfl (nT (cS (cR (sV (vF rfl fa27_0 rfl) (sV (v_ldy rfl ld22) ?_)))))))))))))
    refine sV (vF rfl fa27_0 rfl) (sV (v_ldy rfl ld22) ?_)
    refine st_clr rfl rfl en99 rfl (eqf99_ct hj hj' hf.1.1 hf.1.2) ?_
    refine sV (vM rfl) (st_cut (k := 13) (d := 31) (v := .bool (decide (yj = zj) && decide (yp = zp))) (fun hcut => bool_want (b := decide (yj = zj)) true (fun hg => ?_) (fun hg => ?_)) ?_)
    · refine st_sk rfl rfl hg ?_
      refine st_sk rfl rfl hg ?_
      refine st_sk rfl rfl hg ?_
      refine st_sk rfl rfl hg ?_
      refine st_sk rfl rfl hg ?_
      refine st_sk rfl rfl hg ?_
      refine sV (vP (bool_ev rfl hg) rfl) ?_
      exact hcut _ (ssub_head (by first | rfl | (rw [hg]; rfl) | simp_all) (uS rfl (uS rfl (uS rfl (uS rfl (uS rfl (uS rfl (ssub_refl))))))))
    · skip
      refine st_vg rfl (bG rfl hg) (vF rfl fa27_1 rfl) (st_vg rfl (bG rfl hg) (v_ldy rfl ld25) ?_)
      refine st_vg rfl (bG rfl hg) (vF rfl fa27_1 rfl) (st_vg rfl (bG rfl hg) (v_ldy rfl ld25) ?_)
      refine st_vg rfl (bG rfl hg) (vM rfl) (st_clrg rfl (bG rfl hg) rfl rfl en101 rfl (eqf101_ct (bf := b7) hp hp' hf.2.1 hf.2.2) ?_)
      refine sV (v_pick_true (bool_ev rfl hg) rfl) ?_
      exact hcut _ (ssub_head (by first | rfl | (rw [hg]; rfl) | simp_all) (uS rfl (uS rfl (uS rfl (uS rfl (uS rfl (uS rfl (ssub_refl))))))))
    refine sV (vA rfl) (sV (vA rfl) (sN (nK [4, 5] rfl (nT (cT ?_)))))
    exact xt_rt rfl ⟨rfl, rfl⟩ (by (repeat (refine Sub.sel (by repeat (first | exact Sel.here | apply Sel.there)) ?_)); (repeat apply Sub.cons); first | exact Sub.refl _ | exact Sub.nil _)
theorem firstE_two (a b : Int) : firstE [a, b] = if a = 0 then b else a := by
  unfold firstE
  by_cases h : a = 0
  · subst h
    by_cases h2 : b = 0
    · subst h2; rfl
    · simp [h2]
  · simp [h]
set_option maxRecDepth 100000 in
theorem rSame_ct {ys zs : List Value} {y z : Yard} (hy : yardR S ys y) (hz : yardR S zs z) (hf : Fit y) (hfz : Fit z) : Reads Tryz.prog 46 #[.agg ys.toArray, .agg zs.toArray] [S] (.agg #[.bool (sameE y z).1, .int .i64 (sameE y z).2]) := by
  obtain ⟨jv, pv, rfl, hj, hp⟩ := id hy
  obtain ⟨jv', pv', rfl, hj', hp'⟩ := id hz
  obtain ⟨_, _, rfl, _⟩ := id hj
  obtain ⟨_, _, rfl, _⟩ := id hp
  obtain ⟨_, _, rfl, _⟩ := id hj'
  obtain ⟨_, _, rfl, _⟩ := id hp'
  have hR1 := rRight_ct hy hf
  have hR2 := rRight_ct hz hfz
  unfold sameE
  rw [openedE_nil, openedE_nil, firstE_two]
  generalize (if y.right = true then (0 : Int) else 2) = e1 at *
  generalize (if z.right = true then (0 : Int) else 2) = e2 at *
  refine ct_of (n := 22) Tryz.func46 rfl rfl (len rfl) fun hr w0 => ?_
  refine cS (cR (st_bx rfl rfl fun b2 => ?_))
  refine st_bx rfl rfl fun b3 => ?_
  refine st_alc al52 fun b4 => ?_
  refine sN (nK [2, 3, 4] rfl (nT (cS (cR (sV (v_ldn rfl ld27 rfl rds_pt) ?_)))))
  refine st_clr rfl rfl en73 rfl (hR1) ?_
  refine sV (vA rfl) (sN (nK [2, 3, 4, 5] rfl (nT (cS (cS (cR (sV (vM rfl) (sV (v_eql rfl rfl) (sN (nK [2, 3, 4, 5, 10] rfl (nT (cC rfl (fun h1 => ?_) (fun h1 => ?_)))))))))))))
  · skip
    have h1' : e1 = 0 := by simpa using h1
    rw [if_pos h1']
    refine cR (sV (v_ldn rfl ld27 rfl rds_pt) ?_)
    refine st_clr rfl rfl en73 rfl (hR2) ?_
    refine sV (vA rfl) (sN (nK [2, 3, 4, 5] rfl (nT (cS (cS (cR (sV (vM rfl) (sV (v_neq rfl rfl) (sN (nK [2, 3, 4, 5, 14] rfl (nT (cC rfl (fun h2 => ?_) (fun h2 => ?_)))))))))))))
    · skip
      have h2' : ¬ e2 = 0 := by simpa using h2
      rw [if_neg h2']
      refine cS (cR (sV (vM rfl) (sV (v_build (cells := [.bool false, .int .i64 e2]) rfl (fun _ => by kernel_rfl)) ?_)))
      refine st_stoW rfl rfl sz52 rfl rfl ?_
      refine sN (nK [4] rfl (nT (cT (xR ?_))))
      exact xt_retV (.cellN rfl ld52 rfl (by repeat (first | exact Sel.here | apply Sel.there)) .nil) ⟨rfl, rfl⟩ (by repeat (first | exact Sub.refl _ | exact Sub.nil _ | refine Sub.sel (by repeat (first | exact Sel.here | apply Sel.there)) ?_ | apply Sub.cons))
    · skip
      have h2' : e2 = 0 := by simpa using h2
      rw [if_pos h2']
      refine cK (xT (cS (cR (sV (v_ldn rfl ld27 rfl rds_pt) ?_))))
      refine sV (v_ldn rfl ld27 rfl rds_pt) ?_
      refine st_clr rfl rfl en16 rfl (sameYards_ct hy hz hf) ?_
      generalize decide (y = z) = q
      refine sV (vA rfl) (sN (nK [4, 6] rfl (nT (cS (cR (sV (vM rfl) (sV (v_build (cells := [.bool q, .int .i64 0]) rfl (fun _ => by kernel_rfl)) ?_)))))))
      refine st_stoW rfl rfl sz52 rfl rfl ?_
      refine sN (nK [4] rfl (nT (cT ?_)))
      exact xt_retV (.cellN rfl ld52 rfl (by repeat (first | exact Sel.here | apply Sel.there)) .nil) ⟨rfl, rfl⟩ (by repeat (first | exact Sub.refl _ | exact Sub.nil _ | refine Sub.sel (by repeat (first | exact Sel.here | apply Sel.there)) ?_ | apply Sub.cons))
  · skip
    have h1' : ¬ e1 = 0 := by simpa using h1
    rw [if_neg h1', if_neg h1']
    refine cK (xT (cS (cS (cR (sV (vM rfl) (sV (v_neq rfl rfl) (sN (nK [2, 3, 4, 5, 14] rfl (nT (cC rfl (fun h2 => ?_) (fun h2 => ?_)))))))))))
    · skip
      refine cS (cR (sV (vM rfl) (sV (v_build (cells := [.bool false, .int .i64 e1]) rfl (fun _ => by kernel_rfl)) ?_)))
      refine st_stoW rfl rfl sz52 rfl rfl ?_
      refine sN (nK [4] rfl (nT (cT (xR ?_))))
      exact xt_retV (.cellN rfl ld52 rfl (by repeat (first | exact Sel.here | apply Sel.there)) .nil) ⟨rfl, rfl⟩ (by repeat (first | exact Sub.refl _ | exact Sub.nil _ | refine Sub.sel (by repeat (first | exact Sel.here | apply Sel.there)) ?_ | apply Sub.cons))
    · skip
      exact absurd h2 (by simpa using h1')
end
end Go.Wt
