/-
  The reference: sameLines, sameProc, SameYards. Conditions: what is read, that lists are not too long.
  The reference: SameYards. Conditions: what is read, that lists are not too long.
  The law's examples, as plain data. No condition.
  The law's examples. No condition.
  The law's examples hold. No condition.
  The plain laws: runs of a script, by picks and by orders. No condition.
  What the arguments of the laws read as. No condition.
  The laws: few, grown, lasting. Conditions: what is read, that lists are not too long.
  The laws: grown. Conditions: what is read, that lists are not too long.
  The laws: played. Conditions: what is read, that lists are not too long.
  The laws: played. Conditions: what is read, that lists are not too long.
  The plain laws, as the walks of the laws use them. No condition.
-/
import Derived.Test.YtboepbencndobaaGreatM10
import Derived.Test.YtboepbencndobaaGreatM8
import Derived.Test.YtboepbencndobaaGreatM5
import Derived.Test.YtboepbencndobaaGreatM2
import Derived.Test.YtboepbencndobaaGreatM6
import Derived.JoinedCond
set_option linter.unusedVariables false
set_option linter.unusedSimpArgs false
namespace Go.Wt
open Go Go.Ck Go.Proofs Go.Proofs.YtboepbencndobaaGreat Fx
attribute [local irreducible] St Cd Xt Nx DrL LsW
theorem list_eq {α : Type} {l m : List α} (h : l.length = m.length) (hh : ∀ j, j < l.length → l[j]? = m[j]?) : l = m := by
  apply List.ext_getElem?
  intro j
  by_cases hj : j < l.length
  · exact hh j hj
  · rw [List.getElem?_eq_none (by omega), List.getElem?_eq_none (by omega)]
section
variable {S : Res} {v v' : Value}
set_option maxHeartbeats 1000000 in
set_option maxRecDepth 100000 in
theorem sameLines_ct {l l' : List Line} (hv : Row S 5 (lineR S) v l) (hv' : Row S 5 (lineR S) v' l') (hl : l.length ≤ 1000000) (hla : ∀ x ∈ l, x.asks.length ≤ 1000000) : Reads Tryz.prog 103 #[v, v'] [S] (.bool (decide (l = l'))) := by
  obtain ⟨a, cap, hv1, _⟩ := id hv
  obtain ⟨a', cap', hv1', _⟩ := id hv'
  refine ct_of (n := 97) Tryz.func103 rfl rfl (len rfl) fun hr w0 => ?_
  refine cS (cR (sV (vA rfl) (sN (nT (cS (cS (cR (sV (vM rfl) (sV (v_len (congrArg some hv1) Tryz.underlying73) (sV (vM rfl) (sV (v_len (congrArg some hv1') Tryz.underlying73) (sV (v_neq rfl rfl) (sN (nK [0, 1, 4, 11] rfl (nT (cC rfl (fun h0 => ?_) (fun h0 => ?_)))))))))))))))))
  · skip
    refine cS (cR (sV (vA rfl) (sN (nK [0, 1, 4] rfl (nT (cT (xR ?_)))))))
    rw [decide_eq_false (fun e => by simp [e] at h0)]
    exact xt_rt rfl ⟨rfl, rfl⟩
  · skip
    refine cK (xT (cS (cS (cR (sV (vA rfl) (sN (nK [0, 1, 4, 5] rfl (nT (cd_block ?_)))))))))
    have hlen : l.length = l'.length := Int.ofNat.inj (show (l.length : Int) = (l'.length : Int) by simpa using h0)
    refine cd_lp (σ := Nat) (fun i => [(0, v), (1, v'), (5, .int .i64 (i : Nat))]) (fun _ => S :: hr) (fun i => i ≤ l.length ∧ ∀ (j : Nat), j < i → l[j]? = l'[j]?) (fun i => l.length - i) 0 ⟨Nat.zero_le _, fun j hj => by omega⟩ ?_
    rintro i ⟨hi, hne⟩
    refine cS (cS (cR (sV (vM rfl) (sV (vM rfl) (sV (v_len (congrArg some hv1) Tryz.underlying73) (sV (v_lss rfl rfl) (sN (nK [0, 1, 5, 15] rfl (nT (cC rfl (fun hd => ?_) (fun hd => ?_)))))))))))
    · skip
      have hlt : i < l.length := by simpa using hd
      have hlt' : i < l'.length := by omega
      obtain ⟨b, o, cp2, us, hv2, hus, hrd, av, rfl, hA⟩ := hv.at (List.getElem?_eq_getElem hlt)
      obtain ⟨b', o', cp2', us', hv2', hus', hrd', av', rfl, hA'⟩ := hv'.at (List.getElem?_eq_getElem hlt')
      obtain ⟨aa, ac, rfl, _⟩ := id hA
      obtain ⟨aa', ac', rfl, _⟩ := id hA'
      have hasl := hla _ (List.getElem_mem hlt)
      have hno : l[i] ≠ l'[i] → decide (l = l') = false := fun h => decide_eq_false fun e => h (by simp only [e])
      have hyes : l[i] = l'[i] → l[i]? = l'[i]? := fun h => by rw [List.getElem?_eq_getElem hlt, List.getElem?_eq_getElem hlt', h]
      generalize l[i] = x at *
      generalize l'[i] = x' at *
      obtain ⟨xk, xa, xc, xb⟩ := x
      obtain ⟨yk, ya, yc, yb⟩ := x'
      simp only at hasl hA hA'
      refine cK (xT (cS (cd_block (cS (cS (cd_drawh (ork [(0, 2), (1, 2), (2, 2), (3, 2), (4, 1), (5, 2), (6, 2), (7, 2), (8, 2), (9, 1), (10, 1), (11, 2), (12, 2), (13, 2), (14, 2), (15, 2), (16, 1), (17, 2), (18, 2), (19, 2), (20, 2), (21, 1), (22, 1), (23, 2), (24, 2), (25, 2), (26, 2), (27, 2), (28, 2), (29, 1), (30, 2), (31, 2), (32, 2), (33, 2), (34, 1), (35, 1), (36, 2), (37, 2), (38, 2), (39, 2), (40, 2), (41, 2), (42, 1), (43, 2), (44, 2), (45, 2), (46, 2), (47, 2), (48, 1), (49, 2), (50, 2), (51, 2)] .nil) (fun _ => true) mixed (by kernel_rfl) ?_))))))
      refine dV rfl (vM rfl) (dV rfl (vM rfl) (dV rfl (v_indexAddr (k := i) (congrArg some hv2) rfl sl73 rfl hlt rfl) (dV rfl (vF rfl fa120_0 rfl) (dr_v rfl (v_ldn (vs := kC xk) rfl ld79 rfl (rds_sub hrd rfl)) ?_))))
      refine dV rfl (vM rfl) (dV rfl (vM rfl) (dV rfl (v_indexAddr (k := i) (congrArg some hv2') rfl sl73 rfl hlt' rfl) (dV rfl (vF rfl fa120_0 rfl) (dr_v rfl (v_ldn (vs := kC yk) rfl ld79 rfl (rds_sub hrd' rfl)) ?_))))
      refine dr_v rfl (v_neq_T eq79 rfl rfl) (dV rfl (vM rfl) (dr_cut (k := 12) (d := 41) (v := .bool (!(xk == yk) || (xc != yc))) (fun hcut => bool_want (b := (!(xk == yk))) false (fun hg => ?_) (fun hg => ?_)) ?_))
      · refine dp_sk rfl rfl rfl hg ?_
        refine dp_sk rfl rfl rfl hg ?_
        refine dp_sk rfl rfl rfl hg ?_
        refine dp_sk rfl rfl rfl hg ?_
        refine dr_sk rfl rfl rfl hg ?_
        refine dp_sk rfl rfl rfl hg ?_
        refine dp_sk rfl rfl rfl hg ?_
        refine dp_sk rfl rfl rfl hg ?_
        refine dp_sk rfl rfl rfl hg ?_
        refine dr_sk rfl rfl rfl hg ?_
        refine dr_sk rfl rfl rfl hg ?_
        refine dV rfl (v_pick_true (bool_ev rfl hg) rfl) ?_
        exact hcut _ (ssub_head (by first | rfl | (rw [hg]; rfl) | simp_all) (uS rfl (uS rfl (uS rfl (uS rfl (uS rfl (uS rfl (uS rfl (uS rfl (uS rfl (uS rfl (uS rfl (ssub_refl)))))))))))))
      · skip
        refine dp_vg rfl rfl (bG rfl hg) (vM rfl) (dp_vg rfl rfl (bG rfl hg) (vM rfl) (dp_vg rfl rfl (bG rfl hg) (v_indexAddr (k := i) (congrArg some hv2) rfl sl73 rfl hlt rfl) (dp_vg rfl rfl (bG rfl hg) (vF rfl fa120_2 rfl) (dr_vg rfl rfl (bG rfl hg) (v_ldy rfl ld4) ?_))))
        refine dp_vg rfl rfl (bG rfl hg) (vM rfl) (dp_vg rfl rfl (bG rfl hg) (vM rfl) (dp_vg rfl rfl (bG rfl hg) (v_indexAddr (k := i) (congrArg some hv2') rfl sl73 rfl hlt' rfl) (dp_vg rfl rfl (bG rfl hg) (vF rfl fa120_2 rfl) (dr_vg rfl rfl (bG rfl hg) (v_ldy rfl ld4) ?_))))
        refine dr_vg rfl rfl (bG rfl hg) (v_neq_bool Tryz.underlying4 rfl rfl) (dV rfl (vP (bool_ev rfl hg) rfl) ?_)
        exact hcut _ (ssub_head (by first | rfl | (rw [hg]; rfl) | simp_all) (uS rfl (uS rfl (uS rfl (uS rfl (uS rfl (uS rfl (uS rfl (uS rfl (uS rfl (uS rfl (uS rfl (ssub_refl)))))))))))))
      refine dV rfl (vM rfl) (dr_cut (k := 12) (d := 54) (v := .bool (!(xk == yk) || (xc != yc) || (xb != yb))) (fun hcut => bool_want (b := (!(xk == yk) || (xc != yc))) false (fun hg => ?_) (fun hg => ?_)) ?_)
      · refine dp_sk rfl rfl rfl hg ?_
        refine dp_sk rfl rfl rfl hg ?_
        refine dp_sk rfl rfl rfl hg ?_
        refine dp_sk rfl rfl rfl hg ?_
        refine dr_sk rfl rfl rfl hg ?_
        refine dp_sk rfl rfl rfl hg ?_
        refine dp_sk rfl rfl rfl hg ?_
        refine dp_sk rfl rfl rfl hg ?_
        refine dp_sk rfl rfl rfl hg ?_
        refine dr_sk rfl rfl rfl hg ?_
        refine dr_sk rfl rfl rfl hg ?_
        refine dV rfl (v_pick_true (bool_ev rfl hg) rfl) ?_
        exact hcut _ (ssub_head (by first | rfl | (rw [hg]; rfl) | simp_all) (uS rfl (uS rfl (uS rfl (uS rfl (uS rfl (uS rfl (uS rfl (uS rfl (uS rfl (uS rfl (uS rfl (ssub_refl)))))))))))))
      · skip
        refine dp_vg rfl rfl (bG rfl hg) (vM rfl) (dp_vg rfl rfl (bG rfl hg) (vM rfl) (dp_vg rfl rfl (bG rfl hg) (v_indexAddr (k := i) (congrArg some hv2) rfl sl73 rfl hlt rfl) (dp_vg rfl rfl (bG rfl hg) (vF rfl fa120_3 rfl) (dr_vg rfl rfl (bG rfl hg) (v_ldy rfl ld4) ?_))))
        refine dp_vg rfl rfl (bG rfl hg) (vM rfl) (dp_vg rfl rfl (bG rfl hg) (vM rfl) (dp_vg rfl rfl (bG rfl hg) (v_indexAddr (k := i) (congrArg some hv2') rfl sl73 rfl hlt' rfl) (dp_vg rfl rfl (bG rfl hg) (vF rfl fa120_3 rfl) (dr_vg rfl rfl (bG rfl hg) (v_ldy rfl ld4) ?_))))
        refine dr_vg rfl rfl (bG rfl hg) (v_neq_bool Tryz.underlying4 rfl rfl) (dV rfl (vP (bool_ev rfl hg) rfl) ?_)
        exact hcut _ (ssub_head (by first | rfl | (rw [hg]; rfl) | simp_all) (uS rfl (uS rfl (uS rfl (uS rfl (uS rfl (uS rfl (uS rfl (uS rfl (uS rfl (uS rfl (uS rfl (ssub_refl)))))))))))))
      refine dV rfl (vM rfl) (dr_cut (k := 14) (d := 69) (v := .bool (!(xk == yk) || (xc != yc) || (xb != yb) || ((xa.length : Int) != (ya.length : Int)))) (fun hcut => bool_want (b := (!(xk == yk) || (xc != yc) || (xb != yb))) false (fun hg => ?_) (fun hg => ?_)) ?_)
      · refine dp_sk rfl rfl rfl hg ?_
        refine dp_sk rfl rfl rfl hg ?_
        refine dp_sk rfl rfl rfl hg ?_
        refine dp_sk rfl rfl rfl hg ?_
        refine dr_sk rfl rfl rfl hg ?_
        refine dp_sk rfl rfl rfl hg ?_
        refine dp_sk rfl rfl rfl hg ?_
        refine dp_sk rfl rfl rfl hg ?_
        refine dp_sk rfl rfl rfl hg ?_
        refine dp_sk rfl rfl rfl hg ?_
        refine dr_sk rfl rfl rfl hg ?_
        refine dp_sk rfl rfl rfl hg ?_
        refine dp_sk rfl rfl rfl hg ?_
        refine dV rfl (v_pick_true (bool_ev rfl hg) rfl) ?_
        exact hcut _ (ssub_head (by first | rfl | (rw [hg]; rfl) | simp_all) (uS rfl (uS rfl (uS rfl (uS rfl (uS rfl (uS rfl (uS rfl (uS rfl (uS rfl (uS rfl (uS rfl (uS rfl (uS rfl (ssub_refl)))))))))))))))
      · skip
        refine dp_vg rfl rfl (bG rfl hg) (vM rfl) (dp_vg rfl rfl (bG rfl hg) (vM rfl) (dp_vg rfl rfl (bG rfl hg) (v_indexAddr (k := i) (congrArg some hv2) rfl sl73 rfl hlt rfl) (dp_vg rfl rfl (bG rfl hg) (vF rfl fa120_1 rfl) (dr_vg rfl rfl (bG rfl hg) (v_ldy rfl ld118) ?_))))
        refine dp_vg rfl rfl (bG rfl hg) (v_len rfl Tryz.underlying118) (dp_vg rfl rfl (bG rfl hg) (vM rfl) (dp_vg rfl rfl (bG rfl hg) (vM rfl) (dp_vg rfl rfl (bG rfl hg) (v_indexAddr (k := i) (congrArg some hv2') rfl sl73 rfl hlt' rfl) (dp_vg rfl rfl (bG rfl hg) (vF rfl fa120_1 rfl) (dr_vg rfl rfl (bG rfl hg) (v_ldy rfl ld118) ?_)))))
        refine dp_vg rfl rfl (bG rfl hg) (v_len rfl Tryz.underlying118) (dp_vg rfl rfl (bG rfl hg) (v_neq rfl rfl) (dV rfl (vP (bool_ev rfl hg) rfl) ?_))
        exact hcut _ (ssub_head (by first | rfl | (rw [hg]; rfl) | simp_all) (uS rfl (uS rfl (uS rfl (uS rfl (uS rfl (uS rfl (uS rfl (uS rfl (uS rfl (uS rfl (uS rfl (uS rfl (uS rfl (ssub_refl)))))))))))))))
      refine dr_nil (nK [0, 1, 5, 69] rfl (nT (cC rfl (fun hq => ?_) (fun hq => ?_))))
      · skip
        refine cS (cR (sV (vA rfl) (sN (nK [0, 1, 4, 5] rfl (nT (cT (xR (xt_ret_block (xR (xR (xt_ret_block (xR ?_))))))))))))
        rw [hno (fun e => by
          simp only [Line.mk.injEq] at e
          obtain ⟨rfl, rfl, rfl, rfl⟩ := e
          simp at hq)]
        exact xt_rt rfl ⟨rfl, rfl⟩
      · skip
        simp only [Bool.or_eq_false_iff, Bool.not_eq_false', beq_iff_eq, bne_eq_false_iff_eq] at hq
        obtain ⟨⟨⟨rfl, rfl⟩, rfl⟩, hal⟩ := hq
        have hal2 : xa.length = ya.length := by omega
        refine cK (xT (cS (cR (sV (vA rfl) (sN (nK [0, 1, 5, 6] rfl (nT (cd_block (cd_lp (σ := Nat) (fun k => [(0, v), (1, v'), (5, .int .i64 (i : Nat)), (6, .int .i64 (k : Nat))]) (fun _ => S :: hr) (fun k => k ≤ xa.length ∧ ∀ (j : Nat), j < k → xa[j]? = ya[j]?) (fun k => xa.length - k) 0 ⟨Nat.zero_le _, fun j hj => by omega⟩ ?_)))))))))
        rintro k ⟨hk, hke⟩
        refine cS (cS (cR (sV (vM rfl) (sV (vM rfl) (sV (vM rfl) (sV (v_indexAddr (k := i) (congrArg some hv2) rfl sl73 rfl hlt rfl) (sV (vF rfl fa120_1 rfl) (sV (v_ldy rfl ld118) ?_))))))))
        refine sV (v_len rfl Tryz.underlying118) (sV (v_lss rfl rfl) (sN (nK [0, 1, 5, 6, 77] rfl (nT (cC rfl (fun hd2 => ?_) (fun hd2 => ?_))))))
        · skip
          have hkt : k < xa.length := by simpa using hd2
          obtain ⟨c1, c2, c3, cus, hcv, hcus, hcrd, rfl⟩ := hA.at (List.getElem?_eq_getElem hkt)
          obtain ⟨c1', c2', c3', cus', hcv', hcus', hcrd', rfl⟩ := hA'.at (List.getElem?_eq_getElem (show k < ya.length by omega))
          refine cK (xT (cS (cd_block (cS (cd_drawh (ork [(0, 2), (1, 2), (2, 2), (3, 2), (4, 1), (5, 2), (6, 2), (7, 1), (8, 2), (9, 2), (10, 2), (11, 2), (12, 1), (13, 2), (14, 2), (15, 1), (16, 1)] .nil) (fun _ => true) mixed (by kernel_rfl) ?_)))))
          refine dV rfl (vM rfl) (dV rfl (vM rfl) (dV rfl (v_indexAddr (k := i) (congrArg some hv2) rfl sl73 rfl hlt rfl) (dV rfl (vF rfl fa120_1 rfl) (dr_v rfl (v_ldy rfl ld118) ?_))))
          refine dV rfl (vM rfl) (dV rfl (v_indexAddr (k := k) (congrArg some hcv) rfl sl118 rfl hkt rfl) (dr_v rfl (v_ldn rfl ld117 hcus hcrd) ?_))
          refine dV rfl (vM rfl) (dV rfl (vM rfl) (dV rfl (v_indexAddr (k := i) (congrArg some hv2') rfl sl73 rfl hlt' rfl) (dV rfl (vF rfl fa120_1 rfl) (dr_v rfl (v_ldy rfl ld118) ?_))))
          refine dV rfl (vM rfl) (dV rfl (v_indexAddr (k := k) (congrArg some hcv') rfl sl118 rfl (by omega) rfl) (dr_v rfl (v_ldn rfl ld117 hcus' hcrd') ?_))
          refine dr_v rfl (v_neq_T eq117 rfl rfl) (dr_nil (nK [0, 1, 5, 6, 96] rfl (nT (cC rfl (fun he => ?_) (fun he => ?_)))))
          · skip
            refine cS (cR (sV (vA rfl) (sN (nK [0, 1, 4, 5, 6] rfl (nT (cT (xt_ret_block (xR (xR (xt_ret_block (xt_ret_block (xR (xR (xt_ret_block (xR ?_)))))))))))))))
            rw [hno (fun e => by
              simp only [Line.mk.injEq] at e
              obtain ⟨_, rfl, _⟩ := e
              simp at he)]
            exact xt_rt rfl ⟨rfl, rfl⟩
          · skip
            refine cK (xB (xT (cR (sV (vM rfl) (sV (v_add rfl rfl (by unfold I64 at *; omega)) (sV (vA rfl) (sN (nK [0, 1, 5, 6] rfl (nx_xt (xt_ag (k + 1) ⟨hkt, fun j hj => ?_⟩ (by show _ - _ < _ - _; omega)))))))))))
            by_cases hjk : j = k
            · subst hjk
              rw [List.getElem?_eq_getElem hkt, List.getElem?_eq_getElem (show j < ya.length by omega)]
              simp only [Bool.not_eq_false', beq_iff_eq] at he
              rw [he]
            · exact hke j (by omega)
        · skip
          have hkl : k = xa.length := by have : ¬ k < xa.length := by simpa using hd2
                                         omega
          have hxy : xa = ya := list_eq hal2 fun j hj => hke j (by omega)
          refine cd_exit (xE (xE (xt_exit_block (xB (xT (cR (sV (vM rfl) (sV (v_add rfl rfl (by unfold I64 at *; omega)) (sV (vA rfl) (sN (nK [0, 1, 5] rfl (nx_xt (xt_ag (i + 1) ⟨hlt, fun j hj => ?_⟩ (by show _ - _ < _ - _; omega))))))))))))))
          by_cases hji : j = i
          · subst hji; exact hyes (by rw [hxy])
          · exact hne j (by omega)
    · skip
      refine cd_exit (xE (xE (xt_exit_block (xT (cS (cR (sV (vA rfl) (sN (nK [4] rfl (nT (cT ?_)))))))))))
      have hil : i = l.length := by have : ¬ i < l.length := by simpa using hd
                                    omega
      rw [decide_eq_true (list_eq hlen fun j hj => hne j (by omega))]
      exact xt_rt rfl ⟨rfl, rfl⟩
set_option maxHeartbeats 1000000 in
set_option maxRecDepth 100000 in
theorem sameProc_ct {us us' : List Value} {p p' : Proc} (hp : procR S us p) (hp' : procR S us' p') (hf : FitP p) : Reads Tryz.prog 55 #[.agg us.toArray, .agg us'.toArray] [S] (.bool (decide (p = p'))) := by
  obtain ⟨lv, pv, hv, dv, rfl, hL, hP, hH, hD⟩ := hp
  obtain ⟨lv', pv', hv', dv', rfl, hL', hP', hH', hD'⟩ := hp'
  obtain ⟨f1, f2, f3, f4, f5⟩ := hf
  obtain ⟨al, cl1, rfl, _⟩ := id hL
  obtain ⟨ap, cp1, rfl, _⟩ := id hP
  obtain ⟨ah, ch1, rfl, _⟩ := id hH
  obtain ⟨ad, cd1, rfl, _⟩ := id hD
  obtain ⟨al', cl2, rfl, _⟩ := id hL'
  obtain ⟨ap', cp2, rfl, _⟩ := id hP'
  obtain ⟨ah', ch2, rfl, _⟩ := id hH'
  obtain ⟨ad', cd2, rfl, _⟩ := id hD'
  obtain ⟨p1, p2, p3, p4, p5, p6, p7, p8, p9⟩ := p
  obtain ⟨q1, q2, q3, q4, q5, q6, q7, q8, q9⟩ := p'
  simp only at *
  refine ct_of (n := 94) Tryz.func55 rfl rfl (len rfl) fun hr w0 => ?_
  refine cS (cR (st_bx rfl rfl fun b2 => ?_))
  refine st_bx rfl rfl fun b3 => ?_
  refine sV (vA rfl) (sN (nK [2, 3, 4] rfl (nT (cS (cR (sV (vF rfl fa77_0 rfl) (sV (v_ldy rfl ld73) ?_)))))))
  refine sV (vF rfl fa77_0 rfl) (sV (v_ldy rfl ld73) ?_)
  refine st_clr rfl rfl en103 rfl (sameLines_ct hL hL' f1 f5) ?_
  refine sV (vA rfl) (sN (nK [2, 3, 4, 5] rfl (nT (cS (cR (sV (vF rfl fa77_1 rfl) (sV (v_ldy rfl ld74) ?_)))))))
  refine sV (vF rfl fa77_1 rfl) (sV (v_ldy rfl ld74) ?_)
  refine st_clr rfl rfl en42 rfl (same42_ct hP hP' f2) ?_
  refine sV (vA rfl) (sN (nK [2, 3, 4, 5, 6] rfl (nT (cS (cR (sV (vF rfl fa77_8 rfl) (sV (v_ldy rfl ld62) ?_)))))))
  refine sV (vF rfl fa77_8 rfl) (sV (v_ldy rfl ld62) ?_)
  refine st_clr rfl rfl en29 rfl (same29_ct hD hD' f4) ?_
  refine sV (vA rfl) (sN (nK [2, 3, 4, 5, 6, 7] rfl (nT (cS (cS (cR (sV (vM rfl) (sV (v_not rfl) (sV (vM rfl) (st_cut (k := 6) (d := 29) (v := .bool (!decide (p1 = q1) || !(p2 == q2))) (fun hcut => bool_want (b := (!decide (p1 = q1))) false (fun hg => ?_) (fun hg => ?_)) ?_))))))))))
  · refine st_sk rfl rfl hg ?_
    refine st_sk rfl rfl hg ?_
    refine sV (v_pick_true (bool_ev rfl hg) rfl) ?_
    exact hcut _ (ssub_head (by first | rfl | (rw [hg]; rfl) | simp_all) (uS rfl (uS rfl (ssub_refl))))
  · skip
    refine st_vg rfl (bG rfl hg) (vM rfl) (st_vg rfl (bG rfl hg) (v_not rfl) (sV (vP (bool_ev rfl hg) rfl) ?_))
    exact hcut _ (ssub_head (by first | rfl | (rw [hg]; rfl) | simp_all) (uS rfl (uS rfl (ssub_refl))))
  refine sV (vM rfl) (st_cut (k := 10) (d := 33) (v := .bool (!decide (p1 = q1) || !(p2 == q2) || !(p9 == q9))) (fun hcut => bool_want (b := (!decide (p1 = q1) || !(p2 == q2))) false (fun hg => ?_) (fun hg => ?_)) ?_)
  · refine st_sk rfl rfl hg ?_
    refine st_sk rfl rfl hg ?_
    refine sV (v_pick_true (bool_ev rfl hg) rfl) ?_
    exact hcut _ (ssub_head (by first | rfl | (rw [hg]; rfl) | simp_all) (uS rfl (uS rfl (ssub_refl))))
  · skip
    refine st_vg rfl (bG rfl hg) (vM rfl) (st_vg rfl (bG rfl hg) (v_not rfl) (sV (vP (bool_ev rfl hg) rfl) ?_))
    exact hcut _ (ssub_head (by first | rfl | (rw [hg]; rfl) | simp_all) (uS rfl (uS rfl (ssub_refl))))
  refine sV (vM rfl) (st_cut (k := 19) (d := 42) (v := .bool (!decide (p1 = q1) || !(p2 == q2) || !(p9 == q9) || ((p6.length : Int) != (q6.length : Int)))) (fun hcut => bool_want (b := (!decide (p1 = q1) || !(p2 == q2) || !(p9 == q9))) false (fun hg => ?_) (fun hg => ?_)) ?_)
  · refine st_sk rfl rfl hg ?_
    refine st_sk rfl rfl hg ?_
    refine st_sk rfl rfl hg ?_
    refine st_sk rfl rfl hg ?_
    refine st_sk rfl rfl hg ?_
    refine st_sk rfl rfl hg ?_
    refine st_sk rfl rfl hg ?_
    refine sV (v_pick_true (bool_ev rfl hg) rfl) ?_
    exact hcut _ (ssub_head (by first | rfl | (rw [hg]; rfl) | simp_all) (uS rfl (uS rfl (uS rfl (uS rfl (uS rfl (uS rfl (uS rfl (ssub_refl)))))))))
  · skip
    refine st_vg rfl (bG rfl hg) (vF rfl fa77_5 rfl) (st_vg rfl (bG rfl hg) (v_ldy rfl ld75) ?_)
    refine st_vg rfl (bG rfl hg) (v_len rfl Tryz.underlying75) (st_vg rfl (bG rfl hg) (vF rfl fa77_5 rfl) (st_vg rfl (bG rfl hg) (v_ldy rfl ld75) ?_))
    refine st_vg rfl (bG rfl hg) (v_len rfl Tryz.underlying75) (st_vg rfl (bG rfl hg) (v_neq rfl rfl) (sV (vP (bool_ev rfl hg) rfl) ?_))
    exact hcut _ (ssub_head (by first | rfl | (rw [hg]; rfl) | simp_all) (uS rfl (uS rfl (uS rfl (uS rfl (uS rfl (uS rfl (uS rfl (ssub_refl)))))))))
  refine sN (nK [2, 3, 4, 42] rfl (nT (cC rfl (fun h0 => ?_) (fun h0 => ?_))))
  · skip
    refine cS (cR (sV (vA rfl) (sN (nK [2, 3, 4] rfl (nT (cT (xR ?_)))))))
    rw [decide_eq_false (fun e => by
      simp only [Proc.mk.injEq] at e
      obtain ⟨rfl, rfl, rfl, rfl, rfl, rfl, rfl, rfl, rfl⟩ := e
      simp at h0)]
    exact xt_rt rfl ⟨rfl, rfl⟩
  · skip
    simp only [Bool.or_eq_false_iff, Bool.not_eq_false', beq_iff_eq, bne_eq_false_iff_eq, decide_eq_true_eq] at h0
    obtain ⟨⟨⟨rfl, rfl⟩, rfl⟩, hl6⟩ := h0
    have hlen : p6.length = q6.length := by omega
    refine cK (xT (cS (cS (cR (sV (vA rfl) (sN (nK [2, 3, 4, 8] rfl (nT (cd_block (cd_lp (σ := Nat) (fun i => [(2, .pointer (some ⟨b2, 0, none⟩)), (3, .pointer (some ⟨b3, 0, none⟩)), (8, .int .i64 (i : Nat))]) (fun _ => pt b2 (cl (pC (.slice al p1.length cl1) (.slice ap p2.length cp1) (.slice ah p6.length ch1) (.slice ad p9.length cd1) ⟨p1, p2, p3, p4, p5, p6, p7, p8, p9⟩) 77) :: pt b3 (cl (pC (.slice al' p1.length cl2) (.slice ap' p2.length cp2) (.slice ah' q6.length ch2) (.slice ad' p9.length cd2) ⟨p1, p2, q3, q4, q5, q6, q7, q8, p9⟩) 77) :: S :: hr) (fun i => i ≤ p6.length ∧ ∀ (j : Nat), j < i → p6[j]? = q6[j]?) (fun i => p6.length - i) 0 ⟨Nat.zero_le _, fun j hj => by omega⟩ ?_))))))))))
    rintro i ⟨hi, hne⟩
    refine cS (cS (cR (sV (vM rfl) (sV (vF rfl fa77_5 rfl) (sV (v_ldy rfl ld75) ?_)))))
    refine sV (v_len rfl Tryz.underlying75) (sV (v_lss rfl rfl) (sN (nK [2, 3, 8, 47] rfl (nT (cC rfl (fun hd => ?_) (fun hd => ?_))))))
    · skip
      have hlt : i < p6.length := by simpa using hd
      obtain ⟨c1, c2, c3, cus, hcv, hcus, hcrd, rfl⟩ := hH.at (List.getElem?_eq_getElem hlt)
      obtain ⟨c1', c2', c3', cus', hcv', hcus', hcrd', rfl⟩ := hH'.at (List.getElem?_eq_getElem (show i < q6.length by omega))
      refine cK (xT (cS (cd_block (cS (cd_drawh (ork [(0, 2), (1, 1), (2, 2), (3, 2), (4, 1), (5, 2), (6, 1), (7, 2), (8, 2), (9, 1), (10, 1)] .nil) (fun _ => true) mixed (by kernel_rfl) ?_)))))
      refine dV rfl (vF rfl fa77_5 rfl) (dr_v rfl (v_ldy rfl ld75) ?_)
      refine dV rfl (vM rfl) (dV rfl (v_indexAddr (k := i) (congrArg some hcv) rfl sl75 rfl hlt rfl) (dr_v rfl (v_ldn rfl ld161 hcus hcrd) ?_))
      refine dV rfl (vF rfl fa77_5 rfl) (dr_v rfl (v_ldy rfl ld75) ?_)
      refine dV rfl (vM rfl) (dV rfl (v_indexAddr (k := i) (congrArg some hcv') rfl sl75 rfl (by omega) rfl) (dr_v rfl (v_ldn rfl ld161 hcus' hcrd') ?_))
      refine dr_v rfl (v_neq_T eq161 rfl rfl) (dr_nil (nK [2, 3, 8, 60] rfl (nT (cC rfl (fun he => ?_) (fun he => ?_)))))
      · skip
        refine cS (cR (sV (vA rfl) (sN (nK [2, 3, 4, 8] rfl (nT (cT (xt_ret_block (xR (xR (xt_ret_block (xR ?_)))))))))))
        rw [decide_eq_false (fun e => by
          simp only [Proc.mk.injEq] at e
          obtain ⟨_, _, _, _, _, rfl, _⟩ := e
          simp at he)]
        exact xt_rt rfl ⟨rfl, rfl⟩
      · skip
        refine cK (xB (xT (cR (sV (vM rfl) (sV (v_add rfl rfl (by unfold I64 at *; omega)) (sV (vA rfl) (sN (nK [2, 3, 8] rfl (nx_xt (xt_ag (i + 1) ⟨hlt, fun j hj => ?_⟩ (by show _ - _ < _ - _; omega)))))))))))
        by_cases hji : j = i
        · subst hji
          rw [List.getElem?_eq_getElem hlt, List.getElem?_eq_getElem (show j < q6.length by omega)]
          simp only [Bool.not_eq_false', beq_iff_eq] at he
          rw [he]
        · exact hne j (by omega)
    · skip
      have hil : i = p6.length := by have : ¬ i < p6.length := by simpa using hd
                                     omega
      have h66 : p6 = q6 := list_eq hlen fun j hj => hne j (by omega)
      subst h66
      have hres : decide ((⟨p1, p2, p3, p4, p5, p6, p7, p8, p9⟩ : Proc) = ⟨p1, p2, q3, q4, q5, p6, q7, q8, p9⟩) = ((p3 == q3) && (p4 == q4) && (p5 == q5) && (p7 == q7) && (p8 == q8)) := by
        rw [Bool.eq_iff_iff]
        simp [and_assoc]
      rw [hres]
      refine cd_exit (xE (xE (xt_exit_block (xT (cS (cR (sV (vF rfl fa77_2 rfl) (sV (v_ldy rfl ld3) ?_))))))))
      refine sV (vF rfl fa77_2 rfl) (sV (v_ldy rfl ld3) ?_)
      refine sV (v_eql rfl rfl) (sV (vM rfl) (st_cut (k := 12) (d := 72) (v := .bool ((p3 == q3) && (p4 == q4))) (fun hcut => bool_want (b := (p3 == q3)) true (fun hg => ?_) (fun hg => ?_)) ?_))
      · refine st_sk rfl rfl hg ?_
        refine st_sk rfl rfl hg ?_
        refine st_sk rfl rfl hg ?_
        refine st_sk rfl rfl hg ?_
        refine st_sk rfl rfl hg ?_
        refine sV (vP (bool_ev rfl hg) rfl) ?_
        exact hcut _ (ssub_head (by first | rfl | (rw [hg]; rfl) | simp_all) (uS rfl (uS rfl (uS rfl (uS rfl (uS rfl (ssub_refl)))))))
      · skip
        refine st_vg rfl (bG rfl hg) (vF rfl fa77_3 rfl) (st_vg rfl (bG rfl hg) (v_ldy rfl ld3) ?_)
        refine st_vg rfl (bG rfl hg) (vF rfl fa77_3 rfl) (st_vg rfl (bG rfl hg) (v_ldy rfl ld3) ?_)
        refine st_vg rfl (bG rfl hg) (v_eql rfl rfl) (sV (v_pick_true (bool_ev rfl hg) rfl) ?_)
        exact hcut _ (ssub_head (by first | rfl | (rw [hg]; rfl) | simp_all) (uS rfl (uS rfl (uS rfl (uS rfl (uS rfl (ssub_refl)))))))
      refine sV (vM rfl) (st_cut (k := 19) (d := 79) (v := .bool ((p3 == q3) && (p4 == q4) && (p5 == q5))) (fun hcut => bool_want (b := ((p3 == q3) && (p4 == q4))) true (fun hg => ?_) (fun hg => ?_)) ?_)
      · refine st_sk rfl rfl hg ?_
        refine st_sk rfl rfl hg ?_
        refine st_sk rfl rfl hg ?_
        refine st_sk rfl rfl hg ?_
        refine st_sk rfl rfl hg ?_
        refine sV (vP (bool_ev rfl hg) rfl) ?_
        exact hcut _ (ssub_head (by first | rfl | (rw [hg]; rfl) | simp_all) (uS rfl (uS rfl (uS rfl (uS rfl (uS rfl (ssub_refl)))))))
      · skip
        refine st_vg rfl (bG rfl hg) (vF rfl fa77_4 rfl) (st_vg rfl (bG rfl hg) (v_ldy rfl ld4) ?_)
        refine st_vg rfl (bG rfl hg) (vF rfl fa77_4 rfl) (st_vg rfl (bG rfl hg) (v_ldy rfl ld4) ?_)
        refine st_vg rfl (bG rfl hg) (v_eql_bool Tryz.underlying4 rfl rfl) (sV (v_pick_true (bool_ev rfl hg) rfl) ?_)
        exact hcut _ (ssub_head (by first | rfl | (rw [hg]; rfl) | simp_all) (uS rfl (uS rfl (uS rfl (uS rfl (uS rfl (ssub_refl)))))))
      refine sV (vM rfl) (st_cut (k := 26) (d := 86) (v := .bool ((p3 == q3) && (p4 == q4) && (p5 == q5) && (p7 == q7))) (fun hcut => bool_want (b := ((p3 == q3) && (p4 == q4) && (p5 == q5))) true (fun hg => ?_) (fun hg => ?_)) ?_)
      · refine st_sk rfl rfl hg ?_
        refine st_sk rfl rfl hg ?_
        refine st_sk rfl rfl hg ?_
        refine st_sk rfl rfl hg ?_
        refine st_sk rfl rfl hg ?_
        refine sV (vP (bool_ev rfl hg) rfl) ?_
        exact hcut _ (ssub_head (by first | rfl | (rw [hg]; rfl) | simp_all) (uS rfl (uS rfl (uS rfl (uS rfl (uS rfl (ssub_refl)))))))
      · skip
        refine st_vg rfl (bG rfl hg) (vF rfl fa77_6 rfl) (st_vg rfl (bG rfl hg) (v_ldy rfl ld3) ?_)
        refine st_vg rfl (bG rfl hg) (vF rfl fa77_6 rfl) (st_vg rfl (bG rfl hg) (v_ldy rfl ld3) ?_)
        refine st_vg rfl (bG rfl hg) (v_eql rfl rfl) (sV (v_pick_true (bool_ev rfl hg) rfl) ?_)
        exact hcut _ (ssub_head (by first | rfl | (rw [hg]; rfl) | simp_all) (uS rfl (uS rfl (uS rfl (uS rfl (uS rfl (ssub_refl)))))))
      refine sV (vM rfl) (st_cut (k := 33) (d := 93) (v := .bool ((p3 == q3) && (p4 == q4) && (p5 == q5) && (p7 == q7) && (p8 == q8))) (fun hcut => bool_want (b := ((p3 == q3) && (p4 == q4) && (p5 == q5) && (p7 == q7))) true (fun hg => ?_) (fun hg => ?_)) ?_)
      · refine st_sk rfl rfl hg ?_
        refine st_sk rfl rfl hg ?_
        refine st_sk rfl rfl hg ?_
        refine st_sk rfl rfl hg ?_
        refine st_sk rfl rfl hg ?_
        refine sV (vP (bool_ev rfl hg) rfl) ?_
        exact hcut _ (ssub_head (by first | rfl | (rw [hg]; rfl) | simp_all) (uS rfl (uS rfl (uS rfl (uS rfl (uS rfl (ssub_refl)))))))
      · skip
        refine st_vg rfl (bG rfl hg) (vF rfl fa77_7 rfl) (st_vg rfl (bG rfl hg) (v_ldy rfl ld3) ?_)
        refine st_vg rfl (bG rfl hg) (vF rfl fa77_7 rfl) (st_vg rfl (bG rfl hg) (v_ldy rfl ld3) ?_)
        refine st_vg rfl (bG rfl hg) (v_eql rfl rfl) (sV (v_pick_true (bool_ev rfl hg) rfl) ?_)
        exact hcut _ (ssub_head (by first | rfl | (rw [hg]; rfl) | simp_all) (uS rfl (uS rfl (uS rfl (uS rfl (uS rfl (ssub_refl)))))))
      refine sV (vA rfl) (sN (nK [4] rfl (nT (cT ?_))))
      exact xt_rt rfl ⟨rfl, rfl⟩
end
end Go.Wt
namespace Go.Wt
open Go Go.Ck Go.Proofs Go.Proofs.YtboepbencndobaaGreat Fx
attribute [local irreducible] St Cd Xt Nx DrL LsW
section
variable {S : Res} {v v' : Value}
set_option maxHeartbeats 1000000 in
set_option maxRecDepth 100000 in
theorem sameYards_ct {ys zs : List Value} {y z : Yard} (hy : yardR S ys y) (hz : yardR S zs z) (hf : Fit y) : Reads Tryz.prog 16 #[.agg ys.toArray, .agg zs.toArray] [S] (.bool (decide (y = z))) := by
  obtain ⟨jv, pv, rfl, hj, hp⟩ := hy
  obtain ⟨jv', pv', rfl, hj', hp'⟩ := hz
  obtain ⟨⟨hfj, hfj2⟩, hfp, hfpp⟩ := hf
  obtain ⟨ja, jc, rfl, _⟩ := id hj
  obtain ⟨pa, pc, rfl, _⟩ := id hp
  obtain ⟨ja', jc', rfl, _⟩ := id hj'
  obtain ⟨pa', pc', rfl, _⟩ := id hp'
  obtain ⟨yj, yp⟩ := y
  obtain ⟨zj, zp⟩ := z
  simp only at *
  refine ct_of (n := 92) Tryz.func16 rfl rfl (len rfl) fun hr w0 => ?_
  refine cS (cR (st_bx rfl rfl fun b2 => ?_))
  refine st_bx rfl rfl fun b3 => ?_
  refine sV (vA rfl) (sN (nK [2, 3, 4] rfl (nT (cS (cS (cR (sV (vF rfl fa27_1 rfl) (sV (v_ldy rfl ld25) ?_))))))))
  refine sV (v_len rfl Tryz.underlying25) (sV (vF rfl fa27_1 rfl) (sV (v_ldy rfl ld25) ?_))
  refine sV (v_len rfl Tryz.underlying25) (sV (v_neq rfl rfl) (sV (vM rfl) (st_cut (k := 16) (d := 24) (v := .bool (((yp.length : Int) != (zp.length : Int)) || ((yj.length : Int) != (zj.length : Int)))) (fun hcut => bool_want (b := ((yp.length : Int) != (zp.length : Int))) false (fun hg => ?_) (fun hg => ?_)) ?_)))
  · refine st_sk rfl rfl hg ?_
    refine st_sk rfl rfl hg ?_
    refine st_sk rfl rfl hg ?_
    refine st_sk rfl rfl hg ?_
    refine st_sk rfl rfl hg ?_
    refine st_sk rfl rfl hg ?_
    refine st_sk rfl rfl hg ?_
    refine sV (v_pick_true (bool_ev rfl hg) rfl) ?_
    exact hcut _ (ssub_head (by first | rfl | (rw [hg]; rfl) | simp_all) (uS rfl (uS rfl (uS rfl (uS rfl (uS rfl (uS rfl (uS rfl (ssub_refl)))))))))
  · skip
    refine st_vg rfl (bG rfl hg) (vF rfl fa27_0 rfl) (st_vg rfl (bG rfl hg) (v_ldy rfl ld22) ?_)
    refine st_vg rfl (bG rfl hg) (v_len rfl Tryz.underlying22) (st_vg rfl (bG rfl hg) (vF rfl fa27_0 rfl) (st_vg rfl (bG rfl hg) (v_ldy rfl ld22) ?_))
    refine st_vg rfl (bG rfl hg) (v_len rfl Tryz.underlying22) (st_vg rfl (bG rfl hg) (v_neq rfl rfl) (sV (vP (bool_ev rfl hg) rfl) ?_))
    exact hcut _ (ssub_head (by first | rfl | (rw [hg]; rfl) | simp_all) (uS rfl (uS rfl (uS rfl (uS rfl (uS rfl (uS rfl (uS rfl (ssub_refl)))))))))
  refine sN (nK [2, 3, 4, 24] rfl (nT (cC rfl (fun h0 => ?_) (fun h0 => ?_))))
  · skip
    refine cS (cR (sV (vA rfl) (sN (nK [2, 3, 4] rfl (nT (cT (xR ?_)))))))
    rw [decide_eq_false (fun e => by
      simp only [Yard.mk.injEq] at e
      obtain ⟨rfl, rfl⟩ := e
      simp at h0)]
    exact xt_rt rfl ⟨rfl, rfl⟩
  · skip
    simp only [Bool.or_eq_false_iff, bne_eq_false_iff_eq] at h0
    have hpl : yp.length = zp.length := by omega
    have hjl : yj.length = zj.length := by omega
    refine cK (xT (cS (cS (cR (sV (vA rfl) (sN (nK [2, 3, 4, 5] rfl (nT (cd_block (cd_lp (σ := Nat) (fun i => [(2, .pointer (some ⟨b2, 0, none⟩)), (3, .pointer (some ⟨b3, 0, none⟩)), (5, .int .i64 (i : Nat))]) (fun _ => pt b2 (cl [.slice ja yj.length jc, .slice pa yp.length pc] 27) :: pt b3 (cl [.slice ja' zj.length jc', .slice pa' zp.length pc'] 27) :: S :: hr) (fun i => i ≤ yj.length ∧ ∀ (j : Nat), j < i → yj[j]? = zj[j]?) (fun i => yj.length - i) 0 ⟨Nat.zero_le _, fun j hj => by omega⟩ ?_))))))))))
    rintro i ⟨hi, hne⟩
    refine cS (cS (cR (sV (vM rfl) (sV (vF rfl fa27_0 rfl) (sV (v_ldy rfl ld22) ?_)))))
    refine sV (v_len rfl Tryz.underlying22) (sV (v_lss rfl rfl) (sN (nK [2, 3, 5, 29] rfl (nT (cC rfl (fun hd => ?_) (fun hd => ?_))))))
    · skip
      have hlt : i < yj.length := by simpa using hd
      have hlt' : i < zj.length := by omega
      obtain ⟨c1, c2, c3, cu, hcv, hcrd, cv, hcu, hA⟩ := hj.at1 (List.getElem?_eq_getElem hlt)
      obtain ⟨c1', c2', c3', cu', hcv', hcrd', cv', hcu', hA'⟩ := hj'.at1 (List.getElem?_eq_getElem hlt')
      simp only [List.cons.injEq, and_true] at hcu hcu'
      subst hcu hcu'
      obtain ⟨aa, ac, rfl, _⟩ := id hA
      obtain ⟨aa', ac', rfl, _⟩ := id hA'
      have hll := hfj2 _ (List.getElem_mem hlt)
      have hno : yj[i] ≠ zj[i] → decide ((⟨yj, yp⟩ : Yard) = ⟨zj, zp⟩) = false := fun h => decide_eq_false fun e => h (by simp only [Yard.mk.injEq] at e; simp only [e.1])
      have hyes : yj[i] = zj[i] → yj[i]? = zj[i]? := fun h => by rw [List.getElem?_eq_getElem hlt, List.getElem?_eq_getElem hlt', h]
      generalize yj[i] = x at *
      generalize zj[i] = x' at *
      refine cK (xT (cS (cd_block (cS (cS (cd_drawh (ork [(0, 2), (1, 1), (2, 2), (3, 2), (4, 1), (5, 2), (6, 2), (7, 1), (8, 2), (9, 2), (10, 1), (11, 2), (12, 2)] .nil) (fun _ => true) mixed (by kernel_rfl) ?_))))))
      refine dV rfl (vF rfl fa27_0 rfl) (dr_v rfl (v_ldy rfl ld22) ?_)
      refine dV rfl (vM rfl) (dV rfl (v_indexAddr (k := i) (congrArg some hcv) rfl sl22 rfl hlt rfl) (dr_v rfl (v_ldy rfl ld108) ?_))
      refine dV rfl (v_len rfl Tryz.underlying108) (dV rfl (vF rfl fa27_0 rfl) (dr_v rfl (v_ldy rfl ld22) ?_))
      refine dV rfl (vM rfl) (dV rfl (v_indexAddr (k := i) (congrArg some hcv') rfl sl22 rfl hlt' rfl) (dr_v rfl (v_ldy rfl ld108) ?_))
      refine dV rfl (v_len rfl Tryz.underlying108) (dV rfl (v_neq rfl rfl) (dr_nil (nK [2, 3, 5, 44] rfl (nT (cC rfl (fun hq => ?_) (fun hq => ?_))))))
      · skip
        refine cS (cR (sV (vA rfl) (sN (nK [2, 3, 4, 5] rfl (nT (cT (xR (xt_ret_block (xR (xR (xt_ret_block (xR ?_))))))))))))
        rw [hno (fun e => by subst e; simp at hq)]
        exact xt_rt rfl ⟨rfl, rfl⟩
      · skip
        have hxl : x.length = x'.length := by have := bne_eq_false_iff_eq.1 hq; omega
        refine cK (xT (cS (cR (sV (vA rfl) (sN (nK [2, 3, 5, 6] rfl (nT (cd_block (cd_lp (σ := Nat) (fun k => [(2, .pointer (some ⟨b2, 0, none⟩)), (3, .pointer (some ⟨b3, 0, none⟩)), (5, .int .i64 (i : Nat)), (6, .int .i64 (k : Nat))]) (fun _ => pt b2 (cl [.slice ja yj.length jc, .slice pa yp.length pc] 27) :: pt b3 (cl [.slice ja' zj.length jc', .slice pa' zp.length pc'] 27) :: S :: hr) (fun k => k ≤ x.length ∧ ∀ (j : Nat), j < k → x[j]? = x'[j]?) (fun k => x.length - k) 0 ⟨Nat.zero_le _, fun j hj => by omega⟩ ?_)))))))))
        rintro k ⟨hk, hke⟩
        refine cS (cS (cR (sV (vM rfl) (sV (vF rfl fa27_0 rfl) (sV (v_ldy rfl ld22) ?_)))))
        refine sV (vM rfl) (sV (v_indexAddr (k := i) (congrArg some hcv) rfl sl22 rfl hlt rfl) (sV (v_ldy rfl ld108) ?_))
        refine sV (v_len rfl Tryz.underlying108) (sV (v_lss rfl rfl) (sN (nK [2, 3, 5, 6, 52] rfl (nT (cC rfl (fun hd2 => ?_) (fun hd2 => ?_))))))
        · skip
          have hkt : k < x.length := by simpa using hd2
          obtain ⟨m1, m2, m3, mus, hmv, hmus, hmrd, rfl⟩ := hA.at (List.getElem?_eq_getElem hkt)
          obtain ⟨m1', m2', m3', mus', hmv', hmus', hmrd', rfl⟩ := hA'.at (List.getElem?_eq_getElem (show k < x'.length by omega))
          refine cK (xT (cS (cd_block (cS (cd_drawh (ork [(0, 2), (1, 1), (2, 2), (3, 2), (4, 1), (5, 2), (6, 2), (7, 1), (8, 2), (9, 1), (10, 2), (11, 2), (12, 1), (13, 2), (14, 2), (15, 1), (16, 1)] .nil) (fun _ => true) mixed (by kernel_rfl) ?_)))))
          refine dV rfl (vF rfl fa27_0 rfl) (dr_v rfl (v_ldy rfl ld22) ?_)
          refine dV rfl (vM rfl) (dV rfl (v_indexAddr (k := i) (congrArg some hcv) rfl sl22 rfl hlt rfl) (dr_v rfl (v_ldy rfl ld108) ?_))
          refine dV rfl (vM rfl) (dV rfl (v_indexAddr (k := k) (congrArg some hmv) rfl sl108 rfl hkt rfl) (dr_v rfl (v_ldn rfl ld110 hmus hmrd) ?_))
          refine dV rfl (vF rfl fa27_0 rfl) (dr_v rfl (v_ldy rfl ld22) ?_)
          refine dV rfl (vM rfl) (dV rfl (v_indexAddr (k := i) (congrArg some hcv') rfl sl22 rfl hlt' rfl) (dr_v rfl (v_ldy rfl ld108) ?_))
          refine dV rfl (vM rfl) (dV rfl (v_indexAddr (k := k) (congrArg some hmv') rfl sl108 rfl (by omega) rfl) (dr_v rfl (v_ldn rfl ld110 hmus' hmrd') ?_))
          refine dr_v rfl (v_neq_T eq110 rfl rfl) (dr_nil (nK [2, 3, 5, 6, 71] rfl (nT (cC rfl (fun he => ?_) (fun he => ?_)))))
          · skip
            refine cS (cR (sV (vA rfl) (sN (nK [2, 3, 4, 5, 6] rfl (nT (cT (xt_ret_block (xR (xR (xt_ret_block (xt_ret_block (xR (xR (xt_ret_block (xR ?_)))))))))))))))
            rw [hno (fun e => by subst e; simp at he)]
            exact xt_rt rfl ⟨rfl, rfl⟩
          · skip
            refine cK (xB (xT (cR (sV (vM rfl) (sV (v_add rfl rfl (by unfold I64 at *; omega)) (sV (vA rfl) (sN (nK [2, 3, 5, 6] rfl (nx_xt (xt_ag (k + 1) ⟨hkt, fun j hj => ?_⟩ (by show _ - _ < _ - _; omega)))))))))))
            by_cases hjk : j = k
            · subst hjk
              rw [List.getElem?_eq_getElem hkt, List.getElem?_eq_getElem (show j < x'.length by omega)]
              simp only [Bool.not_eq_false', beq_iff_eq] at he
              rw [he]
            · exact hke j (by omega)
        · skip
          have hkl : k = x.length := by have : ¬ k < x.length := by simpa using hd2
                                        omega
          have hxy : x = x' := list_eq hxl fun j hj => hke j (by omega)
          refine cd_exit (xE (xE (xt_exit_block (xB (xT (cR (sV (vM rfl) (sV (v_add rfl rfl (by unfold I64 at *; omega)) (sV (vA rfl) (sN (nK [2, 3, 5] rfl (nx_xt (xt_ag (i + 1) ⟨hlt, fun j hj => ?_⟩ (by show _ - _ < _ - _; omega))))))))))))))
          by_cases hji : j = i
          · subst hji; exact hyes hxy
          · exact hne j (by omega)
    · skip
      have hil : i = yj.length := by have : ¬ i < yj.length := by simpa using hd
                                     omega
      have hjj : yj = zj := list_eq hjl fun j hj => hne j (by omega)
      refine cd_exit (xE (xE (xt_exit_block (xT (cS (cS (cR (sV (vA rfl) (sN (nK [2, 3, 7] rfl (nT (cd_block (cd_lp (σ := Nat) (fun i => [(2, .pointer (some ⟨b2, 0, none⟩)), (3, .pointer (some ⟨b3, 0, none⟩)), (7, .int .i64 (i : Nat))]) (fun _ => pt b2 (cl [.slice ja yj.length jc, .slice pa yp.length pc] 27) :: pt b3 (cl [.slice ja' zj.length jc', .slice pa' zp.length pc'] 27) :: S :: hr) (fun i => i ≤ yp.length ∧ ∀ (j : Nat), j < i → yp[j]? = zp[j]?) (fun i => yp.length - i) 0 ⟨Nat.zero_le _, fun j hj => by omega⟩ ?_)))))))))))))
      rintro i ⟨hi, hne⟩
      refine cS (cS (cR (sV (vM rfl) (sV (vF rfl fa27_1 rfl) (sV (v_ldy rfl ld25) ?_)))))
      refine sV (v_len rfl Tryz.underlying25) (sV (v_lss rfl rfl) (sN (nK [2, 3, 7, 76] rfl (nT (cC rfl (fun hd => ?_) (fun hd => ?_))))))
      · skip
        have hlt : i < yp.length := by simpa using hd
        have hlt' : i < zp.length := by omega
        obtain ⟨c1, c2, c3, cus, hcv, hcus, hcrd, hA⟩ := hp.at (List.getElem?_eq_getElem hlt)
        obtain ⟨c1', c2', c3', cus', hcv', hcus', hcrd', hA'⟩ := hp'.at (List.getElem?_eq_getElem hlt')
        refine cK (xT (cS (cd_block (cS (cd_drawh (ork [(0, 2), (1, 1), (2, 2), (3, 2), (4, 1), (5, 2), (6, 1), (7, 2), (8, 2), (9, 1), (10, 1), (11, 2)] .nil) (fun _ => true) mixed (by kernel_rfl) ?_)))))
        refine dV rfl (vF rfl fa27_1 rfl) (dr_v rfl (v_ldy rfl ld25) ?_)
        refine dV rfl (vM rfl) (dV rfl (v_indexAddr (k := i) (congrArg some hcv) rfl sl25 rfl hlt rfl) (dr_v rfl (v_ldn rfl ld77 hcus hcrd) ?_))
        refine dV rfl (vF rfl fa27_1 rfl) (dr_v rfl (v_ldy rfl ld25) ?_)
        refine dV rfl (vM rfl) (dV rfl (v_indexAddr (k := i) (congrArg some hcv') rfl sl25 rfl hlt' rfl) (dr_v rfl (v_ldn rfl ld77 hcus' hcrd') ?_))
        refine dr_clr rfl rfl rfl en55 rfl (sameProc_ct hA hA' (hfpp _ (List.getElem_mem hlt))) ?_
        refine dV rfl (vA rfl) (dr_nil (nK [2, 3, 7, 8] rfl (nT (cS (cR (sV (vM rfl) (sV (v_not rfl) (sN (nK [2, 3, 7, 91] rfl (nT (cC rfl (fun hq => ?_) (fun hq => ?_))))))))))))
        · skip
          refine cS (cR (sV (vA rfl) (sN (nK [2, 3, 4, 7] rfl (nT (cT (xt_ret_block (xR (xR (xt_ret_block (xR ?_)))))))))))
          rw [decide_eq_false (fun e => by
            simp only [Yard.mk.injEq] at e
            obtain ⟨_, rfl⟩ := e
            simp at hq)]
          exact xt_rt rfl ⟨rfl, rfl⟩
        · skip
          refine cK (xB (xT (cR (sV (vM rfl) (sV (v_add rfl rfl (by unfold I64 at *; omega)) (sV (vA rfl) (sN (nK [2, 3, 7] rfl (nx_xt (xt_ag (i + 1) ⟨hlt, fun j hj => ?_⟩ (by show _ - _ < _ - _; omega)))))))))))
          by_cases hji : j = i
          · subst hji
            rw [List.getElem?_eq_getElem hlt, List.getElem?_eq_getElem hlt']
            simp only [Bool.not_eq_false', decide_eq_true_eq] at hq
            rw [hq]
          · exact hne j (by omega)
      · skip
        have hil : i = yp.length := by have : ¬ i < yp.length := by simpa using hd
                                       omega
        have hpp : yp = zp := list_eq hpl fun j hj => hne j (by omega)
        rw [decide_eq_true (by rw [hjj, hpp])]
        refine cd_exit (xE (xE (xt_exit_block (xT (cS (cR (sV (vA rfl) (sN (nK [4] rfl (nT (cT ?_)))))))))))
        exact xt_rt rfl ⟨rfl, rfl⟩
end
end Go.Wt
namespace Go.Wt
open Go Go.Ck
def exJ1 : List (List Move) := [[(1, 1, 0), (3, 1, 1), (4, 1, 2), (2, 0, 0)], [], []]
def exJ2 : List (List Move) := [[(5, 1, 1), (5, 2, 2)], [(1, 2, 0), (4, 2, 3), (2, 0, 0)], [(1, 1, 0), (4, 1, 3), (2, 0, 0)], []]
def exJ3 : List (List Move) := [[(1, 1, 0), (3, 1, 1), (3, 1, 2), (4, 1, 2), (2, 0, 0)], [(6, 0, 0)], []]
def exY : Nat → Yard
  | 0 => Yard.new exJ1 3
  | k + 1 => ((exY k).step 0)
def exZ1 : Yard := (Yard.gos (fun _ _ => true) 100 (exY 4)).1
def exZ2 : Yard := (Yard.gos (fun _ _ => true) 100 (Yard.new exJ2 3)).1
def exZ3 : Yard := (Yard.gos (fun _ _ => true) 100 (Yard.new exJ3 2)).1
theorem ex_chk : check exJ1 3 = 0 ∧ check exJ2 3 = 0 ∧ check exJ3 2 = 0 := by decide
theorem ex_step : (exY 0).stepE 0 = (exY 1, 0) ∧ (exY 1).stepE 0 = (exY 2, 0) ∧ (exY 2).stepE 0 = (exY 3, 0) ∧ (exY 3).stepE 0 = (exY 4, 0) := ⟨by kernel_rfl, by kernel_rfl, by kernel_rfl, by kernel_rfl⟩
theorem ex_gos1 : (Yard.gos (fun _ _ => true) 100 (exY 4)).2 = 0 := by kernel_rfl
theorem ex_gos2 : (Yard.gos (fun _ _ => true) 100 (Yard.new exJ2 3)).2 = 0 := by kernel_rfl
theorem ex_gos3 : (Yard.gos (fun _ _ => true) 100 (Yard.new exJ3 2)).2 = 0 := by kernel_rfl
end Go.Wt
namespace Go.Ck
open Go
section
variable {c : Cx} {ops : Array Oper} {K : Act → World → Prop} {rest : List Oper} {e : Env} {h h' : SH}
theorem st_grd {d : Option Nat} {op : Op} {ty : TypeId} {pos : String} {after : Array Edge} {g gd : Nat} {want : Bool} (hg : ((ops[g]?).bind (·.dst)) = some gd) (hgv : e.get? gd = some (.bool want)) (hn : St c ops K (⟨d, op, ty, pos, after, none⟩ :: rest) e h) :
    St c ops K (⟨d, op, ty, pos, after, some (g, want)⟩ :: rest) e h := fun a w hk hh hw => by
  have h1 := hn a w hk hh hw
  unfold LsW at h1 ⊢
  have e1 : Region.wanted (⟨d, op, ty, pos, after, none⟩ : Oper) (yielded ops a.tmps) = true := by simp [Region.wanted]
  have e2 : Region.wanted (⟨d, op, ty, pos, after, some (g, want)⟩ : Oper) (yielded ops a.tmps) = true := by simp [Region.wanted, yields_guard hg hgv hk]
  rw [if_pos e1] at h1
  rw [if_pos e2]
  exact h1
end
theorem row_cells {α : Type} {S : Res} {X : List Value → α → Prop} {b n : Nat} {vs : List Value} {l : List α} (hrd : ∀ (i : Nat) v, vs[i]? = some v → Rd S ⟨b, i, none⟩ v) (hl : vs.length = l.length) (hn : l.length = n) (hm : n ≤ maxLen)
    (hx : ∀ (i : Nat) v x, vs[i]? = some v → l[i]? = some x → X [v] x) : Row S 1 X (.slice (some ⟨b, 0, none⟩) n n) l := by
  subst hn
  refine ⟨_, _, rfl, Nat.le_refl _, hm, (fun h => by cases h), fun i x hi => ?_⟩
  have hlt : i < vs.length := by rw [hl]; exact (List.getElem?_eq_some_iff.1 hi).1
  refine ⟨b, 0, [vs[i]], rfl, rfl, fun j hj => ?_, hx i _ x (List.getElem?_eq_getElem hlt) hi⟩
  have hj0 : j = 0 := by simpa using hj
  subst hj0
  have := hrd i vs[i] (List.getElem?_eq_getElem hlt)
  simpa using this
end Go.Ck
namespace Go.Wt
open Go Go.Ck Go.Proofs Go.Proofs.YtboepbencndobaaGreat Fx
attribute [local irreducible] St Cd Xt Nx DrL LsW
section
set_option maxRecDepth 100000 in
theorem menter_ct (s : Int) : Reads Tryz.prog 48 #[.int .i64 s] [] (.agg (mC (1, s, 0)).toArray) := by
  refine ct_of (n := 5) Tryz.func48 rfl rfl (len rfl) fun hr w0 => ?_
  refine cS (cR (st_alc al110 fun b2 => ?_))
  refine sN (nT (cS (cR (sV (vM rfl) (sV (v_build (cells := mC (1, s, 0)) rfl (fun _ => by kernel_rfl)) ?_)))))
  refine st_stoW rfl rfl sz110 rfl rfl ?_
  refine sN (nK [2] rfl (nT (cT ?_)))
  exact xt_retV (.cellN rfl ld110 rfl (by repeat (first | exact Sel.here | apply Sel.there)) .nil) ⟨rfl, rfl⟩ (by repeat (first | exact Sub.refl _ | exact Sub.nil _ | refine Sub.sel (by repeat (first | exact Sel.here | apply Sel.there)) ?_ | apply Sub.cons))
set_option maxRecDepth 100000 in
theorem mput_ct (s j : Int) : Reads Tryz.prog 49 #[.int .i64 s, .int .i64 j] [] (.agg (mC (3, s, j)).toArray) := by
  refine ct_of (n := 8) Tryz.func49 rfl rfl (len rfl) fun hr w0 => ?_
  refine cS (cR (st_alc al110 fun b4 => ?_))
  refine sN (nT (cS (cR (sV (vM rfl) (sV (vM rfl) (sV (v_build (cells := mC (3, s, j)) rfl (fun _ => by kernel_rfl)) ?_))))))
  refine st_stoW rfl rfl sz110 rfl rfl ?_
  refine sN (nK [4] rfl (nT (cT ?_)))
  exact xt_retV (.cellN rfl ld110 rfl (by repeat (first | exact Sel.here | apply Sel.there)) .nil) ⟨rfl, rfl⟩ (by repeat (first | exact Sub.refl _ | exact Sub.nil _ | refine Sub.sel (by repeat (first | exact Sel.here | apply Sel.there)) ?_ | apply Sub.cons))
set_option maxRecDepth 100000 in
theorem mask_ct (s j : Int) : Reads Tryz.prog 50 #[.int .i64 s, .int .i64 j] [] (.agg (mC (4, s, j)).toArray) := by
  refine ct_of (n := 8) Tryz.func50 rfl rfl (len rfl) fun hr w0 => ?_
  refine cS (cR (st_alc al110 fun b4 => ?_))
  refine sN (nT (cS (cR (sV (vM rfl) (sV (vM rfl) (sV (v_build (cells := mC (4, s, j)) rfl (fun _ => by kernel_rfl)) ?_))))))
  refine st_stoW rfl rfl sz110 rfl rfl ?_
  refine sN (nK [4] rfl (nT (cT ?_)))
  exact xt_retV (.cellN rfl ld110 rfl (by repeat (first | exact Sel.here | apply Sel.there)) .nil) ⟨rfl, rfl⟩ (by repeat (first | exact Sub.refl _ | exact Sub.nil _ | refine Sub.sel (by repeat (first | exact Sel.here | apply Sel.there)) ?_ | apply Sub.cons))
set_option maxRecDepth 100000 in
theorem mspawn_ct (s j : Int) : Reads Tryz.prog 53 #[.int .i64 s, .int .i64 j] [] (.agg (mC (5, s, j)).toArray) := by
  refine ct_of (n := 8) Tryz.func53 rfl rfl (len rfl) fun hr w0 => ?_
  refine cS (cR (st_alc al110 fun b4 => ?_))
  refine sN (nT (cS (cR (sV (vM rfl) (sV (vM rfl) (sV (v_build (cells := mC (5, s, j)) rfl (fun _ => by kernel_rfl)) ?_))))))
  refine st_stoW rfl rfl sz110 rfl rfl ?_
  refine sN (nK [4] rfl (nT (cT ?_)))
  exact xt_retV (.cellN rfl ld110 rfl (by repeat (first | exact Sel.here | apply Sel.there)) .nil) ⟨rfl, rfl⟩ (by repeat (first | exact Sub.refl _ | exact Sub.nil _ | refine Sub.sel (by repeat (first | exact Sel.here | apply Sel.there)) ?_ | apply Sub.cons))
set_option maxRecDepth 100000 in
theorem mleave_ct (_u : Unit) : Reads Tryz.prog 51 #[] [] (.agg (mC (2, 0, 0)).toArray) := by
  refine ct_of (n := 2) Tryz.func51 rfl rfl (len rfl) fun hr w0 => ?_
  refine cS (cR (st_alc al110 fun b0 => ?_))
  refine sN (nT (cS (cR (sV (v_build (cells := mC (2, 0, 0)) rfl (fun _ => by kernel_rfl)) ?_))))
  refine st_stoW rfl rfl sz110 rfl rfl ?_
  refine sN (nK [0] rfl (nT (cT ?_)))
  exact xt_retV (.cellN rfl ld110 rfl (by repeat (first | exact Sel.here | apply Sel.there)) .nil) ⟨rfl, rfl⟩ (by repeat (first | exact Sub.refl _ | exact Sub.nil _ | refine Sub.sel (by repeat (first | exact Sel.here | apply Sel.there)) ?_ | apply Sub.cons))
end
end Go.Wt
namespace Go.Wt
open Go Go.Ck Go.Proofs Go.Proofs.YtboepbencndobaaGreat Fx
attribute [local irreducible] St Cd Xt Nx DrL LsW
theorem exLive0 : Live (exY 0) 1 := Live.new (n := 3) (by decide)
theorem exLive_step {i : Nat} (h : Live (exY i) (i + 1)) (hs : (exY i).stepE 0 = (exY (i + 1), 0)) (hg : ((exY i).pr 0).goes = true) : Live (exY (i + 1)) (i + 2) := by
  have := h.stepE (i := 0) h.len_pos.1 hg (by rw [hs])
  rw [hs] at this; exact this
theorem exLive : ∀ i, i ≤ 4 → Live (exY i) (i + 1)
  | 0, _ => exLive0
  | 1, _ => exLive_step (exLive 0 (by decide)) ex_step.1 (by kernel_rfl)
  | 2, _ => exLive_step (exLive 1 (by decide)) ex_step.2.1 (by kernel_rfl)
  | 3, _ => exLive_step (exLive 2 (by decide)) ex_step.2.2.1 (by kernel_rfl)
  | 4, _ => exLive_step (exLive 3 (by decide)) ex_step.2.2.2 (by kernel_rfl)
  | n + 5, h => by omega
theorem exStep : ∀ i, i < 4 → yStepE (exY i) 0 = (exY (i + 1), 0)
  | 0, _ => by kernel_rfl
  | 1, _ => by kernel_rfl
  | 2, _ => by kernel_rfl
  | 3, _ => by kernel_rfl
  | n + 4, h => by omega
theorem exFin1 : yFinE (exY 4) 100 = (exZ1, 0) := by kernel_rfl
theorem exFin2 : yFinE (Yard.new exJ2 3) 100 = (exZ2, 0) := by kernel_rfl
theorem exFin3 : yFinE (Yard.new exJ3 2) 100 = (exZ3, 0) := by kernel_rfl
theorem exLZ1 : Live exZ1 105 := (gos_live (fun _ _ => true) 100 (exLive 4 (by decide)) ex_gos1).1
theorem exLZ2 : Live exZ2 101 := (gos_live (fun _ _ => true) 100 (Live.new (n := 3) (jobs := exJ2) (by decide)) ex_gos2).1
theorem exLZ3 : Live exZ3 101 := (gos_live (fun _ _ => true) 100 (Live.new (n := 2) (jobs := exJ3) (by decide)) ex_gos3).1
theorem exSt : stateE (exY 4) 0 = (3, 0) ∧ stateE (exY 4) 1 = (2, 0) := ⟨by kernel_rfl, by kernel_rfl⟩
theorem exEnd : endedE exZ1 = (true, 0) := by kernel_rfl
def exO : List (List Key) := [[(0, 0)], [(0, 1)], []]
theorem exOrd : ordersE exZ1 = (exO, 0) := by kernel_rfl
def exB1 : List (List Did) := [[((0, 1), 1, false, false), ((0, 1), 2, false, false)]]
theorem exBlk1 : blocksE exZ1 1 = (exB1, 0) := by kernel_rfl
def exB3 : List (List Did) := [[((0, 1), 1, false, true), ((0, 1), 2, true, false), ((0, 1), 2, true, false)]]
theorem exBlk3 : blocksE exZ3 1 = (exB3, 0) := by kernel_rfl
theorem exRing : ringYE exZ2 = ([1, 2], true, 0) := by kernel_rfl
theorem exRdy : readyE (exY 0) = ([0], 0) := by kernel_rfl
theorem exRun : yRunE (exY 0) [0, 0, 0, 0] = (exY 4, 0) := by kernel_rfl
theorem exRdy2 : (readyE (exY 4)).2 = 0 := by kernel_rfl
theorem row_empty {α : Type} {S : Res} {sz : Nat} {X : List Value → α → Prop} {a : Option Addr} : Row S sz X (.slice a 0 0) [] := ⟨a, 0, rfl, Nat.le_refl _, Nat.zero_le _, fun _ => rfl, fun i x h => by simp at h⟩
theorem jobs_row {S : Res} {c n : Nat} {vs : List Value} {jobs : List (List Move)} (hc : ∀ (i : Nat) v, vs[i]? = some v → Rd S ⟨c, i, none⟩ v) (hl : vs.length = jobs.length) (hn : jobs.length = n) (hm : n ≤ maxLen) (hx : ∀ p ∈ vs.zip jobs, Row S 3 (eqC mC) p.1 p.2) :
    Row S 1 (jobR S) (.slice (some ⟨c, 0, none⟩) n n) jobs := row_cells hc hl hn hm fun i v x h1 h2 => ⟨v, rfl, hx (v, x) (List.mem_of_getElem? (i := i) (by rw [List.getElem?_zip_eq_some]; exact ⟨h1, h2⟩))⟩
theorem row_ptm {L : SH} {b n : Nat} {cells : List Value} {l : List Move} (hr : pt b (cl cells 110) ∈ L) (hc : cells = (l.map mC).flatten) (hn : l.length = n) (hm : n ≤ maxLen) : Row (Res.star L) 3 (eqC mC) (.slice (some ⟨b, 0, none⟩) n n) l :=
  (row_pt hc (fun _ _ => rfl) hn hm).mono (fun p u h => rd_mem hr p u h) fun _ _ _ h => h
theorem rd_ptm {L : SH} {b : Nat} {T : TypeId} {cells : List Value} (hr : pt b (cl cells T) ∈ L) : ∀ (i : Nat) v, cells[i]? = some v → Rd (Res.star L) ⟨b, i, none⟩ v := fun i v h => rd_mem hr _ _ (rd_cl h)
theorem vr_rowC {α : Type} {v : Value} {E : TypeId} {sz : Nat} {C : α → List Value} {l : List α} (hok : ∃ f, (VR v E sz (l.map C)).ok f) : Row (VR v E sz (l.map C)) sz (eqC C) v l := row_vr hok (by simp) (fun _ _ h => h) fun i us x h1 h2 => by simp [List.getElem?_map, h2] at h1; exact h1.symm
theorem vr_rowS {α : Type} {L : SH} {v : Value} {E : TypeId} {sz : Nat} {C : α → List Value} {l : List α} (hr : VR v E sz (l.map C) ∈ L) (hok : ∃ f, (VR v E sz (l.map C)).ok f) : Row (Res.star L) sz (eqC C) v l := (vr_rowC hok).mono (fun p u h => rd_mem hr p u h) fun _ _ _ h => h
theorem pt_rowS {α : Type} {L : SH} {b n : Nat} {E : TypeId} {sz : Nat} {cells : List Value} {C : α → List Value} {l : List α} (hr : pt b (cl cells E) ∈ L) (hc : cells = (l.map C).flatten) (hs : ∀ x ∈ l, (C x).length = sz) (hn : l.length = n) (hm : n ≤ maxLen) : Row (Res.star L) sz (eqC C) (.slice (some ⟨b, 0, none⟩) n n) l := (row_pt hc hs hn hm).mono (fun p u h => rd_mem hr p u h) fun _ _ _ h => h
theorem exMade {i : Nat} (h : i ≤ 4) : ∀ k, ((exY i).pr k).made ≤ 900000 := fun k => by have := ((exLive i h).hm k).2; omega
theorem exFits1 : Fits exJ1 := ⟨by decide, by simp [exJ1]⟩
theorem exFits2 : Fits exJ2 := ⟨by decide, by simp [exJ2]⟩
theorem exFits3 : Fits exJ3 := ⟨by decide, by simp [exJ3]⟩
theorem exFit {i : Nat} (h : i ≤ 4) : Fit (exY i) := (exLive i h).fit (by omega)
theorem exN1 : newY exJ1 3 = exY 0 := by kernel_rfl
theorem exN2 : newY exJ2 3 = Yard.new exJ2 3 := by kernel_rfl
theorem exN3 : newY exJ3 2 = Yard.new exJ3 2 := by kernel_rfl
theorem zeros (n : Int) (h : n ∈ [(0 : Int), 0, 0, 0]) : I64 n := by simp at h; subst h; unfold I64; omega
set_option maxHeartbeats 4000000 in
set_option maxRecDepth 100000 in
theorem sanity_ct : Ct Tryz.prog 13 #[] [] fun u h' => u = .bool true ∧ h' = [] := by
  refine ct_of (n := 300) Tryz.func13 rfl rfl (len rfl) fun hr w0 => ?_
  refine cS (cR (sV (vA rfl) (sN (nT (cS (cR (st_clr rfl rfl en48 rfl (menter_ct 1) ?_)))))))
  refine st_clr rfl rfl en49 rfl (mput_ct 1 1) ?_
  refine st_clr rfl rfl en50 rfl (mask_ct 1 2) ?_
  refine st_clr rfl rfl en51 rfl (mleave_ct ()) ?_
  refine st_buildSlice (cells := mC (1, 1, 0) ++ mC (3, 1, 1) ++ mC (4, 1, 2) ++ mC (2, 0, 0)) rfl Tryz.underlying108 inf110 rfl rfl (by kernel_rfl) (ltn rfl) fun b37 => ?_
  refine st_bs0 Tryz.underlying108 inf110 fun b38 => ?_
  refine st_bs0 Tryz.underlying108 inf110 fun b39 => ?_
  refine st_buildSlice (cells := [.slice (some ⟨b37, 0, none⟩) 4 4, .slice (some ⟨b38, 0, none⟩) 0 0, .slice (some ⟨b39, 0, none⟩) 0 0]) rfl Tryz.underlying22 inf108 rfl rfl (by kernel_rfl) (ltn rfl) fun b40 => ?_
  refine sV (vA rfl) (sN (nK [0, 1] rfl (nT (cS (cR (sV (vM rfl) (st_pv (pv_pack (L := [pt b37 (cl (mC (1, 1, 0) ++ mC (3, 1, 1) ++ mC (4, 1, 2) ++ mC (2, 0, 0)) 110), pt b40 (cl [.slice (some ⟨b37, 0, none⟩) 4 4, .slice (some ⟨b38, 0, none⟩) 0 0, .slice (some ⟨b39, 0, none⟩) 0 0] 108)])) ?_)))))))
  have hJ1 : Row (Res.star [pt b37 (cl (mC (1, 1, 0) ++ mC (3, 1, 1) ++ mC (4, 1, 2) ++ mC (2, 0, 0)) 110), pt b40 (cl [.slice (some ⟨b37, 0, none⟩) 4 4, .slice (some ⟨b38, 0, none⟩) 0 0, .slice (some ⟨b39, 0, none⟩) 0 0] 108)]) 1 (jobR _) (.slice (some ⟨b40, 0, none⟩) 3 3) exJ1 :=
    jobs_row (vs := [.slice (some ⟨b37, 0, none⟩) 4 4, .slice (some ⟨b38, 0, none⟩) 0 0, .slice (some ⟨b39, 0, none⟩) 0 0]) (rd_ptm (T := 108) (.tail _ (.head _))) rfl rfl (by decide)
      (List.forall_mem_cons.2 ⟨row_ptm (.head _) rfl rfl (by decide), List.forall_mem_cons.2 ⟨row_empty, List.forall_mem_cons.2 ⟨row_empty, fun _ h => nomatch h⟩⟩⟩)
  refine st_cl rfl rfl en14 rfl (new_ct hJ1 exFits1 (by unfold I64; decide)) ?_
  rintro u h' ⟨T1, rfl, ys1, rfl, hy1⟩
  rw [ex_chk.1]
  rw [exN1] at hy1
  obtain ⟨ja1, pa1, rfl, hc1, hc2⟩ := yardR_cells hy1
  refine sV (vM rfl) (sV (v_extract rfl rfl) (sV (v_extract rfl rfl) (st_alc al27 fun b2 => ?_)))
  refine st_stoW rfl rfl sz27 rfl (by simp [hc1, hc2]) ?_
  refine sV (vA rfl) (sN (nK [0, 2, 3] rfl (nT (cS (cR (sV (v_ldn rfl ld27 rfl rds_pt) ?_))))))
  refine st_cl rfl rfl en22 rfl (Ready_ct hy1 (exFit (by decide))) ?_
  rintro u h' ⟨T2, rfl, v2, rfl, hT2⟩
  subst hT2
  rw [exRdy]
  refine sV (vM rfl) (sV (v_extract rfl rfl) (sV (v_extract rfl rfl) (sV (vA rfl) (sV (vA rfl) (sN (nK [0, 2, 3, 4, 5] rfl (nT (cS (cR (sV (v_ldn rfl ld27 rfl rds_pt) ?_))))))))))
  refine st_buildSlice (cells := [.int .i64 0, .int .i64 0, .int .i64 0, .int .i64 0]) rfl Tryz.underlying43 inf3 rfl rfl (by kernel_rfl) (ltn rfl) fun b53 => ?_
  refine st_cl rfl rfl en31 rfl (ctn_star (Run_ct (S := Res.star [T1, pt b53 (cl [.int .i64 0, .int .i64 0, .int .i64 0, .int .i64 0] 3)]) (picks := [0, 0, 0, 0]) (hy1.mono (rd_in .here)) (exFit (by decide)) (fun _ => exLive 0 (by decide)) (by decide) ((row_pt (C := iC) (sz := 1) (l := [0, 0, 0, 0]) (n := 4) rfl (by simp [iC]) rfl (by decide)).mono (rd_in (.there .here)) fun _ _ _ h => h) zeros)) ?_
  rintro u h' ⟨T3, rfl, ys3, rfl, hy3⟩
  rw [exRun] at hy3 ⊢
  obtain ⟨ja3, pa3, rfl, hc1, hc2⟩ := yardR_cells hy3
  refine sV (vM rfl) (sV (v_extract rfl rfl) (sV (v_extract rfl rfl) (st_alc al27 fun b6 => ?_)))
  refine st_stoW rfl rfl sz27 rfl (by simp [hc1, hc2]) ?_
  refine sV (vA rfl) (sN (nK [0, 2, 3, 4, 5, 6, 7] rfl (nT (cS (cR (sV (v_ldn rfl ld27 rfl rds_pt) ?_))))))
  refine st_cl rfl rfl en22 rfl (Ready_ct hy3 (exFit (by decide))) ?_
  rintro u h' ⟨T4, rfl, v4, rfl, hT4⟩
  subst hT4
  rw [exRdy2]
  refine sV (vM rfl) (sV (v_extract rfl rfl) (sV (v_extract rfl rfl) (sV (vA rfl) (sV (vA rfl) (sN (nK [0, 2, 3, 4, 5, 7, 9] rfl (nT (cS (cS (cR (sV (vM rfl) (sV (v_neq rfl rfl) (sV (vM rfl) (st_vg rfl rfl (vM rfl) (st_vg rfl rfl (v_neq rfl rfl) ?_)))))))))))))))
  refine sV (vP rfl rfl) (sV (vM rfl) (st_vg rfl rfl (vM rfl) (st_vg rfl rfl (v_neq rfl rfl) (sV (vP rfl rfl) (sV (vM rfl) (st_vg rfl rfl (vM rfl) (st_vg rfl rfl (v_neq rfl rfl) (sV (vP rfl rfl) (sV (vM rfl) (st_vg rfl rfl (vM rfl) (st_grd rfl rfl (st_buildSlice (cells := [.int .i64 0]) rfl Tryz.underlying43 inf3 rfl rfl (by kernel_rfl) (ltn rfl) fun b78 => ?_))))))))))))
  refine st_ok (r := VR v2 3 1 ([0].map iC)) (by repeat (first | exact Sel.here | apply Sel.there)) fun hk2 => ?_
  refine st_grd rfl rfl (st_cl rfl rfl en28 rfl (reads_star (same28_ct (S := Res.star [VR v2 3 1 ([0].map iC), pt b78 (cl [.int .i64 0] 3)]) (l := [0]) (l' := [0]) (vr_rowS (.head _) hk2) (pt_rowS (.tail _ (.head _)) rfl (by simp [iC]) rfl (by decide)) (by decide))) ?_)
  rintro u h' ⟨rfl, rfl⟩
  refine st_vg rfl rfl (v_not rfl) (sV (vP rfl rfl) (sN (nK [0, 2, 3, 81] rfl (nT (cd_false rfl ?_)))))
  refine cK (xT (cS (cS (cR (sV (vA rfl) (sN (nK [0, 2, 3, 10] rfl (nT (cd_block (cd_lp (σ := Nat × Value × Value × Res) (fun q => [(2, .pointer (some ⟨b2, 0, none⟩)), (3, .int .i64 0), (10, .int .i64 (q.1 : Nat))]) (fun q => pt b2 (cl [q.2.1, q.2.2.1] 27) :: q.2.2.2 :: hr) (fun q => q.1 ≤ 4 ∧ yardR q.2.2.2 [q.2.1, q.2.2.1] (exY q.1)) (fun q => 4 - q.1) (0, ja1, pa1, T1) ⟨Nat.zero_le _, hy1⟩ ?_))))))))))
  rintro ⟨k, ja, pa, T⟩ ⟨hk, hy⟩
  simp only at hk hy
  dsimp only
  refine cS (cS (cR (sV (vM rfl) (sV (v_lss rfl rfl) (sV (vM rfl) (st_cut (k := 6) (d := 87) (v := .bool (decide (((k : Nat) : Int) < 4) && ((0 : Int) == 0))) (fun hcut => bool_want (b := decide (((k : Nat) : Int) < 4)) true (fun hg => ?_) (fun hg => ?_)) ?_))))))
  · refine st_sk rfl rfl hg ?_
    refine st_sk rfl rfl hg ?_
    refine sV (vP (bool_ev rfl hg) rfl) ?_
    exact hcut _ (ssub_head (by first | rfl | (rw [hg]; rfl) | simp_all) (uS rfl (uS rfl (ssub_refl))))
  · skip
    refine st_vg rfl (bG rfl hg) (vM rfl) (st_vg rfl (bG rfl hg) (v_eql rfl rfl) (sV (v_pick_true (bool_ev rfl hg) rfl) ?_))
    exact hcut _ (ssub_head (by first | rfl | (rw [hg]; rfl) | simp_all) (uS rfl (uS rfl (ssub_refl))))
  refine sN (nK [2, 3, 10, 87] rfl (nT (cC rfl (fun hd => ?_) (fun hd => ?_))))
  · skip
    have hk4 : k < 4 := by
      rw [Bool.and_eq_true] at hd
      have := of_decide_eq_true hd.1
      omega
    refine cK (xT (cS (cd_block (cR (sV (v_ldn rfl ld27 rfl rds_pt) ?_)))))
    refine st_cl rfl rfl en34 rfl (Step_ct hy (exFit hk) (exMade hk) 0) ?_
    rintro u h' ⟨T5, rfl, ys5, rfl, hy5⟩
    rw [exStep k hk4] at hy5 ⊢
    obtain ⟨ja5, pa5, rfl, hc1, hc2⟩ := yardR_cells hy5
    refine sV (vM rfl) (sV (v_extract rfl rfl) (sV (v_extract rfl rfl) (st_stoW rfl rfl sz27 rfl (by simp [hc1, hc2]) ?_)))
    refine sV (vA rfl) (sN (nK [2, 3, 10] rfl (nx_xt (xB (xT (cR (sV (vM rfl) (sV (v_add rfl rfl (by unfold I64 at *; omega)) (sV (vA rfl) (sN (nK [2, 3, 10] rfl (nx_xt ?_))))))))))))
    refine xt_ag (k + 1, ja5, pa5, T5) ⟨hk4, hy5⟩ (by show _ - _ < _ - _; omega)
  · skip
    have hk4 : k = 4 := by
      have h0 : ¬ ((k : Nat) : Int) < 4 := fun h => by rw [decide_eq_true h] at hd; exact absurd hd (by decide)
      omega
    subst hk4
    refine cd_exit (xE (xE (xt_exit_block (xT (cS (cR (sV (v_ldn rfl ld27 rfl rds_pt) ?_)))))))
    refine st_clr rfl rfl en20 rfl (State_ct hy (exFit (by decide)) 0) ?_
    rw [exSt.1]
    refine sV (vM rfl) (sV (v_extract rfl rfl) (sV (v_extract rfl rfl) (sV (vA rfl) (sV (vA rfl) (sN (nK [2, 3, 11, 12] rfl (nT (cS (cR (sV (v_ldn rfl ld27 rfl rds_pt) ?_))))))))))
    refine st_clr rfl rfl en20 rfl (State_ct hy (exFit (by decide)) 1) ?_
    rw [exSt.2]
    refine sV (vM rfl) (sV (v_extract rfl rfl) (sV (v_extract rfl rfl) (sV (vA rfl) (sV (vA rfl) (sN (nK [2, 3, 11, 12, 13, 14] rfl (nT (cS (cR (sV (v_ldn rfl ld27 rfl rds_pt) ?_))))))))))
    refine st_cl rfl rfl en52 rfl (Finish_ct (steps := 100) hy (exFit (by decide)) (fun _ => exLive 4 (by decide)) (by decide)) ?_
    rintro u h' ⟨T6, rfl, ys6, rfl, hy6⟩
    rw [exFin1] at hy6 ⊢
    obtain ⟨ja6, pa6, rfl, hc1, hc2⟩ := yardR_cells hy6
    refine sV (vM rfl) (sV (v_extract rfl rfl) (sV (v_extract rfl rfl) (st_stoW rfl rfl sz27 rfl (by simp [hc1, hc2]) ?_)))
    refine sV (vA rfl) (sN (nK [2, 3, 11, 12, 13, 14, 15] rfl (nT (cS (cR (sV (v_ldn rfl ld27 rfl rds_pt) ?_))))))
    refine st_clr rfl rfl en24 rfl (Ended_ct hy6 (exLZ1.fit (by decide))) ?_
    rw [exEnd]
    refine sV (vM rfl) (sV (v_extract rfl rfl) (sV (v_extract rfl rfl) (sV (vA rfl) (sV (vA rfl) (sN (nK [2, 3, 11, 12, 13, 14, 15, 16, 17] rfl (nT (cS (cR (sV (v_ldn rfl ld27 rfl rds_pt) ?_))))))))))
    refine st_cl rfl rfl en38 rfl (Orders_ct hy6 (exLZ1.fit (by decide))) ?_
    rintro u h' ⟨T7, rfl, v7, rfl, hr7⟩
    rw [exOrd] at hr7 ⊢
    obtain ⟨o7, c7, rfl, _⟩ := id hr7
    refine sV (vM rfl) (sV (v_extract rfl rfl) (sV (v_extract rfl rfl) (sV (vA rfl) (sV (vA rfl) (sN (nK [2, 3, 11, 12, 13, 14, 15, 16, 17, 18, 19] rfl (nT (cS (cR (sV (v_ldn rfl ld27 rfl rds_pt) ?_))))))))))
    refine st_cl rfl rfl en26 rfl (Blocks_ct hy6 (exLZ1.fit (by decide)) 1) ?_
    rintro u h' ⟨T8, rfl, v8, rfl, hr8⟩
    rw [exBlk1] at hr8 ⊢
    obtain ⟨o8, c8, rfl, _⟩ := id hr8
    refine sV (vM rfl) (sV (v_extract rfl rfl) (sV (v_extract rfl rfl) (sV (vA rfl) (sV (vA rfl) (sN (nK [2, 3, 11, 12, 13, 14, 15, 16, 17, 18, 19, 20, 21] rfl (nT (cS (cS (cR (sV (vM rfl) (sV (v_neq rfl rfl) (sV (vM rfl) (st_vg rfl rfl (vM rfl) (st_vg rfl rfl (v_neq rfl rfl) ?_)))))))))))))))
    refine sV (vP rfl rfl) (sV (vM rfl) (st_vg rfl rfl (vM rfl) (st_vg rfl rfl (v_neq rfl rfl) (sV (vP rfl rfl) (sV (vM rfl) (st_vg rfl rfl (vM rfl) (st_vg rfl rfl (v_neq rfl rfl) (sV (vP rfl rfl) (sV (vM rfl) (st_vg rfl rfl (vM rfl) (st_vg rfl rfl (v_neq rfl rfl) (sV (vP rfl rfl) (sV (vM rfl) ?_)))))))))))))
    refine st_vg rfl rfl (vM rfl) (st_vg rfl rfl (v_neq rfl rfl) (sV (vP rfl rfl) (sV (vM rfl) (st_vg rfl rfl (vM rfl) (st_vg rfl rfl (v_neq rfl rfl) (sV (vP rfl rfl) (sV (vM rfl) (st_vg rfl rfl (vM rfl) (st_vg rfl rfl (v_neq rfl rfl) (sV (vP rfl rfl) (sV (vM rfl) (st_vg rfl rfl (vM rfl) (st_vg rfl rfl (v_neq rfl rfl) ?_)))))))))))))
    refine sV (vP rfl rfl) (sV (vM rfl) (st_vg rfl rfl (vM rfl) (st_vg rfl rfl (v_not rfl) (sV (vP rfl rfl) (sV (vM rfl) (st_vg rfl rfl (vM rfl) (st_vg rfl rfl (v_len rfl Tryz.underlying92) (st_vg rfl rfl (v_neq rfl rfl) (sV (vP rfl rfl) (sV (vM rfl) (st_vg rfl rfl (vM rfl) (st_vg rfl rfl (v_len rfl Tryz.underlying54) (st_vg rfl rfl (v_neq rfl rfl) ?_)))))))))))))
    refine sV (vP rfl rfl) (sN (nK [2, 18, 20, 172] rfl (nT (cd_false rfl ?_))))
    refine cK (xT (cS (cR (sV (vM rfl) ?_))))
    obtain ⟨ob, oo, oc, ou, hov, hrdo, ov, hou, hO⟩ := hr7.at1 (i := 1) (x := [(0, 1)]) rfl
    simp only [List.cons.injEq, and_true] at hou
    subst hou
    obtain ⟨ob2, oo2, oc2, ou2, hov2, hrdo2, ov2, hou2, hO2⟩ := hr7.at1 (i := 0) (x := [(0, 0)]) rfl
    simp only [List.cons.injEq, and_true] at hou2
    subst hou2
    obtain ⟨bb, bo, bc, bu, hbv, hrdb, bv, hbu, hB⟩ := hr8.at1 (i := 0) (x := [((0, 1), 1, false, false), ((0, 1), 2, false, false)]) rfl
    simp only [List.cons.injEq, and_true] at hbu
    subst hbu
    refine sV (v_indexAddr (k := 1) (congrArg some hov) rfl sl92 rfl (by decide) rfl) ?_
    refine sV (v_ldy rfl ld74) ?_
    refine sV (v_build (cells := kC (0, 1)) rfl (fun _ => by kernel_rfl)) ?_
    refine st_buildSlice (cells := kC (0, 1)) rfl Tryz.underlying74 inf79 rfl rfl (by kernel_rfl) (ltn rfl) fun b177 => ?_
    refine st_cl rfl rfl en42 rfl (reads_star (same42_ct (S := Res.star [T7, pt b177 (cl (kC (0, 1)) 79)]) (l := [(0, 1)]) (l' := [(0, 1)]) (hO.mono (rd_in .here) fun _ _ _ h => h) (pt_rowS (.tail _ (.head _)) rfl (by simp [kC]) rfl (by decide)) (by decide))) ?_
    rintro u h' ⟨rfl, rfl⟩
    refine sV (vM rfl) (st_vg rfl rfl (vM rfl) (st_vg rfl rfl (v_indexAddr (k := 0) (congrArg some hov2) rfl sl92 rfl (by decide) rfl) ?_))
    refine st_vg rfl rfl (v_ldy rfl ld74) ?_
    refine st_vg rfl rfl (v_build (cells := kC (0, 0)) rfl (fun _ => by kernel_rfl)) ?_
    refine st_grd rfl rfl (st_buildSlice (cells := kC (0, 0)) rfl Tryz.underlying74 inf79 rfl rfl (by kernel_rfl) (ltn rfl) fun b184 => ?_)
    refine st_grd rfl rfl (st_cl rfl rfl en42 rfl (reads_star (same42_ct (S := Res.star [T7, pt b184 (cl (kC (0, 0)) 79)]) (l := [(0, 0)]) (l' := [(0, 0)]) (hO2.mono (rd_in .here) fun _ _ _ h => h) (pt_rowS (.tail _ (.head _)) rfl (by simp [kC]) rfl (by decide)) (by decide))) ?_)
    rintro u h' ⟨rfl, rfl⟩
    refine sV (v_pick_true rfl rfl) (sV (vM rfl) (st_vg rfl rfl (vM rfl) (st_vg rfl rfl (v_indexAddr (k := 0) (congrArg some hbv) rfl sl54 rfl (by decide) rfl) ?_)))
    refine st_vg rfl rfl (v_ldy rfl ld62) ?_
    refine st_vg rfl rfl (v_build (cells := kC (0, 1)) rfl (fun _ => by kernel_rfl)) ?_
    refine st_vg rfl rfl (v_build (cells := dC ((0, 1), 1, false, false)) rfl (fun _ => by kernel_rfl)) ?_
    refine st_vg rfl rfl (v_build (cells := kC (0, 1)) rfl (fun _ => by kernel_rfl)) ?_
    refine st_vg rfl rfl (v_build (cells := dC ((0, 1), 2, false, false)) rfl (fun _ => by kernel_rfl)) ?_
    refine st_grd rfl rfl (st_buildSlice (cells := dC ((0, 1), 1, false, false) ++ dC ((0, 1), 2, false, false)) rfl Tryz.underlying62 inf81 rfl rfl (by kernel_rfl) (ltn rfl) fun b195 => ?_)
    refine st_grd rfl rfl (st_cl rfl rfl en29 rfl (reads_star (same29_ct (S := Res.star [T8, pt b195 (cl (dC ((0, 1), 1, false, false) ++ dC ((0, 1), 2, false, false)) 81)]) (l := [((0, 1), 1, false, false), ((0, 1), 2, false, false)]) (l' := [((0, 1), 1, false, false), ((0, 1), 2, false, false)]) (hB.mono (rd_in .here) fun _ _ _ h => h) (pt_rowS (.tail _ (.head _)) rfl (by simp [dC]) rfl (by decide)) (by decide))) ?_)
    rintro u h' ⟨rfl, rfl⟩
    refine sV (v_pick_true rfl rfl) (sV (vA rfl) (sN (nK [2, 22] rfl (nT (cS (cR (st_clr rfl rfl en53 rfl (mspawn_ct 1 1) ?_)))))))
    refine st_clr rfl rfl en53 rfl (mspawn_ct 2 2) ?_
    refine st_buildSlice (cells := mC (5, 1, 1) ++ mC (5, 2, 2)) rfl Tryz.underlying108 inf110 rfl rfl (by kernel_rfl) (ltn rfl) fun b201 => ?_
    refine st_clr rfl rfl en48 rfl (menter_ct 2) ?_
    refine st_clr rfl rfl en50 rfl (mask_ct 2 3) ?_
    refine st_clr rfl rfl en51 rfl (mleave_ct ()) ?_
    refine st_buildSlice (cells := mC (1, 2, 0) ++ mC (4, 2, 3) ++ mC (2, 0, 0)) rfl Tryz.underlying108 inf110 rfl rfl (by kernel_rfl) (ltn rfl) fun b205 => ?_
    refine st_clr rfl rfl en48 rfl (menter_ct 1) ?_
    refine st_clr rfl rfl en50 rfl (mask_ct 1 3) ?_
    refine st_clr rfl rfl en51 rfl (mleave_ct ()) ?_
    refine st_buildSlice (cells := mC (1, 1, 0) ++ mC (4, 1, 3) ++ mC (2, 0, 0)) rfl Tryz.underlying108 inf110 rfl rfl (by kernel_rfl) (ltn rfl) fun b209 => ?_
    refine st_bs0 Tryz.underlying108 inf110 fun b210 => ?_
    refine st_buildSlice (cells := [.slice (some ⟨b201, 0, none⟩) 2 2, .slice (some ⟨b205, 0, none⟩) 3 3, .slice (some ⟨b209, 0, none⟩) 3 3, .slice (some ⟨b210, 0, none⟩) 0 0]) rfl Tryz.underlying22 inf108 rfl rfl (by kernel_rfl) (ltn rfl) fun b211 => ?_
    refine st_pv (pv_pack (L := [pt b201 (cl (mC (5, 1, 1) ++ mC (5, 2, 2)) 110), pt b205 (cl (mC (1, 2, 0) ++ mC (4, 2, 3) ++ mC (2, 0, 0)) 110), pt b209 (cl (mC (1, 1, 0) ++ mC (4, 1, 3) ++ mC (2, 0, 0)) 110), pt b211 (cl [.slice (some ⟨b201, 0, none⟩) 2 2, .slice (some ⟨b205, 0, none⟩) 3 3, .slice (some ⟨b209, 0, none⟩) 3 3, .slice (some ⟨b210, 0, none⟩) 0 0] 108)])) ?_
    have hJ2 : Row (Res.star [pt b201 (cl (mC (5, 1, 1) ++ mC (5, 2, 2)) 110), pt b205 (cl (mC (1, 2, 0) ++ mC (4, 2, 3) ++ mC (2, 0, 0)) 110), pt b209 (cl (mC (1, 1, 0) ++ mC (4, 1, 3) ++ mC (2, 0, 0)) 110), pt b211 (cl [.slice (some ⟨b201, 0, none⟩) 2 2, .slice (some ⟨b205, 0, none⟩) 3 3, .slice (some ⟨b209, 0, none⟩) 3 3, .slice (some ⟨b210, 0, none⟩) 0 0] 108)]) 1 (jobR _) (.slice (some ⟨b211, 0, none⟩) 4 4) exJ2 :=
      jobs_row (vs := [.slice (some ⟨b201, 0, none⟩) 2 2, .slice (some ⟨b205, 0, none⟩) 3 3, .slice (some ⟨b209, 0, none⟩) 3 3, .slice (some ⟨b210, 0, none⟩) 0 0]) (rd_ptm (T := 108) (.tail _ (.tail _ (.tail _ (.head _))))) rfl rfl (by decide) (List.forall_mem_cons.2 ⟨row_ptm (.head _) rfl rfl (by decide), List.forall_mem_cons.2 ⟨row_ptm (.tail _ (.head _)) rfl rfl (by decide), List.forall_mem_cons.2 ⟨row_ptm (.tail _ (.tail _ (.head _))) rfl rfl (by decide), List.forall_mem_cons.2 ⟨row_empty, fun _ h => nomatch h⟩⟩⟩⟩)
    refine st_cl rfl rfl en14 rfl (new_ct hJ2 exFits2 (by unfold I64; decide)) ?_
    rintro u h' ⟨T9, rfl, ys9, rfl, hy9⟩
    rw [ex_chk.2.1]
    rw [exN2] at hy9
    obtain ⟨ja9, pa9, rfl, hc1, hc2⟩ := yardR_cells hy9
    refine sV (vM rfl) (sV (v_extract rfl rfl) (sV (v_extract rfl rfl) (st_stoW rfl rfl sz27 rfl (by simp [hc1, hc2]) ?_)))
    refine sV (vA rfl) (sN (nK [2, 22, 23] rfl (nT (cS (cR (sV (v_ldn rfl ld27 rfl rds_pt) ?_))))))
    refine st_cl rfl rfl en52 rfl (Finish_ct (steps := 100) hy9 ((Live.new (n := 3) (jobs := exJ2) ex_chk.2.1).fit (by decide)) (fun _ => Live.new (n := 3) (jobs := exJ2) ex_chk.2.1) (by decide)) ?_
    rintro u h' ⟨T10, rfl, ys10, rfl, hy10⟩
    rw [exFin2] at hy10 ⊢
    obtain ⟨ja10, pa10, rfl, hc1, hc2⟩ := yardR_cells hy10
    refine sV (vM rfl) (sV (v_extract rfl rfl) (sV (v_extract rfl rfl) (st_stoW rfl rfl sz27 rfl (by simp [hc1, hc2]) ?_)))
    refine sV (vA rfl) (sN (nK [2, 22, 23, 24] rfl (nT (cS (cR (sV (v_ldn rfl ld27 rfl rds_pt) ?_))))))
    refine st_cl rfl rfl en32 rfl (Ring_ct hy10 (exLZ2.fit (by decide))) ?_
    rintro u h' ⟨T11, rfl, v11, rfl, hT11⟩
    subst hT11
    rw [exRing]
    refine sV (vM rfl) (sV (v_extract rfl rfl) (sV (v_extract rfl rfl) (sV (v_extract rfl rfl) (sV (vA rfl) (sV (vA rfl) (sV (vA rfl) (sN (nK [22, 23, 24, 25, 26, 27] rfl (nT (cS (cR (st_clr rfl rfl en48 rfl (menter_ct 1) ?_))))))))))))
    refine st_clr rfl rfl en49 rfl (mput_ct 1 1) ?_
    refine st_clr rfl rfl en49 rfl (mput_ct 1 2) ?_
    refine st_clr rfl rfl en50 rfl (mask_ct 1 2) ?_
    refine st_clr rfl rfl en51 rfl (mleave_ct ()) ?_
    refine st_buildSlice (cells := mC (1, 1, 0) ++ mC (3, 1, 1) ++ mC (3, 1, 2) ++ mC (4, 1, 2) ++ mC (2, 0, 0)) rfl Tryz.underlying108 inf110 rfl rfl (by kernel_rfl) (ltn rfl) fun b232 => ?_
    refine sV (v_build (cells := mC (6, 0, 0)) rfl (fun _ => by kernel_rfl)) ?_
    refine st_buildSlice (cells := mC (6, 0, 0)) rfl Tryz.underlying108 inf110 rfl rfl (by kernel_rfl) (ltn rfl) fun b234 => ?_
    refine st_bs0 Tryz.underlying108 inf110 fun b235 => ?_
    refine st_buildSlice (cells := [.slice (some ⟨b232, 0, none⟩) 5 5, .slice (some ⟨b234, 0, none⟩) 1 1, .slice (some ⟨b235, 0, none⟩) 0 0]) rfl Tryz.underlying22 inf108 rfl rfl (by kernel_rfl) (ltn rfl) fun b236 => ?_
    refine st_pv (pv_pack (L := [pt b232 (cl (mC (1, 1, 0) ++ mC (3, 1, 1) ++ mC (3, 1, 2) ++ mC (4, 1, 2) ++ mC (2, 0, 0)) 110), pt b234 (cl (mC (6, 0, 0)) 110), pt b236 (cl [.slice (some ⟨b232, 0, none⟩) 5 5, .slice (some ⟨b234, 0, none⟩) 1 1, .slice (some ⟨b235, 0, none⟩) 0 0] 108)])) ?_
    have hJ3 : Row (Res.star [pt b232 (cl (mC (1, 1, 0) ++ mC (3, 1, 1) ++ mC (3, 1, 2) ++ mC (4, 1, 2) ++ mC (2, 0, 0)) 110), pt b234 (cl (mC (6, 0, 0)) 110), pt b236 (cl [.slice (some ⟨b232, 0, none⟩) 5 5, .slice (some ⟨b234, 0, none⟩) 1 1, .slice (some ⟨b235, 0, none⟩) 0 0] 108)]) 1 (jobR _) (.slice (some ⟨b236, 0, none⟩) 3 3) exJ3 :=
      jobs_row (vs := [.slice (some ⟨b232, 0, none⟩) 5 5, .slice (some ⟨b234, 0, none⟩) 1 1, .slice (some ⟨b235, 0, none⟩) 0 0]) (rd_ptm (T := 108) (.tail _ (.tail _ (.head _)))) rfl rfl (by decide) (List.forall_mem_cons.2 ⟨row_ptm (.head _) rfl rfl (by decide), List.forall_mem_cons.2 ⟨row_ptm (.tail _ (.head _)) rfl rfl (by decide), List.forall_mem_cons.2 ⟨row_empty, fun _ h => nomatch h⟩⟩⟩)
    refine st_cl rfl rfl en14 rfl (new_ct hJ3 exFits3 (by unfold I64; decide)) ?_
    rintro u h' ⟨T12, rfl, ys12, rfl, hy12⟩
    rw [ex_chk.2.2]
    rw [exN3] at hy12
    obtain ⟨ja12, pa12, rfl, hc1, hc2⟩ := yardR_cells hy12
    refine sV (vM rfl) (sV (v_extract rfl rfl) (sV (v_extract rfl rfl) (st_alc al27 fun b28 => ?_)))
    refine st_stoW rfl rfl sz27 rfl (by simp [hc1, hc2]) ?_
    refine sV (vA rfl) (sN (nK [22, 23, 24, 25, 26, 27, 28, 29] rfl (nT (cS (cR (sV (v_ldn rfl ld27 rfl rds_pt) ?_))))))
    refine st_cl rfl rfl en52 rfl (Finish_ct (steps := 100) hy12 ((Live.new (n := 2) (jobs := exJ3) ex_chk.2.2).fit (by decide)) (fun _ => Live.new (n := 2) (jobs := exJ3) ex_chk.2.2) (by decide)) ?_
    rintro u h' ⟨T13, rfl, ys13, rfl, hy13⟩
    rw [exFin3] at hy13 ⊢
    obtain ⟨ja13, pa13, rfl, hc1, hc2⟩ := yardR_cells hy13
    refine sV (vM rfl) (sV (v_extract rfl rfl) (sV (v_extract rfl rfl) (st_stoW rfl rfl sz27 rfl (by simp [hc1, hc2]) ?_)))
    refine sV (vA rfl) (sN (nK [22, 23, 24, 25, 26, 27, 28, 29, 30] rfl (nT (cS (cR (sV (v_ldn rfl ld27 rfl rds_pt) ?_))))))
    refine st_cl rfl rfl en26 rfl (Blocks_ct hy13 (exLZ3.fit (by decide)) 1) ?_
    rintro u h' ⟨T14, rfl, v14, rfl, hr14⟩
    rw [exBlk3] at hr14 ⊢
    obtain ⟨o14, c14, rfl, _⟩ := id hr14
    refine sV (vM rfl) (sV (v_extract rfl rfl) (sV (v_extract rfl rfl) (sV (vA rfl) (sV (vA rfl) (sN (nK [22, 23, 24, 25, 26, 27, 29, 30, 31, 32] rfl (nT (cS (cS (cR (sV (vM rfl) (sV (v_neq rfl rfl) (sV (vM rfl) (st_vg rfl rfl (vM rfl) (st_vg rfl rfl (v_neq rfl rfl) ?_)))))))))))))))
    refine sV (vP rfl rfl) (sV (vM rfl) (st_vg rfl rfl (vM rfl) (st_vg rfl rfl (v_neq rfl rfl) (sV (vP rfl rfl) (sV (vM rfl) (st_vg rfl rfl (vM rfl) (st_vg rfl rfl (v_neq rfl rfl) (sV (vP rfl rfl) (sV (vM rfl) (st_vg rfl rfl (vM rfl) (st_vg rfl rfl (v_neq rfl rfl) (sV (vP rfl rfl) (sV (vM rfl) ?_)))))))))))))
    refine st_vg rfl rfl (vM rfl) (st_vg rfl rfl (v_neq rfl rfl) (sV (vP rfl rfl) (sV (vM rfl) (st_vg rfl rfl (vM rfl) (st_vg rfl rfl (v_not rfl) (sV (vP rfl rfl) (sV (vM rfl) (st_vg rfl rfl (vM rfl) (st_vg rfl rfl (v_len rfl Tryz.underlying54) (st_vg rfl rfl (v_neq rfl rfl) (sV (vP rfl rfl) (sN (nK [22, 25, 31, 280] rfl (nT (cd_false rfl ?_)))))))))))))))
    refine cK (xT (cS (cR (sV (vM rfl) (sV (vM rfl) (st_vg rfl rfl (vM rfl) (st_grd rfl rfl (st_buildSlice (cells := [.int .i64 1, .int .i64 2]) rfl Tryz.underlying43 inf3 rfl rfl (by kernel_rfl) (ltn rfl) fun b284 => ?_))))))))
    refine st_ok (r := VR v11 3 1 ([1, 2].map iC)) (by repeat (first | exact Sel.here | apply Sel.there)) fun hk11 => ?_
    refine st_grd rfl rfl (st_cl rfl rfl en28 rfl (reads_star (same28_ct (S := Res.star [VR v11 3 1 ([1, 2].map iC), pt b284 (cl [.int .i64 1, .int .i64 2] 3)]) (l := [1, 2]) (l' := [1, 2]) (vr_rowS (.head _) hk11) (pt_rowS (.tail _ (.head _)) rfl (by simp [iC]) rfl (by decide)) (by decide))) ?_)
    rintro u h' ⟨rfl, rfl⟩
    refine sV (v_pick_true rfl rfl) (sV (vM rfl) (st_vg rfl rfl (vM rfl) ?_))
    obtain ⟨bb3, bo3, bc3, bu3, hbv3, hrdb3, bv3, hbu3, hB3⟩ := hr14.at1 (i := 0) (x := [((0, 1), 1, false, true), ((0, 1), 2, true, false), ((0, 1), 2, true, false)]) rfl
    simp only [List.cons.injEq, and_true] at hbu3
    subst hbu3
    refine st_vg rfl rfl (v_indexAddr (k := 0) (congrArg some hbv3) rfl sl54 rfl (by decide) rfl) ?_
    refine st_vg rfl rfl (v_ldy rfl ld62) ?_
    refine st_vg rfl rfl (v_build (cells := kC (0, 1)) rfl (fun _ => by kernel_rfl)) ?_
    refine st_vg rfl rfl (v_build (cells := dC ((0, 1), 1, false, true)) rfl (fun _ => by kernel_rfl)) ?_
    refine st_vg rfl rfl (v_build (cells := kC (0, 1)) rfl (fun _ => by kernel_rfl)) ?_
    refine st_vg rfl rfl (v_build (cells := dC ((0, 1), 2, true, false)) rfl (fun _ => by kernel_rfl)) ?_
    refine st_vg rfl rfl (v_build (cells := kC (0, 1)) rfl (fun _ => by kernel_rfl)) ?_
    refine st_vg rfl rfl (v_build (cells := dC ((0, 1), 2, true, false)) rfl (fun _ => by kernel_rfl)) ?_
    refine st_grd rfl rfl (st_buildSlice (cells := dC ((0, 1), 1, false, true) ++ dC ((0, 1), 2, true, false) ++ dC ((0, 1), 2, true, false)) rfl Tryz.underlying62 inf81 rfl rfl (by kernel_rfl) (ltn rfl) fun b297 => ?_)
    refine st_grd rfl rfl (st_cl rfl rfl en29 rfl (reads_star (same29_ct (S := Res.star [T14, pt b297 (cl (dC ((0, 1), 1, false, true) ++ dC ((0, 1), 2, true, false) ++ dC ((0, 1), 2, true, false)) 81)]) (l := [((0, 1), 1, false, true), ((0, 1), 2, true, false), ((0, 1), 2, true, false)]) (l' := [((0, 1), 1, false, true), ((0, 1), 2, true, false), ((0, 1), 2, true, false)]) (hB3.mono (rd_in .here) fun _ _ _ h => h) (pt_rowS (.tail _ (.head _)) rfl (by simp [dC]) rfl (by decide)) (by decide))) ?_)
    rintro u h' ⟨rfl, rfl⟩
    refine sV (v_pick_true rfl rfl) (sV (vA rfl) (sN (nK [0] rfl (nT (cT ?_)))))
    exact xt_rt rfl ⟨rfl, rfl⟩
end Go.Wt
namespace Go.Wt
/-! ## Runs -/
inductive HYard.Go : Nat → HYard → HYard → Prop
  | nil (h : HYard) : HYard.Go 0 h h
  | cons {m i : Nat} {h g : HYard} : i < h.procs.length → (h.pr i).goes = true → (h.step i).now.full = false → HYard.Go m (h.step i) g → HYard.Go (m + 1) h g
def Kept (P : HYard → Prop) : Prop := ∀ h i, HInv h → P h → i < h.procs.length → (h.pr i).goes = true → P (h.step i)
theorem HYard.Go.keep {P : HYard → Prop} (hP : Kept P) : ∀ {m : Nat} {h g : HYard}, HYard.Go m h g → HInv h → P h → HInv g ∧ P g ∧ g.procs.length = h.procs.length ∧ g.jobs = h.jobs
  | _, _, _, .nil _, H, p => ⟨H, p, rfl, rfl⟩
  | _, h, _, .cons (i := i) hi hg _ hr, H, p => by
    obtain ⟨a, b, c, d⟩ := HYard.Go.keep hP hr (H.step hi hg) (hP h i H p hi hg)
    exact ⟨a, b, c.trans HYard.step_len, d.trans (by unfold HYard.step; exact HYard.aps_jobs)⟩
theorem HYard.Go.full {m : Nat} {h g : HYard} (r : HYard.Go m h g) (h0 : h.now.full = false) : g.now.full = false := by
  induction r with
  | nil => exact h0
  | cons _ _ hf _ ih => exact ih hf
theorem HYard.Go.keys {t m : Nat} {h g : HYard} (r : HYard.Go m h g) : HInv h → t < h.procs.length → (h.pr t).hl.map HLine.key <+: (g.pr t).hl.map HLine.key := by
  induction r with
  | nil => exact fun _ _ => List.prefix_refl _
  | @cons m i h g hi hg _ hr ih =>
    intro H ht
    have := ih (H.step hi hg) (by rw [HYard.step_len]; exact ht)
    rw [H.step_keys hi hg ht] at this
    exact (List.prefix_append _ _).trans this
theorem HYard.Go.run {o : Nat → List Key} {m : Nat} {h g : HYard} (r : HYard.Go m h g) : HInv h → (∀ t, t < h.procs.length → o t = (g.pr t).hl.map HLine.key) → HYard.Run o m h g := by
  induction r with
  | nil => exact fun _ _ => .nil _
  | @cons m i h g hi hg hf hr ih =>
    intro H ho
    refine .cons ⟨hi, hg, fun t ht => ?_⟩ (ih (H.step hi hg) fun t ht => ho t (by rw [HYard.step_len] at ht; exact ht))
    have htl := H.tgt_lt hi ht
    have hk := HYard.Go.keys hr (t := t) (H.step hi hg) (by rw [HYard.step_len]; exact htl)
    rw [H.step_keys hi hg htl, if_pos ht, ← ho t htl] at hk
    obtain ⟨r, hr⟩ := hk
    rw [← hr]
    simp
/-! ## A yard's own step -/
theorem now_goes (h : HYard) (i : Nat) : (h.now.pr i).goes = (h.pr i).goes := by rw [HYard.now_pr]; rfl
theorem now_ready (h : HYard) : h.now.ready = (List.range h.procs.length).filter fun i => (h.pr i).goes := by
  unfold Yard.ready
  rw [HYard.now_len]
  congr 1
  funext i
  exact now_goes h i
theorem mem_ready {h : HYard} {i : Nat} : i ∈ h.now.ready ↔ i < h.procs.length ∧ (h.pr i).goes = true := by
  rw [now_ready, List.mem_filter, List.mem_range]
def Reach (P : HYard → Prop) (y : Yard) : Prop := ∃ h : HYard, HInv h ∧ P h ∧ h.now = y ∧ y.full = false
/-! ## Replays -/
/-! ## What is played -/
def upick (p : Int) (k : Nat) : Nat := (p % 18446744073709551616).toNat % k
def grownAll (y z : Yard) : List Logd := (List.range z.procs.length).flatMap fun t => (grownE y z t).map fun x => (t, x)
def playI (y : Yard) : List Int → Nat
  | [] => y.ready.getD 0 0
  | p :: _ => y.ready.getD (upick p y.ready.length) 0
def playE : Nat → List Int → Yard → List Logd → Option (Yard × List Logd)
  | 0, _, _, _ => none
  | f + 1, picks, y, log =>
    if y.ready = [] then some (y, log)
    else
      let z := y.stepE (playI y picks)
      if z.2 = 0 then playE f picks.tail z.1 (log ++ grownAll y z.1) else none
end Go.Wt
namespace Go.Ck
open Go Go.RowKit Go.ChangeShapes Go.WideShapes
theorem cells_one {v : Value} (h : v.oneCell' = true) : v.cells.toList = [v] := by
  cases v <;> first | rfl | (simp [Value.oneCell'] at h)
theorem arg_one {H : Type} {enc : TypeId × Value → H} {P : Program} {W : World} {ty : Ty} {t : TypeId} {v : Value} {d : DataW H} {ps : List MemPlace} {b : Nat} (hf : fitB P ty t = true)
    (hs : (match P.underlying t with | some (.struct _) | some (.array _ _) => false | some _ => true | none => false) = true) (hv : Value.okWide P W .any b t v) (h : DataW.Trod enc P W 0 (fun _ => true) true t v d ps) : ∃ y, Rep (old W) ty [v] y := by
  have := arg_rep hf h
  rwa [cells_one (okWide_one hs hv)] at this
theorem rep_kind {k : IntKind} {r : Res} {v : Value} {n : Int} (h : Rep r (.int k) [v] n) : v = .int k n ∧ (Lit.int k n).wf = true := by
  simp only [Rep] at h
  exact ⟨by simpa using h.1, h.2⟩
theorem wf_I64 {n : Int} (h : (Lit.int .i64 n).wf = true) : I64 n := by
  unfold Lit.wf at h
  simp [IntKind.min, IntKind.max, IntKind.signed, IntKind.bits] at h
  unfold I64; omega
theorem row_of {α : Type} {r : Res} {t : Ty} {v : Value} (f : t.D → α) (X : List Value → α → Prop) (hX : ∀ us x, Rep r t us x → X us (f x)) {y : (Ty.slice t).D} (h : Rep r (.slice t) [v] y) : Row r t.sz X v ((show List t.D from y).map f) := by
  unfold Rep at h
  obtain ⟨a, cap, h1, hl, hm, hn, h2⟩ := h
  refine ⟨a, cap, by rw [List.length_map]; exact (List.cons.inj h1).1, by rw [List.length_map]; exact hl, hm, hn, fun i x hi => ?_⟩
  rw [List.getElem?_map] at hi
  cases hy : (show List t.D from y)[i]? with
  | none => rw [hy] at hi; cases hi
  | some z =>
    rw [hy] at hi
    obtain rfl := Option.some.inj hi
    rcases h2 with h0 | ⟨b, o, h3, h4⟩
    · rw [show (show List t.D from y) = [] from h0] at hy; simp at hy
    · obtain ⟨us, h5, h6, h7⟩ := h4 i z hy
      exact ⟨b, o, us, h3, h5, h6, hX _ _ h7⟩
theorem row_all {r : Res} {t : Ty} {v : Value} {φ : t.D → Prop} (hX : ∀ us x, Rep r t us x → φ x) {y : (Ty.slice t).D} (h : Rep r (.slice t) [v] y) : ∀ x ∈ (show List t.D from y), φ x := fun x hx => by
  unfold Rep at h
  obtain ⟨a, cap, h1, hl, hm, hn, h2⟩ := h
  obtain ⟨i, hi⟩ := List.getElem?_of_mem hx
  rcases h2 with h0 | ⟨b, o, h3, h4⟩
  · rw [show (show List t.D from y) = [] from h0] at hi; simp at hi
  · obtain ⟨us, h5, h6, h7⟩ := h4 i x hi
    exact hX _ _ h7
theorem one_cell {us : List Value} (h : us.length = 1) : ∃ u, us = [u] := by
  match us, h with
  | [u], _ => exact ⟨u, rfl⟩
end Go.Ck
namespace Go.Wt
open Go Go.RowKit Go.ChangeShapes Go.WideShapes Go.Ck
def moveTy : Ty := .struct [.int .i64, .int .i64, .int .i64]
def moveOf (x : moveTy.D) : Move := (x.1, x.2.1, x.2.2.1)
theorem move_of {r : Res} {us : List Value} {x : moveTy.D} (h : Rep r moveTy us x) : eqC mC us (moveOf x) := by
  obtain ⟨x1, x2, x3, x4⟩ := x
  simp only [moveTy, Rep, Reps] at h
  obtain ⟨u1, us1, e1, l1, r1, u2, us2, e2, l2, r2, u3, us3, e3, l3, r3, r4⟩ := h
  obtain ⟨rfl, _⟩ := r1
  obtain ⟨rfl, _⟩ := r2
  obtain ⟨rfl, _⟩ := r3
  subst r4 e3 e2
  exact e1
def keyTy : Ty := .struct [.int .i64, .int .i64]
def keyOf (x : keyTy.D) : Key := (x.1, x.2.1)
theorem key_of {r : Res} {us : List Value} {x : keyTy.D} (h : Rep r keyTy us x) : eqC kC us (keyOf x) := by
  obtain ⟨x1, x2, x3⟩ := x
  simp only [keyTy, Rep, Reps] at h
  obtain ⟨u1, us1, e1, l1, r1, u2, us2, e2, l2, r2, r4⟩ := h
  obtain ⟨rfl, _⟩ := r1
  obtain ⟨rfl, _⟩ := r2
  subst r4 e2
  exact e1
def askTy : Ty := .struct [.int .i64, .bool]
def askOf (x : askTy.D) : Ask := (x.1, x.2.1)
theorem ask_of {r : Res} {us : List Value} {x : askTy.D} (h : Rep r askTy us x) : eqC aC us (askOf x) := by
  obtain ⟨x1, x2, x3⟩ := x
  simp only [askTy, Rep, Reps] at h
  obtain ⟨u1, us1, e1, l1, r1, u2, us2, e2, l2, r2, r4⟩ := h
  obtain ⟨rfl, _⟩ := r1
  subst r2 r4 e2
  exact e1
def holdTy : Ty := .struct [.int .i64, keyTy, .bool]
def holdOf (x : holdTy.D) : Hold := (x.1, keyOf x.2.1, x.2.2.1)
theorem hold_of {r : Res} {us : List Value} {x : holdTy.D} (h : Rep r holdTy us x) : eqC holdC us (holdOf x) := by
  obtain ⟨x1, x2, x3, x4⟩ := x
  simp only [holdTy, Rep, Reps] at h
  obtain ⟨u1, us1, e1, l1, r1, u2, us2, e2, l2, r2, u3, us3, e3, l3, r3, r4⟩ := h
  obtain ⟨rfl, _⟩ := r1
  have hk : u2 = kC (keyOf x2) := key_of r2
  subst r3 r4 e3 hk e2
  exact e1
def didTy : Ty := .struct [keyTy, .int .i64, .bool, .bool]
def didOf (x : didTy.D) : Did := (keyOf x.1, x.2.1, x.2.2.1, x.2.2.2.1)
theorem did_of {r : Res} {us : List Value} {x : didTy.D} (h : Rep r didTy us x) : eqC dC us (didOf x) := by
  obtain ⟨x1, x2, x3, x4, x5⟩ := x
  simp only [didTy, Rep, Reps] at h
  obtain ⟨u1, us1, e1, l1, r1, u2, us2, e2, l2, r2, u3, us3, e3, l3, r3, u4, us4, e4, l4, r4, r5⟩ := h
  have hk : u1 = kC (keyOf x1) := key_of r1
  obtain ⟨rfl, _⟩ := r2
  subst r3 r4 r5 e4 e3 hk e2
  exact e1
def lineTy : Ty := .struct [keyTy, .slice askTy, .bool, .bool]
def lineOf (x : lineTy.D) : Line := ⟨keyOf x.1, (show List askTy.D from x.2.1).map askOf, x.2.2.1, x.2.2.2.1⟩
theorem line_of {r : Res} {us : List Value} {x : lineTy.D} (h : Rep r lineTy us x) : lineR r us (lineOf x) := by
  obtain ⟨x1, x2, x3, x4, x5⟩ := x
  simp only [lineTy, Rep, Reps] at h
  obtain ⟨u1, us1, e1, l1, r1, u2, us2, e2, l2, r2, u3, us3, e3, l3, r3, u4, us4, e4, l4, r4, r5⟩ := h
  have hk : u1 = kC (keyOf x1) := key_of r1
  obtain ⟨a, rfl⟩ := one_cell l2
  have hr : Rep r (.slice askTy) [a] x2 := by simp only [askTy, Rep]; exact r2
  subst r3 r4 r5 e4 e3 hk e2
  exact ⟨a, e1, row_of askOf (eqC aC) (fun _ _ h => ask_of h) hr⟩
def procTy : Ty := .struct [.slice lineTy, .slice keyTy, .int .i64, .int .i64, .bool, .slice holdTy, .int .i64, .int .i64, .slice didTy]
def procOf (x : procTy.D) : Proc := ⟨(show List lineTy.D from x.1).map lineOf, (show List keyTy.D from x.2.1).map keyOf, x.2.2.1, x.2.2.2.1, x.2.2.2.2.1, (show List holdTy.D from x.2.2.2.2.2.1).map holdOf, x.2.2.2.2.2.2.1, x.2.2.2.2.2.2.2.1, (show List didTy.D from x.2.2.2.2.2.2.2.2.1).map didOf⟩
theorem proc_of {r : Res} {us : List Value} {x : procTy.D} (h : Rep r procTy us x) : procR r us (procOf x) := by
  obtain ⟨x1, x2, x3, x4, x5, x6, x7, x8, x9, x10⟩ := x
  simp only [procTy, Rep, Reps] at h
  obtain ⟨u1, us1, e1, l1, r1, h⟩ := h
  obtain ⟨u2, us2, e2, l2, r2, h⟩ := h
  obtain ⟨u3, us3, e3, l3, r3, h⟩ := h
  obtain ⟨u4, us4, e4, l4, r4, h⟩ := h
  obtain ⟨u5, us5, e5, l5, r5, h⟩ := h
  obtain ⟨u6, us6, e6, l6, r6, h⟩ := h
  obtain ⟨u7, us7, e7, l7, r7, h⟩ := h
  obtain ⟨u8, us8, e8, l8, r8, h⟩ := h
  obtain ⟨u9, us9, e9, l9, r9, h⟩ := h
  obtain ⟨a1, rfl⟩ := one_cell l1
  obtain ⟨a2, rfl⟩ := one_cell l2
  obtain ⟨a6, rfl⟩ := one_cell l6
  obtain ⟨a9, rfl⟩ := one_cell l9
  have s1 : Rep r (.slice lineTy) [a1] x1 := by simp only [Rep]; exact r1
  have s2 : Rep r (.slice keyTy) [a2] x2 := by simp only [Rep]; exact r2
  have s6 : Rep r (.slice holdTy) [a6] x6 := by simp only [Rep]; exact r6
  have s9 : Rep r (.slice didTy) [a9] x9 := by simp only [Rep]; exact r9
  have r3 := r3.1
  have r4 := r4.1
  have r7 := r7.1
  have r8 := r8.1
  subst h r3 r4 r5 r7 r8 e9 e8 e7 e6 e5 e4 e3 e2
  exact ⟨a1, a2, a6, a9, e1, row_of lineOf (lineR r) (fun _ _ h => line_of h) s1, row_of keyOf (eqC kC) (fun _ _ h => key_of h) s2, row_of holdOf (eqC holdC) (fun _ _ h => hold_of h) s6, row_of didOf (eqC dC) (fun _ _ h => did_of h) s9⟩
def jobTy : Ty := .slice moveTy
def jobOf (x : jobTy.D) : List Move := (show List moveTy.D from x).map moveOf
theorem job_of {r : Res} {us : List Value} {x : jobTy.D} (hl : us.length = 1) (h : Rep r jobTy us x) : jobR r us (jobOf x) := by
  obtain ⟨a, rfl⟩ := one_cell hl
  exact ⟨a, rfl, row_of moveOf (eqC mC) (fun _ _ h => move_of h) h⟩
theorem rep_len {r : Res} {t : Ty} {us : List Value} {x : (Ty.slice t).D} (h : Rep r (.slice t) us x) : us.length = 1 := by
  unfold Rep at h
  obtain ⟨a, cap, h1, _⟩ := h
  rw [h1]; rfl
def jobsOf (y : (Ty.slice jobTy).D) : List (List Move) := (show List jobTy.D from y).map jobOf
theorem jobs_of {r : Res} {v : Value} {y : (Ty.slice jobTy).D} (h : Rep r (.slice jobTy) [v] y) : Row r 1 (jobR r) v (jobsOf y) := row_of jobOf (jobR r) (fun us x h => job_of (rep_len (t := moveTy) h) h) h
def yardTy : Ty := .struct [.slice jobTy, .slice procTy]
def yardOf (x : yardTy.D) : Yard := ⟨jobsOf x.1, (show List procTy.D from x.2.1).map procOf⟩
theorem yard_of {r : Res} {us : List Value} {x : yardTy.D} (h : Rep r yardTy us x) : yardR r us (yardOf x) := by
  obtain ⟨x1, x2, x3⟩ := x
  simp only [yardTy, Rep, Reps] at h
  obtain ⟨u1, us1, e1, l1, r1, h⟩ := h
  obtain ⟨u2, us2, e2, l2, r2, h⟩ := h
  obtain ⟨a1, rfl⟩ := one_cell l1
  obtain ⟨a2, rfl⟩ := one_cell l2
  have s1 : Rep r (.slice jobTy) [a1] x1 := by simp only [Rep]; exact r1
  have s2 : Rep r (.slice procTy) [a2] x2 := by simp only [Rep]; exact r2
  subst h e2
  exact ⟨a1, a2, e1, jobs_of s1, row_of procOf (procR r) (fun _ _ h => proc_of h) s2⟩
def intsTy : Ty := .slice (.int .i64)
theorem ints_of {r : Res} {v : Value} {y : intsTy.D} (h : Rep r intsTy [v] y) : Row r 1 (eqC iC) v (show List Int from y) ∧ ∀ x ∈ (show List Int from y), I64 x := by
  refine ⟨?_, row_all (t := .int .i64) (φ := fun x => I64 x) (fun us x h => wf_I64 h.2) h⟩
  have := row_of (t := .int .i64) (fun x => (x : Int)) (eqC iC) (fun us x h => by simp only [Rep] at h; exact h.1) h
  rw [List.map_id'] at this
  exact this
def keysOf (y : (Ty.slice (.slice keyTy)).D) : List (List Key) := (show List (Ty.slice keyTy).D from y).map fun l => (show List keyTy.D from l).map keyOf
def itemTy : Ty := .struct [.int .u8, .int .u8, .int .u8]
def itemOf (x : itemTy.D) : Item := ((show Int from x.1).toNat, (show Int from x.2.1).toNat, (show Int from x.2.2.1).toNat)
def itemC (x : Item) : List Value := [.int .u8 x.1, .int .u8 x.2.1, .int .u8 x.2.2]
end Go.Wt
namespace Go.Wt
open Go Go.Ck Go.Proofs Go.Proofs.YtboepbencndobaaGreat Fx
attribute [local irreducible] St Cd Xt Nx DrL LsW
def fewE (jobs : List (List Move)) : Bool :=
  (jobs.all fun l => !((decide (10 < (l.length : Int)) && decide ((l.length : Int) ≤ 20)) || decide (40 < (l.length : Int)))) && (decide ((jobs.length : Int) ≤ 8) || (decide (30 < (jobs.length : Int)) && decide ((jobs.length : Int) ≤ 40)))
theorem few_fits {jobs : List (List Move)} (h : fewE jobs = true) : jobs.length ≤ 40 ∧ ∀ l ∈ jobs, l.length ≤ 40 := by
  unfold fewE at h
  simp only [Bool.and_eq_true, Bool.or_eq_true, decide_eq_true_eq, List.all_eq_true, Bool.not_eq_true', Bool.or_eq_false_iff, decide_eq_false_iff_not] at h
  exact ⟨by omega, fun l hl => by have := (h.1 l hl).2; omega⟩
theorem few_Fits {jobs : List (List Move)} (h : fewE jobs = true) : Fits jobs := ⟨by have := (few_fits h).1; omega, fun l hl => by have := (few_fits h).2 l hl; omega⟩
section
variable {S : Res}
set_option maxRecDepth 100000 in
theorem few_ct {jv : Value} {jobs : List (List Move)} (hj : Row S 1 (jobR S) jv jobs) : Reads Tryz.prog 12 #[jv] [S] (.bool (fewE jobs)) := by
  obtain ⟨a, cap, hv1, _⟩ := id hj
  have hlen : (jobs.length : Int) ≤ 9223372036854775807 := by have := hj.lenle; unfold maxLen at this; omega
  refine ct_of (n := 45) Tryz.func12 rfl rfl (len rfl) fun hr w0 => ?_
  refine cS (cR (sV (vA rfl) (sN (nT (cS (cS (cR (sV (vA rfl) (sN (nT (cd_block (cd_lp (σ := Nat) (fun i => [(0, jv), (3, .int .i64 (i : Nat))]) (fun _ => S :: hr) (fun i => i ≤ jobs.length ∧ ∀ (j : Nat) l, j < i → jobs[j]? = some l → ((decide (10 < (l.length : Int)) && decide ((l.length : Int) ≤ 20)) || decide (40 < (l.length : Int))) = false) (fun i => jobs.length - i) 0 ⟨Nat.zero_le _, fun j l hj => by omega⟩ ?_))))))))))))
  rintro i ⟨hi, hne⟩
  refine cS (cS (cR (sV (vM rfl) (sV (vM rfl) (sV (v_len (congrArg some hv1) Tryz.underlying22) (sV (v_lss rfl rfl) (sN (nK [0, 3, 7] rfl (nT (cC rfl (fun hd => ?_) (fun hd => ?_)))))))))))
  · skip
    have hlt : i < jobs.length := by simpa using hd
    obtain ⟨b, o, cp2, u, hv2, hrd, v, hu, hA⟩ := hj.at1 (List.getElem?_eq_getElem hlt)
    simp only [List.cons.injEq, and_true] at hu
    subst hu
    obtain ⟨aa, ac, rfl, _⟩ := id hA
    have hget : jobs[i]? = some jobs[i] := List.getElem?_eq_getElem hlt
    generalize hx : jobs[i] = x at *
    refine cK (xT (cS (cd_block (cS (cR (sV (vM rfl) (sV (vM rfl) (sV (v_indexAddr (k := i) (congrArg some hv2) rfl sl22 rfl hlt rfl) (sV (v_ldy rfl ld108) ?_)))))))))
    refine sV (v_len rfl Tryz.underlying108) (sV (v_gtr rfl rfl) (sV (vM rfl) (st_cut (k := 14) (d := 23) (v := .bool (decide (10 < (x.length : Int)) && decide ((x.length : Int) ≤ 20))) (fun hcut => bool_want (b := decide (10 < (x.length : Int))) true (fun hg => ?_) (fun hg => ?_)) ?_)))
    · refine st_sk rfl rfl hg ?_
      refine st_sk rfl rfl hg ?_
      refine st_sk rfl rfl hg ?_
      refine st_sk rfl rfl hg ?_
      refine st_sk rfl rfl hg ?_
      refine st_sk rfl rfl hg ?_
      refine sV (vP (bool_ev rfl hg) rfl) ?_
      exact hcut _ (ssub_head (by first | rfl | (rw [hg]; rfl) | simp_all) (uS rfl (uS rfl (uS rfl (uS rfl (uS rfl (uS rfl (ssub_refl))))))))
    · skip
      refine st_vg rfl (bG rfl hg) (vM rfl) (st_vg rfl (bG rfl hg) (vM rfl) (st_vg rfl (bG rfl hg) (v_indexAddr (k := i) (congrArg some hv2) rfl sl22 rfl hlt rfl) (st_vg rfl (bG rfl hg) (v_ldy rfl ld108) ?_)))
      refine st_vg rfl (bG rfl hg) (v_len rfl Tryz.underlying108) (st_vg rfl (bG rfl hg) (v_leq rfl rfl) (sV (v_pick_true (bool_ev rfl hg) rfl) ?_))
      exact hcut _ (ssub_head (by first | rfl | (rw [hg]; rfl) | simp_all) (uS rfl (uS rfl (uS rfl (uS rfl (uS rfl (uS rfl (ssub_refl))))))))
    refine sV (vM rfl) (st_cut (k := 22) (d := 31) (v := .bool ((decide (10 < (x.length : Int)) && decide ((x.length : Int) ≤ 20)) || decide (40 < (x.length : Int)))) (fun hcut => bool_want (b := (decide (10 < (x.length : Int)) && decide ((x.length : Int) ≤ 20))) false (fun hg => ?_) (fun hg => ?_)) ?_)
    · refine st_sk rfl rfl hg ?_
      refine st_sk rfl rfl hg ?_
      refine st_sk rfl rfl hg ?_
      refine st_sk rfl rfl hg ?_
      refine st_sk rfl rfl hg ?_
      refine st_sk rfl rfl hg ?_
      refine sV (v_pick_true (bool_ev rfl hg) rfl) ?_
      exact hcut _ (ssub_head (by first | rfl | (rw [hg]; rfl) | simp_all) (uS rfl (uS rfl (uS rfl (uS rfl (uS rfl (uS rfl (ssub_refl))))))))
    · skip
      refine st_vg rfl (bG rfl hg) (vM rfl) (st_vg rfl (bG rfl hg) (vM rfl) (st_vg rfl (bG rfl hg) (v_indexAddr (k := i) (congrArg some hv2) rfl sl22 rfl hlt rfl) (st_vg rfl (bG rfl hg) (v_ldy rfl ld108) ?_)))
      refine st_vg rfl (bG rfl hg) (v_len rfl Tryz.underlying108) (st_vg rfl (bG rfl hg) (v_gtr rfl rfl) (sV (vP (bool_ev rfl hg) rfl) ?_))
      exact hcut _ (ssub_head (by first | rfl | (rw [hg]; rfl) | simp_all) (uS rfl (uS rfl (uS rfl (uS rfl (uS rfl (uS rfl (ssub_refl))))))))
    refine sN (nK [0, 3, 31] rfl (nT (cC rfl (fun hq => ?_) (fun hq => ?_))))
    · skip
      refine cS (cR (sV (vA rfl) (sN (nK [0, 2, 3] rfl (nT (cT (xt_ret_block (xR (xR (xt_ret_block (xR ?_)))))))))))
      have hf : fewE jobs = false := by
        unfold fewE
        rw [Bool.and_eq_false_iff]
        left
        rw [List.all_eq_false]
        exact ⟨x, List.mem_of_getElem? hget, by simp [hq]⟩
      rw [hf]
      exact xt_rt rfl ⟨rfl, rfl⟩
    · skip
      refine cK (xB (xT (cR (sV (vM rfl) (sV (v_add rfl rfl (by unfold I64 at *; omega)) (sV (vA rfl) (sN (nK [0, 3] rfl (nx_xt (xt_ag (i + 1) ⟨hlt, fun j l hj hl => ?_⟩ (by show _ - _ < _ - _; omega)))))))))))
      by_cases hji : j = i
      · subst hji; rw [hget] at hl; cases hl; exact hq
      · exact hne j l (by omega) hl
  · skip
    refine cd_exit (xE (xE (xt_exit_block (xT (cS (cR (sV (vM rfl) (sV (v_len (congrArg some hv1) Tryz.underlying22) (sV (v_leq rfl rfl) (sV (vM rfl) ?_))))))))))
    have hin : i = jobs.length := by have : ¬ i < jobs.length := by simpa using hd
                                     omega
    have hall : (jobs.all fun l => !((decide (10 < (l.length : Int)) && decide ((l.length : Int) ≤ 20)) || decide (40 < (l.length : Int)))) = true := by
      rw [List.all_eq_true]
      intro l hl
      obtain ⟨j, hj⟩ := List.getElem?_of_mem hl
      rw [hne j l (by have := (List.getElem?_eq_some_iff.1 hj).1; omega) hj]; rfl
    unfold fewE
    rw [hall, Bool.true_and]
    refine st_cut (k := 13) (d := 44) (v := .bool (decide ((jobs.length : Int) ≤ 8) || (decide (30 < (jobs.length : Int)) && decide ((jobs.length : Int) ≤ 40)))) (fun hcut => bool_want (b := decide ((jobs.length : Int) ≤ 8)) false (fun hg => ?_) (fun hg => ?_)) ?_
    · refine st_sk rfl rfl hg ?_
      refine st_sk rfl rfl hg ?_
      refine st_sk rfl rfl hg ?_
      refine st_sk rfl rfl hg ?_
      refine st_sku rfl rfl ?_
      refine st_sku rfl rfl ?_
      refine st_sku rfl rfl ?_
      refine st_sk rfl rfl hg ?_
      refine sV (v_pick_true (bool_ev rfl hg) rfl) ?_
      exact hcut _ (ssub_head (by first | rfl | (rw [hg]; rfl) | simp_all) (uS rfl (uS rfl (uS rfl (uS rfl (uS rfl (uS rfl (uS rfl (uS rfl (ssub_refl))))))))))
    · skip
      refine st_vg rfl (bG rfl hg) (vM rfl) (st_vg rfl (bG rfl hg) (v_len (congrArg some hv1) Tryz.underlying22) (st_vg rfl (bG rfl hg) (v_gtr rfl rfl) (st_vg rfl (bG rfl hg) (vM rfl) (st_cut (k := 12) (d := 43) (v := .bool (decide (30 < (jobs.length : Int)) && decide ((jobs.length : Int) ≤ 40))) (fun hcut => bool_want (b := decide (30 < (jobs.length : Int))) true (fun hg1 => ?_) (fun hg1 => ?_)) ?_))))
      · refine st_sk rfl rfl hg1 ?_
        refine st_sk rfl rfl hg1 ?_
        refine st_sk rfl rfl hg1 ?_
        refine st_vg rfl (bG rfl hg) (vP (bool_ev rfl hg1) rfl) ?_
        exact hcut _ (ssub_head (by first | rfl | (rw [hg1]; rfl) | simp_all) (uS rfl (uS rfl (uS rfl (ssub_refl)))))
      · skip
        refine st_vg rfl (bG rfl hg1) (vM rfl) (st_vg rfl (bG rfl hg1) (v_len (congrArg some hv1) Tryz.underlying22) (st_vg rfl (bG rfl hg1) (v_leq rfl rfl) (st_vg rfl (bG rfl hg) (v_pick_true (bool_ev rfl hg1) rfl) ?_)))
        exact hcut _ (ssub_head (by first | rfl | (rw [hg1]; rfl) | simp_all) (uS rfl (uS rfl (uS rfl (ssub_refl)))))
      refine sV (vP (bool_ev rfl hg) rfl) ?_
      exact hcut _ (ssub_head (by first | rfl | (rw [hg]; rfl) | simp_all) (by repeat (first | exact ssub_refl | refine uS rfl ?_)))
    refine sV (vA rfl) (sN (nK [2] rfl (nT (cT ?_))))
    exact xt_rt rfl ⟨rfl, rfl⟩
end
end Go.Wt
namespace Go.Wt
open Go Go.Ck Go.Proofs Go.Proofs.YtboepbencndobaaGreat Fx
attribute [local irreducible] St Cd Xt Nx DrL LsW
def gC (x : Logd) : List Value := [.int .i64 x.1, .int .i64 x.2.1.1, .int .i64 x.2.1.2, .int .i64 x.2.2]
def growL (yl : List Line) (l : Line) : Option (Key × Int) := if wasIn yl l.key < l.asks.length then some (l.key, (l.asks.getLastD (0, false)).1) else none
section
variable {S : Res}
end
end Go.Wt
namespace Go.Ck
open Go Go.RowKit
section
variable {P : Program} {e : Env} {h : SH} {ty : TypeId}
end
end Go.Ck
namespace Go.Wt
open Go Go.Ck Go.Proofs Go.Proofs.YtboepbencndobaaGreat Fx
attribute [local irreducible] St Cd Xt Nx DrL LsW
def playedE (jobs : List (List Move)) (n : Nat) (picks : List Int) : Option (Yard × List Logd) := if check jobs n = 0 then playE 400 picks (Yard.new jobs n) [(0, (0, 0), 0)] else none
def logT (log : List Logd) (y z : Yard) (t : Nat) : List Logd := log ++ (List.range t).flatMap fun t => (grownE y z t).map fun x => (t, x)
section
variable {Q : Exit → Act → World → Prop} {w0 : World} {hr : SH}
end
end Go.Wt
namespace Go.Wt
open Go Go.Ck Go.Proofs Go.Proofs.YtboepbencndobaaGreat Fx
attribute [local irreducible] Go.Ck.Sub St Cd Xt Nx DrL LsW
section
variable {S : Res}
end
end Go.Wt
namespace Go.Wt
open Go Go.Ck
def spN (s : Int) : Nat := 1 + s.toNat % 6
abbrev Any : HYard → Prop := fun _ => True
end Go.Wt
