/-
  The laws: grown. Conditions: what is read, that lists are not too long.
  The laws: played. Conditions: what is read, that lists are not too long.
  The laws: played. Conditions: what is read, that lists are not too long.
  The plain laws, as the walks of the laws use them. No condition.
-/
import Derived.Test.YtboepbencndobaaGreatM12
import Derived.Test.YtboepbencndobaaGreatM2
import Derived.Test.YtboepbencndobaaGreatM8
set_option linter.unusedVariables false
set_option linter.unusedSimpArgs false
namespace Go.Wt
open Go Go.Ck Go.Proofs Go.Proofs.YtboepbencndobaaGreat Fx
attribute [local irreducible] St Cd Xt Nx DrL LsW
def gC (x : Logd) : List Value := [.int .i64 x.1, .int .i64 x.2.1.1, .int .i64 x.2.1.2, .int .i64 x.2.2]
def growL (yl : List Line) (l : Line) : Option (Key × Int) := if wasIn yl l.key < l.asks.length then some (l.key, (l.asks.getLastD (0, false)).1) else none
theorem growL_eq {y z : Yard} {t : Nat} : grownE y z t = (z.pr t).lines.filterMap (growL (y.pr t).lines) := rfl
section
variable {S : Res}
set_option maxHeartbeats 1000000 in
set_option maxRecDepth 100000 in
theorem grown_ct {ys zs : List Value} {y z : Yard} {t : Nat} (hy : yardR S ys y) (hz : yardR S zs z) (ht : t < y.procs.length) (ht' : t < z.procs.length) (hfy : (y.pr t).lines.length ≤ 1000000) (hfz : (z.pr t).lines.length ≤ 1000000) (hfa : ∀ l ∈ (z.pr t).lines, l.asks.length ≤ 1000000) (hfb : ∀ l ∈ (y.pr t).lines, l.asks.length ≤ 1000000) :
    CtN Tryz.prog 78 #[.agg ys.toArray, .agg zs.toArray, .int .i64 t] [S] fun u T => T = VR u 87 4 ((grownE y z t).map fun x => gC (t, x)) ∧ u.oneCell' = true := by
  obtain ⟨jv, pv, rfl, hj, hp⟩ := id hy
  obtain ⟨jv', pv', rfl, hj', hp'⟩ := id hz
  obtain ⟨b, off, cp2, us, rfl, hus, hrd, lv, pv1, hv, dv, rfl, hL, hP, hH, hD⟩ := hp.at (List.getElem?_eq_getElem ht)
  obtain ⟨b', off', cp2', us', rfl, hus', hrd', lv', pv1', hv', dv', rfl, hL', hP', hH', hD'⟩ := hp'.at (List.getElem?_eq_getElem ht')
  rw [← pr_get ht] at hL hrd
  rw [← pr_get ht'] at hL' hrd'
  rw [growL_eq]
  generalize y.pr t = p at *
  generalize z.pr t = q at *
  obtain ⟨al, cl', hlv, _⟩ := id hL
  obtain ⟨al2, cl2, hlv2, _⟩ := id hL'
  subst hlv hlv2
  have hpl := hp.lenle
  have hpl' := hp'.lenle
  unfold maxLen at hpl hpl'
  refine ct_of (n := 67) Tryz.func78 rfl rfl (len rfl) fun hr w0 => ?_
  refine cS (cR (st_bx rfl rfl fun b3 => ?_))
  refine st_bx rfl rfl fun b4 => ?_
  refine sV (vA rfl) (sN (nK [2, 3, 4, 6] rfl (nT (cS (cR (sV (vA rfl) (sN (nT (cS (cS (cR (sV (vF rfl fa27_1 rfl) (sV (v_ldy rfl ld25) ?_)))))))))))))
  refine sV (vM rfl) (sV (v_indexAddr (k := t) rfl rfl sl25 rfl ht' rfl) (sV (vF rfl fa77_0 rfl) (sV (v_ldy rfl ld73) ?_)))
  refine sV (v_len rfl Tryz.underlying73) (sV (vM rfl) (sN (nK [2, 3, 6, 7, 18, 19, 20] rfl (nT (cd_block (cd_vw (vw_nil 87 4) (cd_lp (σ := Nat × Value) (fun s => [(2, .int .i64 (t : Nat)), (3, .pointer (some ⟨b3, 0, none⟩)), (7, s.2), (18, .slice al2 q.lines.length cl2), (19, .int .i64 q.lines.length), (20, .int .i64 (s.1 : Nat))]) (fun s => VR s.2 87 4 (((q.lines.take s.1).filterMap (growL p.lines)).map fun x => gC (t, x)) :: pt b3 (cl [jv, .slice (some ⟨b, off, none⟩) y.procs.length cp2] 27) :: S :: hr) (fun s => s.1 ≤ q.lines.length ∧ s.2.oneCell' = true) (fun s => q.lines.length - s.1) (0, .slice none 0 0) ⟨Nat.zero_le _, rfl⟩ ?_)))))))
  rintro ⟨j, v⟩ ⟨hj0, hv1⟩
  simp only at hj0 hv1
  refine cS (cR (sV (v_lss rfl rfl) (sN (nT (cS (cC rfl (fun hd => ?_) (fun hd => ?_)))))))
  · skip
    have hlt : j < q.lines.length := by simpa using hd
    obtain ⟨c1, c2, c3, cus, hcv, hcus, hcrd, av, rfl, hA⟩ := hL'.at (List.getElem?_eq_getElem hlt)
    obtain ⟨aa, ac, hav, _⟩ := id hA
    subst hav
    have hasl := hfa _ (List.getElem_mem hlt)
    have hstep : (q.lines.take (j + 1)).filterMap (growL p.lines) = (q.lines.take j).filterMap (growL p.lines) ++ (growL p.lines q.lines[j]).toList := by
      rw [List.take_succ_eq_append_getElem hlt, List.filterMap_append]
      cases h : growL p.lines q.lines[j] with
      | none => simp [h]
      | some x => simp [h]
    have hglen : ((q.lines.take j).filterMap (growL p.lines)).length ≤ 1000000 := by
      have h1 := List.length_filterMap_le (growL p.lines) (q.lines.take j)
      rw [List.length_take] at h1
      omega
    generalize hqj : q.lines[j] = l at *
    obtain ⟨xk, xa, xc, xb⟩ := l
    simp only at hasl hA
    refine cK (xT (cS (cd_block (cS (cR (sV (v_indexAddr (k := j) (congrArg some hcv) rfl sl73 rfl hlt rfl) (sV (v_ldn rfl ld120 hcus hcrd) ?_)))))))
    refine st_alc al120 fun b9 => ?_
    refine st_stoW rfl rfl sz120 rfl rfl ?_
    refine sN (nK [2, 3, 7, 9, 18, 19, 20] rfl (nT (cS (cR (sV (vA rfl) (sN (nT (cS (cS (cR (sV (vF rfl fa27_1 rfl) (sV (v_ldy rfl ld25) ?_))))))))))))
    refine sV (vM rfl) (sV (v_indexAddr (k := t) rfl rfl sl25 rfl ht rfl) (sV (vF rfl fa77_0 rfl) (sV (v_ldy rfl ld73) ?_)))
    refine sV (v_len rfl Tryz.underlying73) (sV (vM rfl) (sN (nK [2, 3, 7, 9, 10, 18, 19, 20, 29, 30, 31] rfl (nT (cd_block (cd_lp (σ := Nat × Nat) (fun s => [(2, .int .i64 (t : Nat)), (3, .pointer (some ⟨b3, 0, none⟩)), (7, v), (9, .pointer (some ⟨b9, 0, none⟩)), (10, .int .i64 (s.2 : Nat)), (18, .slice al2 q.lines.length cl2), (19, .int .i64 q.lines.length), (20, .int .i64 (j : Nat)), (29, .slice al p.lines.length cl'), (30, .int .i64 p.lines.length), (31, .int .i64 (s.1 : Nat))]) (fun _ => pt b9 (cl (lC (.slice aa xa.length ac) ⟨xk, xa, xc, xb⟩) 120) :: VR v 87 4 (((q.lines.take j).filterMap (growL p.lines)).map fun x => gC (t, x)) :: pt b3 (cl [jv, .slice (some ⟨b, off, none⟩) y.procs.length cp2] 27) :: S :: hr) (fun s => s.1 ≤ p.lines.length ∧ s.2 = (p.lines.take s.1).foldl (fun w l => if l.key = xk then l.asks.length else w) 0) (fun s => p.lines.length - s.1) (0, 0) ⟨Nat.zero_le _, rfl⟩ ?_))))))
    rintro ⟨k, w⟩ ⟨hk0, hw⟩
    simp only at hk0 hw
    refine cS (cR (sV (v_lss rfl rfl) (sN (nT (cS (cC rfl (fun he => ?_) (fun he => ?_)))))))
    · skip
      have hkt : k < p.lines.length := by simpa using he
      obtain ⟨d1, d2, d3, dus, hdv, hdus, hdrd, av2, rfl, hA2⟩ := hL.at (List.getElem?_eq_getElem hkt)
      obtain ⟨aa2, ac2, hav2, _⟩ := id hA2
      subst hav2
      have hasl2 := hfb _ (List.getElem_mem hkt)
      have hfold : (p.lines.take (k + 1)).foldl (fun w l => if l.key = xk then l.asks.length else w) 0 = if (p.lines[k]).key = xk then (p.lines[k]).asks.length else w := by
        rw [List.take_succ_eq_append_getElem hkt, List.foldl_append, ← hw]; rfl
      generalize p.lines[k] = m at *
      obtain ⟨mk, ma, mc, mb⟩ := m
      simp only at hasl2 hA2 hfold
      refine cK (xT (cS (cd_block (cS (cR (sV (v_indexAddr (k := k) (congrArg some hdv) rfl sl73 rfl hkt rfl) (sV (v_ldn rfl ld120 hdus hdrd) ?_)))))))
      refine st_alc al120 fun b12 => ?_
      refine st_stoW rfl rfl sz120 rfl rfl ?_
      refine sN (nK [2, 3, 7, 9, 10, 12, 18, 19, 20, 29, 30, 31] rfl (nT (cS (cR (sV (vF rfl fa120_0 rfl) (sV (v_ldn (vs := kC mk) rfl ld79 rfl (rds_sub (vs := kC mk) rds_pt rfl)) ?_))))))
      refine sV (vF rfl fa120_0 rfl) (sV (v_ldn (vs := kC xk) rfl ld79 rfl (rds_sub (vs := kC xk) rds_pt rfl)) ?_)
      refine sV (v_eql_T eq79 rfl rfl) (sN (nK [2, 3, 7, 9, 10, 12, 18, 19, 20, 29, 30, 31, 39] rfl (nT (cC rfl (fun hq => ?_) (fun hq => ?_)))))
      · skip
        have hq2 : mk = xk := by simpa using hq
        rw [if_pos hq2] at hfold
        refine cR (sV (vF rfl fa120_1 rfl) (sV (v_ldy rfl ld118) ?_))
        refine sV (v_len rfl Tryz.underlying118) (sV (vA rfl) (sN (nK [2, 3, 7, 9, 10, 18, 19, 20, 29, 30, 31] rfl (nx_xt (xB (xT (cR (sV (v_add rfl rfl (by unfold I64 at *; omega)) (sV (vM rfl) (sN (nK [2, 3, 7, 9, 10, 18, 19, 20, 29, 30, 31] rfl (nx_xt ?_))))))))))))
        refine xt_ag (k + 1, ma.length) ⟨hkt, hfold.symm⟩ (by show _ - _ < _ - _; omega)
      · skip
        have hq2 : ¬ mk = xk := by simpa using hq
        rw [if_neg hq2] at hfold
        refine cK (xB (xT (cR (sV (v_add rfl rfl (by unfold I64 at *; omega)) (sV (vM rfl) (sN (nK [2, 3, 7, 9, 10, 18, 19, 20, 29, 30, 31] rfl (nx_xt ?_))))))))
        refine xt_ag (k + 1, w) ⟨hkt, hfold.symm⟩ (by show _ - _ < _ - _; omega)
    · skip
      refine cd_exit (xE (xE (xt_exit_block (xT (cS (cR (sV (vF rfl fa120_1 rfl) (sV (v_ldy rfl ld118) ?_))))))))
      refine sV (v_len rfl Tryz.underlying118) (sV (vM rfl) (sV (v_gtr rfl rfl) (sN (nK [2, 3, 7, 9, 18, 19, 20, 48] rfl (nT ?_)))))
      have hkp : k = p.lines.length := by have : ¬ k < p.lines.length := by simpa using he
                                          omega
      have hwas : wasIn p.lines xk = w := by rw [hw, hkp, List.take_length]; rfl
      refine cC rfl (fun hgt => ?_) (fun hgt => ?_)
      · skip
        have hgt2 : w < xa.length := by have := of_decide_eq_true hgt; omega
        have hgr : growL p.lines ⟨xk, xa, xc, xb⟩ = some (xk, (xa.getLastD (0, false)).1) := by
          unfold growL
          rw [if_pos (by simpa [hwas] using hgt2)]
        rw [hgr] at hstep
        have hx1 : xa.length - 1 < xa.length := by omega
        obtain ⟨e1, e2, e3, eus, hev, heus, herd, rfl⟩ := hA.at (List.getElem?_eq_getElem hx1)
        have hlast : xa.getLastD (0, false) = xa[xa.length - 1] := by
          rw [List.getLastD_eq_getLast?, List.getLast?_eq_getElem?, List.getElem?_eq_getElem hx1]; rfl
        have hi1 : (xa.length : Int) - 1 = ((xa.length - 1 : Nat) : Int) := by omega
        refine cd_drawh (ork [(0, 2), (1, 2), (2, 2), (3, 1), (4, 2), (5, 1), (6, 2), (7, 1), (8, 2), (9, 2), (10, 2), (11, 2), (12, 1), (13, 2), (14, 0), (15, 0), (16, 2)] .nil) (fun i => !(Nat.beq i 14 || Nat.beq i 15)) mixed (by kernel_rfl) ?_
        refine dV rfl (vM rfl) (dV rfl (vM rfl) (dV rfl (vF rfl fa120_0 rfl) (dr_v rfl (v_ldn (vs := kC xk) rfl ld79 rfl (rds_sub (vs := kC xk) rds_pt rfl)) ?_)))
        refine dV rfl (vF rfl fa120_1 rfl) (dr_v rfl (v_ldy rfl ld118) ?_)
        refine dV rfl (vF rfl fa120_1 rfl) (dr_v rfl (v_ldy rfl ld118) ?_)
        refine dV rfl (v_len rfl Tryz.underlying118) (dV rfl (v_sub rfl rfl (by unfold I64 at *; omega)) (dV rfl (v_indexAddr (k := xa.length - 1) (congrArg some hev) rfl sl118 hi1 hx1 rfl) (dV rfl (vF rfl fa117_0 rfl) (dr_v rfl (v_ldy rfl ld3) ?_))))
        refine dV rfl (v_build (cells := gC (t, xk, xa[xa.length - 1].1)) rfl (fun _ => by kernel_rfl)) ?_
        refine dr_eff rfl (st_buildSlice (cells := gC (t, xk, xa[xa.length - 1].1)) rfl Tryz.underlying70 inf87 rfl rfl (by kernel_rfl) (ltn rfl) fun b63 => dr_nx ?_)
        refine dr_eff rfl (st_app (v := v) [gC (t, xk, xa[xa.length - 1].1)] rfl rfl Tryz.underlying70 inf87 rfl (by decide) (by repeat (first | exact Sel.here | apply Sel.there)) (by simp [gC]) rfl (fun j u2 hu2 => at_here (rd_cl (by simpa using hu2))) (by simp [gC, Value.oneCell']) (by simp; omega) (by simp; omega) (ltn rfl) fun v' hv' _ => dr_nx ?_)
        refine dV rfl (vA rfl) (dr_nil (nK [2, 3, 7, 18, 19, 20] rfl (nx_xt (xB (xT (cR (sV (v_add rfl rfl (by unfold I64 at *; omega)) (sV (vM rfl) (sN (nK [2, 3, 7, 18, 19, 20] rfl (nx_xt (xt_pv (pv_eq (show VR v' 87 4 ((((q.lines.take j).filterMap (growL p.lines)).map fun x => gC (t, x)) ++ [gC (t, xk, xa[xa.length - 1].1)]) = VR v' 87 4 (((q.lines.take (j + 1)).filterMap (growL p.lines)).map fun x => gC (t, x)) by rw [hstep, hlast]; simp)) ?_))))))))))))
        refine xt_ag (j + 1, v') ⟨hlt, hv'⟩ (by show _ - _ < _ - _; omega)
      · skip
        have hgt2 : ¬ w < xa.length := by have := of_decide_eq_false hgt; omega
        have hgr : growL p.lines ⟨xk, xa, xc, xb⟩ = none := by
          unfold growL
          rw [if_neg (by simpa [hwas] using hgt2)]
        rw [hgr] at hstep
        refine cK (xB (xT (cR (sV (v_add rfl rfl (by unfold I64 at *; omega)) (sV (vM rfl) (sN (nK [2, 3, 7, 18, 19, 20] rfl (nx_xt (xt_pv (pv_eq (show VR v 87 4 (((q.lines.take j).filterMap (growL p.lines)).map fun x => gC (t, x)) = VR v 87 4 (((q.lines.take (j + 1)).filterMap (growL p.lines)).map fun x => gC (t, x)) by rw [hstep]; simp)) ?_)))))))))
        refine xt_ag (j + 1, v) ⟨hlt, hv1⟩ (by show _ - _ < _ - _; omega)
  · skip
    refine cd_exit (xE (xE (xt_exit_block (xT (cS (cR (sV (vM rfl) (sV (vA rfl) (sN (nK [6] rfl (nT (cT ?_))))))))))))
    have hjq : j = q.lines.length := by have : ¬ j < q.lines.length := by simpa using hd
                                        omega
    subst hjq
    rw [List.take_length]
    exact xt_rt rfl ⟨_, rfl, rfl, hv1⟩
end
end Go.Wt
namespace Go.Ck
open Go Go.RowKit
section
variable {P : Program} {e : Env} {h : SH} {ty : TypeId}
theorem v_conv {src dst : TypeId} {x : Operand} {q q' k : IntKind} {n m : Int} (hx : e.ev? x = some (.int q n)) (hs : P.underlying src = some (.int q')) (hd : P.underlying dst = some (.int k)) (hw : k.wrap n = m) : Vop P e h (.convert src dst x) ty (.int k m) :=
  ⟨by simp, by simp, fun ρ w d pos after g hρ _ => by
    simp [execOp, hρ x _ hx, Go.convert, Sem.run_bind, run_underlying hs, run_underlying hd, Result.andThen_ok, Conv.intToInt, hw]⟩
theorem v_remu {t t' : TypeId} {x y : Operand} {k : IntKind} {a b : Int} (hx : e.ev? x = some (.int k a)) (hy : e.ev? y = some (.int k b)) (hb : b ≠ 0) : Vop P e h (.binOp .rem t x y t') ty (.int k (a.tmod b)) :=
  ⟨by simp, by simp, fun ρ w d pos after g hρ _ => by
    simp [execOp, hρ x _ hx, hρ y _ hy, eqGuard_rem, binOp_rem, Op.intDiv, hb]⟩
theorem v_append_none {t E : TypeId} {x y : Operand} {z : Value} {sz bytes : Nat} {a : Addr} {n cp : Nat} (hx : e.ev? x = some (.slice (some a) n cp)) (hy : e.ev? y = some (.slice none 0 0)) (hT : P.underlying t = some (.slice E)) (hE : Inf P E z sz bytes) (hn : n ≤ cp) : Vop P e h (.call { callee := .builtin .append, args := #[x, y], argTypes := #[t, t] }) ty (.slice (some a) n cp) :=
  ⟨by simp, by simp, fun ρ w d pos after g hρ _ => by
    obtain ⟨i, hi, hz, hisz, hiby⟩ := hE.parts
    simp [execOp, resolve, invoke, builtin, hρ x _ hx, hρ y _ hy, Builtin.append_, run_underlying hT, sizeOf, typeInfo, hi, Builtin.lenOf, Builtin.firstCells, loadCells, loadCellsFrom, hn, storeCells]⟩
end
end Go.Ck
namespace Go.Wt
open Go Go.Ck Go.Proofs Go.Proofs.YtboepbencndobaaGreat Fx
attribute [local irreducible] St Cd Xt Nx DrL LsW
theorem wrap_u64 (p : Int) : IntKind.u64.wrap p = p % 18446744073709551616 := by
  unfold IntKind.wrap
  simp [IntKind.signed, IntKind.bits]
theorem upick_val {p : Int} {k : Nat} (hk : 0 < k) : (p % 18446744073709551616).tmod (k : Int) = (upick p k : Int) := by
  have h0 : 0 ≤ p % 18446744073709551616 := Int.emod_nonneg p (by decide)
  unfold upick
  obtain ⟨n, hn⟩ := Int.eq_ofNat_of_zero_le h0
  rw [hn, Int.toNat_natCast]
  show ((n : Int)).tmod k = ((n % k : Nat) : Int)
  rw [Int.tmod_eq_emod_of_nonneg (by omega)]
  omega
def playedE (jobs : List (List Move)) (n : Nat) (picks : List Int) : Option (Yard × List Logd) := if check jobs n = 0 then playE 400 picks (Yard.new jobs n) [(0, (0, 0), 0)] else none
theorem play_step (f : Nat) (picks : List Int) (y : Yard) (log : List Logd) : playE (f + 1) picks y log = if y.ready = [] then some (y, log) else if (y.stepE (playI y picks)).2 = 0 then playE f picks.tail (y.stepE (playI y picks)).1 (log ++ grownAll y (y.stepE (playI y picks)).1) else none := rfl
theorem yStep_ready {y : Yard} {M i : Nat} (H : Live y M) (hi : i < y.procs.length) (hg : (y.pr i).goes = true) : yStepE y i = y.stepE i := by
  unfold yStepE
  have h0 : openedE y [(i : Int)] = 0 := by
    unfold openedE
    have hw : ([(i : Int)].all fun n => within n 0 ((y.procs.length : Int) - 1)) = true := by
      simp only [List.all_cons, List.all_nil, Bool.and_true, within_iff]; omega
    rw [if_pos H.right, hw, if_pos rfl]; rfl
  rw [if_pos h0, Int.toNat_natCast, if_pos hg]
theorem grown_len {y z : Yard} {t M : Nat} (H : Live z M) (ht : t < z.procs.length) : (grownE y z t).length ≤ 400 := by
  rw [growL_eq]
  have h1 := List.length_filterMap_le (growL (y.pr t).lines) (z.pr t).lines
  have := (full_false H.nf ht).2.2.1
  omega
def logT (log : List Logd) (y z : Yard) (t : Nat) : List Logd := log ++ (List.range t).flatMap fun t => (grownE y z t).map fun x => (t, x)
theorem logT_zero (log : List Logd) (y z : Yard) : logT log y z 0 = log := List.append_nil _
theorem logT_succ (log : List Logd) (y z : Yard) (t : Nat) : logT log y z (t + 1) = logT log y z t ++ (grownE y z t).map fun x => (t, x) := by
  unfold logT
  rw [List.range_succ, List.flatMap_append, List.append_assoc]; simp
theorem rd_vrf {b o n cp sz : Nat} {E : TypeId} {rows : List (List Value)} {j : Nat} {u : Value} (hs : ∀ r ∈ rows, r.length = sz) (hu : rows.flatten[j]? = some u) : Rd (VR (.slice (some ⟨b, o, none⟩) n cp) E sz rows) ⟨b, o + j, none⟩ u := by
  obtain ⟨m, k, r, rfl, h1, h2⟩ := flatten_inv hs hu
  rw [← Nat.add_assoc]; exact rd_vrk h1 h2
theorem gC_len (t : Nat) (l : List (Key × Int)) : ∀ r ∈ l.map (fun x => gC (t, x)), r.length = 4 := fun r hr => by obtain ⟨x, _, rfl⟩ := List.mem_map.1 hr; rfl
section
variable {Q : Exit → Act → World → Prop} {w0 : World} {hr : SH}
set_option maxHeartbeats 2000000 in
set_option maxRecDepth 100000 in
theorem told_c {T T3 : Res} {y z : Yard} {log : List Logd} {pv v ja1 ja3 : Value} {p1a p3a : Option Addr} {p1c p3c b6 b9 b16 k M M' : Nat} (hL : Live y M) (hLz : Live z M') (hzl : z.procs.length = y.procs.length)
    (hy : yardR T [ja1, .slice p1a y.procs.length p1c] y) (hz : yardR T3 [ja3, .slice p3a z.procs.length p3c] z) (hlp1 : 1 ≤ log.length) (hll : log.length ≤ 10000000) (hv1 : v.oneCell' = true)
    (hcont : ∀ v', v'.oneCell' = true → Xt ⟨Tryz.prog, none, 100, [], w0⟩ .normal Q [(2, pv), (6, .pointer (some ⟨b6, 0, none⟩)), (9, .pointer (some ⟨b9, 0, none⟩)), (11, v'), (12, .int .i64 (k : Nat)), (16, .pointer (some ⟨b16, 0, none⟩))] (VR v' 87 4 ((log ++ grownAll y z).map gC) :: pt b16 (cl [ja3, .slice p3a z.procs.length p3c] 27) :: T3 :: pt b9 (cl [ja1, .slice p1a y.procs.length p1c] 27) :: T :: hr)) :
    Cd ⟨Tryz.prog, none, 100, [], w0⟩ (cdr (cdl (cdr (cdr (cdr (cdr (cdr (cdr (cdr (cdl (cdl (cdr (cdl (cdl (cdr (cdl (cdr (cdr (cdr (cdr (fbody Tryz.f33))))))))))))))))))))) Q [(2, pv), (6, .pointer (some ⟨b6, 0, none⟩)), (9, .pointer (some ⟨b9, 0, none⟩)), (11, v), (12, .int .i64 (k : Nat)), (16, .pointer (some ⟨b16, 0, none⟩)), (87, .int .i64 z.procs.length), (88, .int .i64 0)] (VR v 87 4 (log.map gC) :: pt b16 (cl [ja3, .slice p3a z.procs.length p3c] 27) :: T3 :: pt b9 (cl [ja1, .slice p1a y.procs.length p1c] 27) :: T :: hr) := by
  have hzp := hLz.len_pos
  refine cd_pv (pv_eq (show VR v 87 4 (log.map gC) = VR v 87 4 ((logT log y z 0).map gC) by rw [logT_zero])) ?_
  simp only [List.cons_append, List.nil_append]
  refine cd_block (cd_lp (σ := Nat × Value) (fun s => [(2, pv), (6, .pointer (some ⟨b6, 0, none⟩)), (9, .pointer (some ⟨b9, 0, none⟩)), (11, s.2), (12, .int .i64 (k : Nat)), (16, .pointer (some ⟨b16, 0, none⟩)), (87, .int .i64 z.procs.length), (88, .int .i64 (s.1 : Nat))]) (fun s => VR s.2 87 4 ((logT log y z s.1).map gC) :: pt b16 (cl [ja3, .slice p3a z.procs.length p3c] 27) :: T3 :: pt b9 (cl [ja1, .slice p1a y.procs.length p1c] 27) :: T :: hr) (fun s => s.1 ≤ z.procs.length ∧ 1 ≤ (logT log y z s.1).length ∧ (logT log y z s.1).length ≤ 10000000 + s.1 * 400 ∧ s.2.oneCell' = true) (fun s => z.procs.length - s.1) (0, v) ⟨Nat.zero_le _, by rw [logT_zero]; exact hlp1, by rw [logT_zero]; omega, hv1⟩ ?_)
  rintro ⟨t, v3⟩ ⟨ht, htp, htl, hv3⟩
  simp only at ht htp htl hv3
  dsimp only
  refine cd_row (v := v3) (by repeat (first | exact Sel.here | apply Sel.there)) (fun h0 hr0 => ?_) (fun lb lo lc hle hlc _ => ?_)
  · exfalso
    rw [List.map_eq_nil_iff] at hr0
    rw [hr0] at htp
    simp at htp
  subst hle
  rw [List.length_map] at hlc
  refine cS (cR (sV (v_lss rfl rfl) (sN (nT (cS (cC rfl (fun h4 => ?_) (fun h4 => ?_)))))))
  · skip
    have htz : t < z.procs.length := by have := of_decide_eq_true h4; omega
    have hty : t < y.procs.length := by omega
    have fy := full_false hL.nf hty
    have fz := full_false hLz.nf htz
    have hgl := grown_len (y := y) hLz htz
    have hsucc := logT_succ log y z t
    have hct := grown_ct (S := Res.star [T, T3]) (t := t) (hy.mono (rd_in .here)) (hz.mono (rd_in (.there .here))) hty htz (by omega) (by omega) (fun l hl => by have := fz.2.2.2 l hl; omega) (fun l hl => by have := fy.2.2.2 l hl; omega)
    clear fy fz
    generalize logT log y z t = lt at *
    refine cK (xT (cS (cd_block (cS (cR (sV (vM rfl) (sV (vA rfl) (sN (nK [2, 6, 9, 11, 12, 16, 18, 87, 88] rfl (nT (cR (sV (vM rfl) (sV (v_ldn (vs := [ja1, .slice p1a y.procs.length p1c]) rfl ld27 rfl rds_pt) ?_)))))))))))))
    refine sV (v_ldn (vs := [ja3, .slice p3a z.procs.length p3c]) rfl ld27 rfl rds_pt) ?_
    refine sV (vM rfl) (st_cl rfl rfl en78 rfl (ctn_star hct) ?_)
    rintro u h' ⟨T4, rfl, rfl, hu1⟩
    simp only [List.cons_append, List.nil_append]
    refine st_row (v := u) (by repeat (first | exact Sel.here | apply Sel.there)) (fun h0 hr0 => ?_) (fun ub uo uc hue huc _ => ?_)
    · subst h0
      have hg0 : (grownE y z t).map (fun x => (t, x)) = [] := by
        rw [List.map_eq_nil_iff] at hr0 ⊢; exact hr0
      rw [hg0, List.append_nil] at hsucc
      refine sV (v_append_none rfl rfl Tryz.underlying70 inf87 (by simpa using hlc)) ?_
      refine sV (vA rfl) (sN (nK [2, 6, 9, 11, 12, 16, 87, 88] rfl (nx_xt (xB (xT (cR (sV (v_add rfl rfl (by unfold I64 at *; omega)) (sV (vM rfl) (sN (nK [2, 6, 9, 11, 12, 16, 87, 88] rfl (nx_xt (xt_pv (pv_eq (show VR (.slice (some ⟨lb, lo, none⟩) (lt.map gC).length lc) 87 4 (lt.map gC) = VR (.slice (some ⟨lb, lo, none⟩) (lt.map gC).length lc) 87 4 ((logT log y z (t + 1)).map gC) by rw [hsucc])) ?_))))))))))))
      simp only [List.cons_append, List.nil_append]
      refine xt_ag (t + 1, .slice (some ⟨lb, lo, none⟩) (lt.map gC).length lc) ⟨htz, by rw [hsucc]; exact htp, by rw [hsucc]; omega, rfl⟩ (by show _ - _ < _ - _; omega)
    · skip
      subst hue
      refine st_app (v := .slice (some ⟨lb, lo, none⟩) (lt.map gC).length lc) ((grownE y z t).map fun x => gC (t, x)) rfl rfl Tryz.underlying70 inf87 rfl (by decide) (by repeat (first | exact Sel.here | apply Sel.there)) (fun r hr => by obtain ⟨x, _, rfl⟩ := List.mem_map.1 hr; rfl) rfl (fun j u2 hu2 => at_here (rd_vrf (gC_len t _) hu2)) (fun u2 hu2 => by obtain ⟨r, hr, hur⟩ := List.mem_flatten.1 hu2; obtain ⟨x, _, rfl⟩ := List.mem_map.1 hr; simp [gC] at hur; rcases hur with rfl | rfl | rfl | rfl <;> rfl) (by simp; omega) (by simp; omega) (ltn rfl) fun v' hv' _ => ?_
      refine sV (vA rfl) (sN (nK [2, 6, 9, 11, 12, 16, 87, 88] rfl (nx_xt (xB (xT (cR (sV (v_add rfl rfl (by unfold I64 at *; omega)) (sV (vM rfl) (sN (nK [2, 6, 9, 11, 12, 16, 87, 88] rfl (nx_xt (xt_pv (pv_eq (show VR v' 87 4 (lt.map gC ++ (grownE y z t).map fun x => gC (t, x)) = VR v' 87 4 ((logT log y z (t + 1)).map gC) by rw [hsucc, List.map_append, List.map_map]; rfl)) ?_))))))))))))
      simp only [List.cons_append, List.nil_append]
      refine xt_ag (t + 1, v') ⟨htz, by rw [hsucc, List.length_append]; omega, by rw [hsucc]; simp; omega, hv'⟩ (by show _ - _ < _ - _; omega)
  · skip
    have htz : t = z.procs.length := by have : ¬ ((t : Nat) : Int) < (z.procs.length : Int) := of_decide_eq_false h4
                                        omega
    subst htz
    refine cd_exit (xE (xE (xt_exit_block ?_)))
    exact xt_use (hcont _ rfl)
end
end Go.Wt
namespace Go.Wt
open Go Go.Ck Go.Proofs Go.Proofs.YtboepbencndobaaGreat Fx
attribute [local irreducible] Go.Ck.Sub St Cd Xt Nx DrL LsW
theorem grownAll_len {y z : Yard} {M : Nat} (H : Live z M) : (grownAll y z).length ≤ 4800 := by
  have key : ∀ t, t ≤ z.procs.length → ((List.range t).flatMap fun t => (grownE y z t).map fun x => (t, x)).length ≤ t * 400 := by
    intro t
    induction t with
    | zero => intro _; simp
    | succ t ih =>
      intro ht
      have h1 := ih (by omega)
      have h2 := grown_len (y := y) H (t := t) (by omega)
      rw [List.range_succ, List.flatMap_append, List.length_append]
      simp only [List.flatMap_cons, List.flatMap_nil, List.append_nil, List.length_map]
      omega
  have h1 := key z.procs.length (Nat.le_refl _)
  have := H.len_pos
  unfold grownAll
  omega
section
variable {S : Res}
set_option maxHeartbeats 4000000 in
set_option maxRecDepth 100000 in
theorem played_ct {jv pv : Value} {jobs : List (List Move)} {n : Nat} {picks : List Int} (hj : Row S 1 (jobR S) jv jobs) (hf : Fits jobs) (hn : n ≤ 12) (hpk : Row S 1 (eqC iC) pv picks) (hpl : picks.length ≤ 1000000) (hi64 : ∀ x ∈ picks, I64 x) :
    CtN Tryz.prog 33 #[jv, .int .i64 n, pv] [S] fun u T => match playedE jobs n picks with
      | some (y, log) => ∃ ys v Ty, u = .tuple #[.agg ys.toArray, v, .bool true] ∧ T = Res.star [Ty, VR v 87 4 (log.map gC)] ∧ yardR Ty ys y ∧ v.oneCell' = true
      | none => ∃ ys y, u = .tuple #[.agg ys.toArray, .slice none 0 0, .bool false] ∧ yardR T ys y := by
  obtain ⟨pa, pc, hpv, _⟩ := id hpk
  unfold playedE
  refine ct_of (n := 100) Tryz.func33 rfl rfl (len rfl) fun hr w0 => ?_
  refine cS (cR (st_alc al27 fun b6 => ?_))
  refine sV (vA rfl) (sV (vA rfl) (sN (nT (cS (cR (sV (vM rfl) (sV (vM rfl) (st_cl rfl rfl en14 rfl (new_ct hj hf (by unfold I64; omega)) ?_))))))))
  rintro u h' ⟨T0, rfl, ys0, rfl, hy0⟩
  obtain ⟨ja, pa0, rfl, hc1, hc2⟩ := yardR_cells hy0
  simp only [List.cons_append, List.nil_append]
  refine sV (vM rfl) (sV (v_extract rfl rfl) (sV (v_extract rfl rfl) (st_alc al27 fun b9 => ?_)))
  refine st_stoW rfl rfl sz27 rfl (by simp [hc1, hc2]) ?_
  refine sV (vA rfl) (sN (nK [2, 6, 7, 8, 9, 10] rfl (nT (cS (cS (cR (sV (vM rfl) (sV (v_neq rfl rfl) (sN (nK [2, 6, 7, 8, 9, 26] rfl (nT (cC rfl (fun h1 => ?_) (fun h1 => ?_)))))))))))))
  · skip
    have h1' : check jobs n ≠ 0 := by simpa using h1
    rw [if_neg h1']
    refine cS (cR (sV (v_ldn rfl ld27 rfl rds_pt) ?_))
    refine st_stoW rfl rfl sz27 rfl (by simp [hc1, hc2]) ?_
    refine sV (vA rfl) (sV (vA rfl) (sN (nK [6, 7, 8] rfl (nT (cT (xR (xt_retV (.cellN rfl ld27 rfl (by repeat (first | exact Sel.here | apply Sel.there)) (.tmp rfl (.tmp rfl .nil))) ⟨T0, rfl, _, _, rfl, hy0⟩ ?_)))))))
    refine Sub.sel (by repeat (first | exact Sel.here | apply Sel.there)) ?_
    refine Sub.sel (by repeat (first | exact Sel.here | apply Sel.there)) ?_
    repeat apply Sub.cons
    exact Sub.refl _
  · skip
    have h1' : check jobs n = 0 := by simpa using h1
    rw [if_pos h1']
    have hL0 := Live.new h1'
    have hnew : newY jobs n = Yard.new jobs n := by unfold newY; rw [if_pos h1', Int.toNat_natCast]
    rw [hnew] at hy0
    have hn0 : (Yard.new jobs n).procs.length = n := by simp [Yard.new]
    generalize hyn : Yard.new jobs n = y0 at *
    refine cK (xT (cS (cR (sV (v_build (cells := gC (0, (0, 0), 0)) rfl (fun _ => by kernel_rfl)) ?_))))
    refine st_buildSlice (cells := gC (0, (0, 0), 0)) rfl Tryz.underlying70 inf87 rfl rfl (by kernel_rfl) (ltn rfl) fun b29 => ?_
    refine sV (vA rfl) (sN (nK [2, 6, 7, 8, 9, 11] rfl (nT (cS (cS (cR (sV (vA rfl) (sN (nT (cd_block (cd_pv (pv_of (E := 87) (sz := 4) [gC (0, (0, 0), 0)] rfl (by simp [gC]) rfl (show 1 ≤ maxLen by decide)) ?_)))))))))))
    simp only [List.cons_append, List.nil_append]
    generalize hr0 : playE 400 picks y0 [(0, (0, 0), 0)] = r0
    refine cd_lq (σ := Nat × Yard × List Logd × Value × Value × Res × Value) (fun s => [(2, pv), (6, .pointer (some ⟨b6, 0, none⟩)), (9, .pointer (some ⟨b9, 0, none⟩)), (11, s.2.2.2.2.2.2), (12, .int .i64 (s.1 : Nat))]) (fun s => VR s.2.2.2.2.2.2 87 4 (s.2.2.1.map gC) :: pt b9 (cl [s.2.2.2.1, s.2.2.2.2.1] 27) :: s.2.2.2.2.2.1 :: pt b6 (cl [.slice none 0 0, .slice none 0 0] 27) :: S :: hr) (fun s => s.1 ≤ 400 ∧ Live s.2.1 (1 + s.1) ∧ s.2.1.procs.length = n ∧ yardR s.2.2.2.2.2.1 [s.2.2.2.1, s.2.2.2.2.1] s.2.1 ∧ 1 ≤ s.2.2.1.length ∧ s.2.2.1.length ≤ 1 + s.1 * 10000 ∧ s.2.2.2.2.2.2.oneCell' = true ∧ playE (400 - s.1) (picks.drop s.1) s.2.1 s.2.2.1 = r0) (fun s => 400 - s.1) (0, y0, [(0, (0, 0), 0)], ja, pa0, T0, .slice (some ⟨b29, 0, none⟩) 1 1) ⟨Nat.zero_le _, hL0, hn0, hy0, by simp, by simp, rfl, by rw [List.drop_zero]; exact hr0⟩ ?_
    rintro ⟨k, y, log, ja1, pa1, T, v⟩ ⟨hk, hL, hyn2, hy, hlp1, hll, hv1, hpe⟩
    dsimp only at hk hL hyn2 hy hlp1 hll hv1 hpe ⊢
    refine cS (cS (cR (sV (vM rfl) (sV (v_lss rfl rfl) (sN (nK [2, 6, 9, 11, 12, 31] rfl (nT (cC rfl (fun hd => ?_) (fun hd => ?_)))))))))
    · skip
      have hk4 : k < 400 := by have := of_decide_eq_true hd; omega
      rw [show 400 - k = (399 - k) + 1 by omega, play_step] at hpe
      refine cK (xT (cS (cd_block (cS (cR (sV (v_ldn rfl ld27 rfl rds_pt) ?_))))))
      refine st_cl rfl rfl en22 rfl (Ready_ct hy (hL.fit (by omega))) ?_
      rintro u h' ⟨T2, rfl, v2, rfl, hT2⟩
      subst hT2
      have hrE : readyE y = (rdy y.procs y.procs.length, 0) := by unfold readyE; rw [if_pos hL.right]
      rw [hrE]
      refine sV (vM rfl) (sV (v_extract rfl rfl) (sV (v_extract rfl rfl) (sV (vA rfl) (sV (vA rfl) (sN (nK [2, 6, 9, 11, 12, 13, 14] rfl (nT (cS (cS (cR (sV (vM rfl) (sV (v_neq rfl rfl) (sN (nK [2, 6, 9, 11, 12, 13, 40] rfl (nT (cd_false rfl ?_))))))))))))))))
      refine cK (xT (cS (cS ?_)))
      simp only [List.cons_append, List.nil_append]
      refine cd_rowf (v := v2) (by repeat (first | exact Sel.here | apply Sel.there)) (fun va vc hve _ _ => ?_)
      rw [List.length_map, ← ready_rdy, List.length_map] at hve
      subst hve
      rw [← ready_rdy]
      refine cR (sV (vM rfl) (sV (v_len rfl Tryz.underlying43) (sV (v_eql rfl rfl) (sN (nK [2, 6, 9, 11, 12, 13, 44] rfl (nT (cC rfl (fun h2 => ?_) (fun h2 => ?_))))))))
      · skip
        have hl0 : y.ready = [] := by
          have : (y.ready.length : Int) = 0 := by simpa using h2
          exact List.eq_nil_of_length_eq_zero (by omega)
        rw [if_pos hl0] at hpe
        subst hpe
        refine cS (cR (sV (v_ldn rfl ld27 rfl rds_pt) ?_))
        refine sV (vM rfl) ?_
        obtain ⟨_, _, heq, hd1, hd2⟩ := yardR_cells hy
        simp only [List.cons.injEq, and_true] at heq
        obtain ⟨rfl, rfl⟩ := heq
        refine st_stoW rfl rfl sz27 rfl (by simp [hd1, hd2]) ?_
        refine sV (vA rfl) (sV (vA rfl) (sN (nK [6, 7, 8] rfl (nT (cT (xR (xt_ret_block (xR (xR (xt_ret_block (xR (xt_pv (pv_pack (L := [T, VR v 87 4 (log.map gC)])) ?_))))))))))))
        refine xt_retV (.cellN rfl ld27 rfl (by repeat (first | exact Sel.here | apply Sel.there)) (.tmp rfl (.tmp rfl .nil))) ⟨_, rfl, _, v, T, rfl, rfl, hy, hv1⟩ ?_
        refine Sub.sel (by repeat (first | exact Sel.here | apply Sel.there)) ?_
        refine Sub.sel (by repeat (first | exact Sel.here | apply Sel.there)) ?_
        repeat apply Sub.cons
        exact Sub.refl _
      · skip
        have hl0 : y.ready ≠ [] := fun h => by rw [h] at h2; simp at h2
        have hlp : 0 < y.ready.length := List.length_pos_iff.2 hl0
        have hl12 : y.ready.length ≤ 12 := by
          have h1 : y.ready.length ≤ (List.range y.procs.length).length := List.length_filter_le _ _
          rw [List.length_range] at h1
          omega
        rw [if_neg hl0] at hpe
        refine cd_row (by repeat (first | exact Sel.here | apply Sel.there)) (fun h0 hr0 => ?_) (fun vb vo vc' hve _ _ => ?_)
        · exfalso
          rw [List.map_eq_nil_iff, List.map_eq_nil_iff] at hr0
          exact hl0 hr0
        have hve' := hve
        simp only [Value.slice.injEq, List.length_map] at hve'
        obtain ⟨rfl, _, rfl⟩ := hve'
        have hat : ∀ m, m < y.ready.length → ((y.ready.map fun (k : Nat) => (k : Int)).map iC)[m]? = some (iC ((y.ready.getD m 0 : Nat) : Int)) := fun m hm => by
          rw [List.getElem?_map, List.getElem?_map, List.getElem?_eq_getElem hm, List.getD_eq_getElem?_getD, List.getElem?_eq_getElem hm]; rfl
        subst hpv
        obtain ⟨i, hi⟩ : ∃ i, i = playI y (picks.drop k) := ⟨_, rfl⟩
        rw [← hi] at hpe
        have him : i ∈ y.ready := by
          rw [hi]
          cases hdr : picks.drop k with
          | nil => exact pick_mem hl0 hlp
          | cons p t => exact pick_mem hl0 (Nat.mod_lt _ hlp)
        have him' : i ∈ (List.range y.procs.length).filter fun i => (y.pr i).goes := him
        rw [List.mem_filter, List.mem_range] at him'
        obtain ⟨hil, hig⟩ := him'
        refine cd_pv (pv_eq (show VR (.slice (some ⟨vb, vo, none⟩) y.ready.length vc) 3 1 ((y.ready.map fun (k : Nat) => (k : Int)).map iC) = VR (.slice (some ⟨vb, vo, none⟩) y.ready.length vc) 3 1 ((y.ready.map fun (k : Nat) => (k : Int)).map iC) from rfl)) ?_
        simp only [List.cons_append, List.nil_append]
        refine cK (xT (cS (cR (sV (vM rfl) (sV (v_indexAddr (k := 0) rfl rfl sl43 rfl hlp rfl) (sV (v_load rfl ld3 (at_here (rd_vrk (hat 0 hlp) rfl))) ?_))))))
        refine sV (vA rfl) (sN (nK [2, 6, 9, 11, 12, 13, 15] rfl (nT (cS (cS (cR (sV (vM rfl) (sV (vM rfl) (sV (v_len rfl Tryz.underlying43) (sV (v_lss rfl rfl) (sN (nK [2, 6, 9, 11, 12, 13, 15, 53] rfl (nT (cC rfl (fun hp => ?_) (fun hp => ?_)))))))))))))))
        · skip
          have hkp : k < picks.length := by have := of_decide_eq_true hp; omega
          obtain ⟨qb, qo, qc, qu, hqv, hqrd, hqX⟩ := hpk.at1 (List.getElem?_eq_getElem hkp)
          cases hqX
          have hiv : i = y.ready.getD (upick picks[k] y.ready.length) 0 := by rw [hi, List.drop_eq_getElem_cons hkp]; rfl
          have hum : upick picks[k] y.ready.length < y.ready.length := Nat.mod_lt _ hlp
          have hun := hat _ hum
          rw [← hiv] at hun
          refine cR (sV (vM rfl) (sV (vM rfl) (sV (vM rfl) (sV (v_indexAddr (k := k) (congrArg some hqv) rfl sl43 rfl hkp rfl) (sV (v_ldy rfl ld3) ?_)))))
          refine sV (v_conv rfl Tryz.underlying3 Tryz.underlying142 (wrap_u64 _)) (sV (vM rfl) (sV (v_len rfl Tryz.underlying43) (sV (v_conv rfl Tryz.underlying3 Tryz.underlying142 (m := (y.ready.length : Int)) (by rw [wrap_u64]; exact Int.emod_eq_of_lt (by omega) (by omega))) ?_)))
          refine sV (v_remu rfl rfl (by omega)) (sV (v_conv rfl Tryz.underlying142 Tryz.underlying3 (m := (upick picks[k] y.ready.length : Int)) (by rw [upick_val hlp]; exact I64.wrap (by unfold I64; omega))) ?_)
          refine sV (v_indexAddr (k := upick picks[k] y.ready.length) rfl rfl sl43 rfl hum rfl) (sV (v_load rfl ld3 (at_here (rd_vrk (k := 0) (o := vo) (m := upick picks[k] y.ready.length) hun rfl))) ?_)
          refine sV (vA rfl) (sN (nK [2, 6, 9, 11, 12, 15] rfl (nT (cS (cR (sV (v_ldn rfl ld27 rfl rds_pt) ?_))))))
          refine sV (vM rfl) (st_cl rfl rfl en34 rfl (Step_ct hy (hL.fit (by omega)) (fun j => by have := (hL.hm j).2; omega) i) ?_)
          rintro u h' ⟨T3, rfl, ys3, rfl, hz⟩
          rw [yStep_ready hL hil hig] at hz ⊢
          obtain ⟨ja3, pa3, rfl, hd1, hd2⟩ := yardR_cells hz
          have hLz := hL.stepE hil hig
          have hzl := stepE_len hL hil hig
          generalize y.stepE i = ze at *
          obtain ⟨z, e2⟩ := ze
          simp only at hz hLz hzl hpe ⊢
          simp only [List.cons_append, List.nil_append]
          obtain ⟨_, _, heq, hj3, hp3⟩ := id hz
          simp only [List.cons.injEq, and_true] at heq
          obtain ⟨rfl, rfl⟩ := heq
          obtain ⟨p3a, p3c, rfl, _⟩ := id hp3
          obtain ⟨_, _, heq, hj1, hp1⟩ := id hy
          simp only [List.cons.injEq, and_true] at heq
          obtain ⟨rfl, rfl⟩ := heq
          obtain ⟨p1a, p1c, rfl, _⟩ := id hp1
          refine sV (vM rfl) (sV (v_extract rfl rfl) (sV (v_extract rfl rfl) (st_alc al27 fun b16 => ?_)))
          refine st_stoW rfl rfl sz27 rfl (by simp [hd1, hd2]) ?_
          refine sV (vA rfl) (sN (nK [2, 6, 9, 11, 12, 16, 17] rfl (nT (cS (cS (cR (sV (vM rfl) (sV (v_neq rfl rfl) (sV (vM rfl) (st_cut (k := 11) (d := 83) (v := .bool ((e2 != 0) || ((z.procs.length : Int) != (y.procs.length : Int)))) (fun hcut => bool_want (b := (e2 != 0)) false (fun hg => ?_) (fun hg => ?_)) ?_))))))))))
          · refine st_sk rfl rfl hg ?_
            refine st_sk rfl rfl hg ?_
            refine st_sk rfl rfl hg ?_
            refine st_sk rfl rfl hg ?_
            refine st_sk rfl rfl hg ?_
            refine st_sk rfl rfl hg ?_
            refine st_sk rfl rfl hg ?_
            refine sV (v_pick_true (bool_ev rfl hg) rfl) ?_
            exact hcut _ (ssub_head (by first | rfl | (rw [hg]; rfl) | simp_all) (uS rfl (uS rfl (uS rfl (uS rfl (uS rfl (uS rfl (uS rfl (ssub_refl)))))))))
          · skip
            refine st_vg rfl (bG rfl hg) (vF rfl fa27_1 rfl) (st_vg rfl (bG rfl hg) (v_ldy rfl ld25) ?_)
            refine st_vg rfl (bG rfl hg) (v_len rfl Tryz.underlying25) (st_vg rfl (bG rfl hg) (vF rfl fa27_1 rfl) (st_vg rfl (bG rfl hg) (v_ldy rfl ld25) ?_))
            refine st_vg rfl (bG rfl hg) (v_len rfl Tryz.underlying25) (st_vg rfl (bG rfl hg) (v_neq rfl rfl) (sV (vP (bool_ev rfl hg) rfl) ?_))
            exact hcut _ (ssub_head (by first | rfl | (rw [hg]; rfl) | simp_all) (uS rfl (uS rfl (uS rfl (uS rfl (uS rfl (uS rfl (uS rfl (ssub_refl)))))))))
          refine sN (nK [2, 6, 9, 11, 12, 16, 83] rfl (nT (cC rfl (fun h3 => ?_) (fun h3 => ?_))))
          · skip
            have he2 : e2 ≠ 0 := fun e => by
              have hz0 := hzl e
              subst e
              rw [hz0] at h3
              simp at h3
            rw [if_neg he2] at hpe
            subst hpe
            refine cS (cR (sV (v_ldn rfl ld27 rfl rds_pt) ?_))
            refine st_stoW rfl rfl sz27 rfl (by simp [hj1.one, hp1.one]) ?_
            refine sV (vA rfl) (sV (vA rfl) (sN (nK [6, 7, 8] rfl (nT (cT (xR (xt_ret_block (xR (xR (xt_ret_block (xR (xt_retV (.cellN rfl ld27 rfl (by repeat (first | exact Sel.here | apply Sel.there)) (.tmp rfl (.tmp rfl .nil))) ⟨T, rfl, _, _, rfl, hy⟩ ?_))))))))))))
            refine Sub.sel (by repeat (first | exact Sel.here | apply Sel.there)) ?_
            refine Sub.sel (by repeat (first | exact Sel.here | apply Sel.there)) ?_
            repeat apply Sub.cons
            exact Sub.refl _
          · skip
            have he2 : e2 = 0 := by
              simp only [Bool.or_eq_false_iff, bne_eq_false_iff_eq] at h3
              exact h3.1
            rw [if_pos he2] at hpe
            have hLz := hLz he2
            have hzl := hzl he2
            refine cK (xT (cS (cS (cR (sV (vF rfl fa27_1 rfl) (sV (v_ldy rfl ld25) ?_))))))
            refine sV (v_len rfl Tryz.underlying25) (sV (vM rfl) (sN (nK [2, 6, 9, 11, 12, 16, 87, 88] rfl (nT (cd_use (told_c (w0 := w0) (T := T) (T3 := T3) (y := y) (z := z) (log := log) (pv := .slice pa picks.length pc) (v := v) (b6 := b6) (b9 := b9) (b16 := b16) (k := k) (hr := pt b6 (cl [.slice none 0 0, .slice none 0 0] 27) :: S :: hr) hL hLz hzl hy hz hlp1 (by omega) hv1 fun v' hv' => ?_))))))
            refine xT (cR (sV (v_ldn rfl ld27 rfl rds_pt) ?_))
            refine st_stoW rfl rfl sz27 rfl (by simp [hj3.one, hp3.one]) ?_
            refine sN (nK [2, 6, 9, 11, 12] rfl (nx_xt (xB (xT (cR (sV (vM rfl) (sV (v_add rfl rfl (by unfold I64 at *; omega)) (sV (vA rfl) (sN (nK [2, 6, 9, 11, 12] rfl (nx_xt ?_)))))))))))
            refine xt_aq (k + 1, z, log ++ grownAll y z, ja3, .slice p3a z.procs.length p3c, T3, v') ⟨hk4, by rw [show 1 + (k + 1) = 1 + k + 1 by omega]; exact hLz, hzl.trans hyn2, hz, (show 1 ≤ (log ++ grownAll y z).length by rw [List.length_append]; omega), (show (log ++ grownAll y z).length ≤ 1 + (k + 1) * 10000 by have := grownAll_len (y := y) hLz; rw [List.length_append]; omega), hv', by rw [← hpe, show 400 - (k + 1) = 399 - k by omega, List.tail_drop]⟩ (by show _ - _ < _ - _; omega)
        · skip
          have hkp : ¬ k < picks.length := by have := of_decide_eq_false hp; omega
          have hiv : i = y.ready.getD 0 0 := by rw [hi, List.drop_of_length_le (by omega)]; rfl
          rw [← hiv]
          refine cK (xT (cS (cR (sV (v_ldn rfl ld27 rfl rds_pt) ?_))))
          refine sV (vM rfl) (st_cl rfl rfl en34 rfl (Step_ct hy (hL.fit (by omega)) (fun j => by have := (hL.hm j).2; omega) i) ?_)
          rintro u h' ⟨T3, rfl, ys3, rfl, hz⟩
          rw [yStep_ready hL hil hig] at hz ⊢
          obtain ⟨ja3, pa3, rfl, hd1, hd2⟩ := yardR_cells hz
          have hLz := hL.stepE hil hig
          have hzl := stepE_len hL hil hig
          generalize y.stepE i = ze at *
          obtain ⟨z, e2⟩ := ze
          simp only at hz hLz hzl hpe ⊢
          simp only [List.cons_append, List.nil_append]
          obtain ⟨_, _, heq, hj3, hp3⟩ := id hz
          simp only [List.cons.injEq, and_true] at heq
          obtain ⟨rfl, rfl⟩ := heq
          obtain ⟨p3a, p3c, rfl, _⟩ := id hp3
          obtain ⟨_, _, heq, hj1, hp1⟩ := id hy
          simp only [List.cons.injEq, and_true] at heq
          obtain ⟨rfl, rfl⟩ := heq
          obtain ⟨p1a, p1c, rfl, _⟩ := id hp1
          refine sV (vM rfl) (sV (v_extract rfl rfl) (sV (v_extract rfl rfl) (st_alc al27 fun b16 => ?_)))
          refine st_stoW rfl rfl sz27 rfl (by simp [hd1, hd2]) ?_
          refine sV (vA rfl) (sN (nK [2, 6, 9, 11, 12, 16, 17] rfl (nT (cS (cS (cR (sV (vM rfl) (sV (v_neq rfl rfl) (sV (vM rfl) (st_cut (k := 11) (d := 83) (v := .bool ((e2 != 0) || ((z.procs.length : Int) != (y.procs.length : Int)))) (fun hcut => bool_want (b := (e2 != 0)) false (fun hg => ?_) (fun hg => ?_)) ?_))))))))))
          · refine st_sk rfl rfl hg ?_
            refine st_sk rfl rfl hg ?_
            refine st_sk rfl rfl hg ?_
            refine st_sk rfl rfl hg ?_
            refine st_sk rfl rfl hg ?_
            refine st_sk rfl rfl hg ?_
            refine st_sk rfl rfl hg ?_
            refine sV (v_pick_true (bool_ev rfl hg) rfl) ?_
            exact hcut _ (ssub_head (by first | rfl | (rw [hg]; rfl) | simp_all) (uS rfl (uS rfl (uS rfl (uS rfl (uS rfl (uS rfl (uS rfl (ssub_refl)))))))))
          · skip
            refine st_vg rfl (bG rfl hg) (vF rfl fa27_1 rfl) (st_vg rfl (bG rfl hg) (v_ldy rfl ld25) ?_)
            refine st_vg rfl (bG rfl hg) (v_len rfl Tryz.underlying25) (st_vg rfl (bG rfl hg) (vF rfl fa27_1 rfl) (st_vg rfl (bG rfl hg) (v_ldy rfl ld25) ?_))
            refine st_vg rfl (bG rfl hg) (v_len rfl Tryz.underlying25) (st_vg rfl (bG rfl hg) (v_neq rfl rfl) (sV (vP (bool_ev rfl hg) rfl) ?_))
            exact hcut _ (ssub_head (by first | rfl | (rw [hg]; rfl) | simp_all) (uS rfl (uS rfl (uS rfl (uS rfl (uS rfl (uS rfl (uS rfl (ssub_refl)))))))))
          refine sN (nK [2, 6, 9, 11, 12, 16, 83] rfl (nT (cC rfl (fun h3 => ?_) (fun h3 => ?_))))
          · skip
            have he2 : e2 ≠ 0 := fun e => by
              have hz0 := hzl e
              subst e
              rw [hz0] at h3
              simp at h3
            rw [if_neg he2] at hpe
            subst hpe
            refine cS (cR (sV (v_ldn rfl ld27 rfl rds_pt) ?_))
            refine st_stoW rfl rfl sz27 rfl (by simp [hj1.one, hp1.one]) ?_
            refine sV (vA rfl) (sV (vA rfl) (sN (nK [6, 7, 8] rfl (nT (cT (xR (xt_ret_block (xR (xR (xt_ret_block (xR (xt_retV (.cellN rfl ld27 rfl (by repeat (first | exact Sel.here | apply Sel.there)) (.tmp rfl (.tmp rfl .nil))) ⟨T, rfl, _, _, rfl, hy⟩ ?_))))))))))))
            refine Sub.sel (by repeat (first | exact Sel.here | apply Sel.there)) ?_
            refine Sub.sel (by repeat (first | exact Sel.here | apply Sel.there)) ?_
            repeat apply Sub.cons
            exact Sub.refl _
          · skip
            have he2 : e2 = 0 := by
              simp only [Bool.or_eq_false_iff, bne_eq_false_iff_eq] at h3
              exact h3.1
            rw [if_pos he2] at hpe
            have hLz := hLz he2
            have hzl := hzl he2
            refine cK (xT (cS (cS (cR (sV (vF rfl fa27_1 rfl) (sV (v_ldy rfl ld25) ?_))))))
            refine sV (v_len rfl Tryz.underlying25) (sV (vM rfl) (sN (nK [2, 6, 9, 11, 12, 16, 87, 88] rfl (nT (cd_use (told_c (w0 := w0) (T := T) (T3 := T3) (y := y) (z := z) (log := log) (pv := .slice pa picks.length pc) (v := v) (b6 := b6) (b9 := b9) (b16 := b16) (k := k) (hr := pt b6 (cl [.slice none 0 0, .slice none 0 0] 27) :: S :: hr) hL hLz hzl hy hz hlp1 (by omega) hv1 fun v' hv' => ?_))))))
            refine xT (cR (sV (v_ldn rfl ld27 rfl rds_pt) ?_))
            refine st_stoW rfl rfl sz27 rfl (by simp [hj3.one, hp3.one]) ?_
            refine sN (nK [2, 6, 9, 11, 12] rfl (nx_xt (xB (xT (cR (sV (vM rfl) (sV (v_add rfl rfl (by unfold I64 at *; omega)) (sV (vA rfl) (sN (nK [2, 6, 9, 11, 12] rfl (nx_xt ?_)))))))))))
            refine xt_aq (k + 1, z, log ++ grownAll y z, ja3, .slice p3a z.procs.length p3c, T3, v') ⟨hk4, by rw [show 1 + (k + 1) = 1 + k + 1 by omega]; exact hLz, hzl.trans hyn2, hz, (show 1 ≤ (log ++ grownAll y z).length by rw [List.length_append]; omega), (show (log ++ grownAll y z).length ≤ 1 + (k + 1) * 10000 by have := grownAll_len (y := y) hLz; rw [List.length_append]; omega), hv', by rw [← hpe, show 400 - (k + 1) = 399 - k by omega, List.tail_drop]⟩ (by show _ - _ < _ - _; omega)
    · skip
      refine cd_exit (xE (xE (xt_exit_block (xT (cS (cR ?_))))))
      have hk4 : k = 400 := by have : ¬ ((k : Nat) : Int) < 400 := of_decide_eq_false hd
                               omega
      subst hk4
      have hr : r0 = none := by rw [← hpe]; rfl
      rw [hr]
      refine sV (v_ldn rfl ld27 rfl rds_pt) ?_
      obtain ⟨_, _, heq, hd1, hd2⟩ := yardR_cells hy
      simp only [List.cons.injEq, and_true] at heq
      obtain ⟨rfl, rfl⟩ := heq
      refine st_stoW rfl rfl sz27 rfl (by simp [hd1, hd2]) ?_
      refine sV (vA rfl) (sV (vA rfl) (sN (nK [6, 7, 8] rfl (nT (cT (xt_retV (.cellN rfl ld27 rfl (by repeat (first | exact Sel.here | apply Sel.there)) (.tmp rfl (.tmp rfl .nil))) ⟨T, rfl, _, _, rfl, hy⟩ ?_))))))
      refine Sub.sel (by repeat (first | exact Sel.here | apply Sel.there)) ?_
      refine Sub.sel (by repeat (first | exact Sel.here | apply Sel.there)) ?_
      repeat apply Sub.cons
      exact Sub.refl _
end
end Go.Wt
namespace Go.Wt
open Go Go.Ck
def spN (s : Int) : Nat := 1 + s.toNat % 6
theorem spN_val {s : Int} (h : 0 ≤ s) : 1 + s.tmod 6 = (spN s : Int) := by
  obtain ⟨k, rfl⟩ := Int.eq_ofNat_of_zero_le h
  rw [Int.tmod_eq_emod_of_nonneg (by omega)]
  unfold spN
  rw [Int.toNat_natCast]
  omega
theorem spN_bd (s : Int) : 1 ≤ spN s ∧ spN s ≤ 6 := by unfold spN; omega
theorem wrap_small {s : Int} (h : 0 ≤ s ∧ s < 256) : IntKind.i64.wrap s = s := I64.wrap (by unfold I64; omega)
theorem run_live : ∀ {picks : List Int} {y : Yard} {M : Nat}, Live y M → (y.run picks).2 = 0 → Live (y.run picks).1 (M + picks.length) ∧ (y.run picks).1.procs.length = y.procs.length
  | [], y, M, H, _ => ⟨H, rfl⟩
  | n :: t, y, M, H, h0 => by
    rw [run_cons] at h0 ⊢
    by_cases hne : y.ready = []
    · rw [if_pos hne]
      exact ⟨⟨H.hist, H.nf, H.hm.le (by omega)⟩, rfl⟩
    · rw [if_neg hne] at h0 ⊢
      have hm := pick_mem hne (pick_lt hne n)
      generalize y.ready.getD (pick n % y.ready.length).toNat 0 = i at hm h0 ⊢
      have hm' : i ∈ (List.range y.procs.length).filter fun i => (y.pr i).goes := hm
      rw [List.mem_filter, List.mem_range] at hm'
      by_cases hs : (y.stepE i).2 = 0
      · rw [if_pos hs] at h0 ⊢
        obtain ⟨a, b⟩ := run_live (H.stepE hm'.1 hm'.2 hs) h0
        refine ⟨⟨a.hist, a.nf, a.hm.le (by simp; omega)⟩, b.trans (stepE_len H hm'.1 hm'.2 hs)⟩
      · rw [if_neg hs] at h0; exact absurd h0 hs
abbrev Any : HYard → Prop := fun _ => True
theorem kept_any : Kept Any := fun _ _ _ _ _ _ => trivial
theorem stuck_fact {y : Yard} (hR : Reach Any y) (hn : y.ready = []) (hr : y.right = true) : (endedE y).2 = 0 ∧ (ringYE y).2.2 = 0 ∧ (ringYE y).2.1 = !(endedE y).1 ∧ ((ringYE y).2.1 = true → checkRingE y (ringYE y).1 = 0) := by
  obtain ⟨h, H, _, rfl, _⟩ := hR
  have hno : ∀ i, i < h.procs.length → (h.pr i).goes = false := fun i hi => by
    cases hg : (h.pr i).goes with
    | false => rfl
    | true =>
      have : i ∈ h.now.ready := mem_ready.2 ⟨hi, hg⟩
      rw [hn] at this; simp at this
  obtain ⟨s1, s2⟩ := H.stuck hno
  unfold endedE ringYE
  rw [if_pos hr, if_pos hr]
  have hall : (List.range h.now.procs.length).all (fun i => (h.now.pr i).state == 5) = true ↔ ∀ i, i < h.procs.length → (h.pr i).now.state = 5 := by
    rw [List.all_eq_true, HYard.now_len]
    exact ⟨fun ha i hi => by have := ha i (List.mem_range.2 hi); rw [HYard.now_pr] at this; simpa using this, fun ha i hi => by rw [HYard.now_pr]; simpa using ha i (List.mem_range.1 hi)⟩
  refine ⟨rfl, rfl, ?_, fun hb => ?_⟩
  · simp only
    by_cases he : ringE h.now = []
    · rw [he, hall.2 (s1.1 he)]; rfl
    · have h1 : ¬ ((List.range h.now.procs.length).all (fun i => (h.now.pr i).state == 5) = true) := fun ha => he (s1.2 (hall.1 ha))
      have h2 : 0 < (ringE h.now).length := List.length_pos_iff.2 he
      rw [Bool.not_eq_true] at h1
      rw [h1]
      simp only [Bool.not_false, decide_eq_true_eq]
      omega
  · simp only at hb
    have he : ringE h.now ≠ [] := fun he => by rw [he] at hb; simp at hb
    have := s2 he
    rw [← HYard.now_len] at this
    exact (checkRing_iff hr).2 this
theorem gos_ring {l : List Int} : ∀ {n : Nat} {y : Yard}, Reach Any y → IsRing y.wf y.procs.length l → (Yard.gos (fun _ _ => true) n y).2 = 0 → IsRing (Yard.gos (fun _ _ => true) n y).1.wf (Yard.gos (fun _ _ => true) n y).1.procs.length l
  | n, y, hR, hI, h0 => by
    rw [gos_eq] at h0 ⊢
    cases hf : y.ready.find? fun _ => true with
    | none => exact hI
    | some i =>
      rw [hf] at h0
      have hm := List.mem_of_find?_eq_some hf
      cases n with
      | zero => cases h0
      | succ n =>
        simp only at h0 ⊢
        by_cases hs : (y.stepE i).2 = 0
        · rw [if_pos hs] at h0 ⊢
          refine gos_ring (step_reach kept_any hR hm hs) ?_ h0
          obtain ⟨h, H, _, rfl, _⟩ := hR
          obtain ⟨hi, hg⟩ := mem_ready.1 hm
          rw [HYard.now_len] at hI
          have := H.ring_step hI hi hg
          rw [stepE_now H hi hg] at hs ⊢
          split at hs
          · cases hs
          · rename_i hfu
            rw [if_neg hfu]
            show IsRing (h.step i).now.wf (h.step i).now.procs.length l
            rw [HYard.now_len, HYard.step_len]; exact this
        · rw [if_neg hs] at h0; exact absurd h0 hs
theorem lasts {y : Yard} {M : Nat} {l : List Int} (hR : Reach Any y) (hL : Live y M) (h : checkRingE y l = 0) : ((yFinE y 400).2 != 0 || checkRingE (yFinE y 400).1 l == 0) = true := by
  have h0 : firstE [openedE y [], cntE 400] = 0 := by rw [openedE_nil, if_pos hL.right]; rfl
  unfold yFinE
  rw [if_pos h0]
  by_cases hz : (Yard.gos (fun _ _ => true) (Int.toNat 400) y).2 = 0
  · have h1 := gos_ring hR ((checkRing_iff hL.right).1 h) hz
    have h2 := gos_live (fun _ _ => true) (Int.toNat 400) hL hz
    rw [Bool.or_eq_true]
    exact .inr (beq_iff_eq.2 ((checkRing_iff h2.1.right).2 h1))
  · rw [Bool.or_eq_true]
    exact .inl (bne_iff_ne.2 hz)
theorem new_any {jobs : List (List Move)} {n : Nat} (hc : check jobs n = 0) : Reach Any (Yard.new jobs n) := new_reach hc trivial
theorem played_reach {jobs : List (List Move)} {n : Nat} {picks : List Int} {y : Yard} {log : List Logd} (h : playedE jobs n picks = some (y, log)) : check jobs n = 0 ∧ ∃ m g, m < 400 ∧ HYard.Go m (HYard.new jobs n) g ∧ g.now = y ∧ g.Lg log ∧ y.ready = [] := by
  unfold playedE at h
  split at h
  · rename_i hc
    have hn : 0 < n := by have := check_ok hc; omega
    rw [← new_now] at h
    obtain ⟨m, g, h1, h2, h3, h4, h5⟩ := play_go (HInv.new hc) (HYard.lg_new hn) h
    exact ⟨hc, m, g, h1, h2, h3, h4, by rw [← h3]; exact h5⟩
  · cases h
theorem go_live : ∀ {m : Nat} {h g : HYard} {M : Nat}, HYard.Go m h g → HInv h → Live h.now M → Live g.now (M + m)
  | _, _, _, _, .nil _, _, hL => hL
  | _, h, _, M, .cons (i := i) hi hg hf hr, H, hL => by
    have h1 := hL.step (i := i) (by rw [HYard.now_len]; exact hi) (by rw [now_goes]; exact hg) (by rw [← H.now_step hi hg]; exact hf)
    rw [← H.now_step hi hg] at h1
    have := go_live hr (H.step hi hg) h1
    exact ⟨this.hist, this.nf, this.hm.le (by omega)⟩
theorem played_live {jobs : List (List Move)} {n : Nat} {picks : List Int} {y : Yard} {log : List Logd} (h : playedE jobs n picks = some (y, log)) : Live y 401 ∧ Reach Any y ∧ y.ready = [] ∧ y.procs.length = n := by
  obtain ⟨hc, m, g, hm, hr, rfl, _, hn⟩ := played_reach h
  have hL := go_live hr (HInv.new hc) (by rw [new_now]; exact Live.new hc)
  obtain ⟨HG, hl, _⟩ := hr.inv (HInv.new hc)
  refine ⟨⟨hL.hist, hL.nf, hL.hm.le (by omega)⟩, ⟨g, HG, trivial, rfl, hL.nf⟩, hn, ?_⟩
  rw [HYard.now_len, hl, HYard.new_len]
open Go.Proofs Go.Proofs.YtboepbencndobaaGreat in
theorem played2_ct {S : Res} {jv pv : Value} {jobs : List (List Move)} {n : Nat} {picks : List Int} (hj : Row S 1 (jobR S) jv jobs) (hf : Fits jobs) (hn : n ≤ 12) (hpk : Row S 1 (eqC iC) pv picks) (hpl : picks.length ≤ 1000000) (hi64 : ∀ x ∈ picks, I64 x) :
    CtN Tryz.prog 33 #[jv, .int .i64 n, pv] [S] fun u T => ∃ a b v bb z, u = .tuple #[.agg #[a, b], v, .bool bb] ∧ yardR T [a, b] z ∧ a.oneCell' = true ∧ b.oneCell' = true ∧ (bb = true → ∃ log, playedE jobs n picks = some (z, log)) :=
  CtN.mono (played_ct hj hf hn hpk hpl hi64) fun u T h => by
    cases hq : playedE jobs n picks with
    | none =>
      rw [hq] at h
      obtain ⟨ys, z, rfl, hz⟩ := h
      obtain ⟨a, b, rfl, h1, h2⟩ := yardR_cells hz
      exact ⟨a, b, _, _, z, rfl, hz, h1, h2, fun h => by cases h⟩
    | some yl =>
      obtain ⟨z, log⟩ := yl
      rw [hq] at h
      obtain ⟨ys, v, Ty, rfl, rfl, hz, _⟩ := h
      obtain ⟨a, b, rfl, h1, h2⟩ := yardR_cells hz
      exact ⟨a, b, _, _, z, rfl, hz.mono (rd_in .here), h1, h2, fun _ => ⟨log, rfl⟩⟩
end Go.Wt
