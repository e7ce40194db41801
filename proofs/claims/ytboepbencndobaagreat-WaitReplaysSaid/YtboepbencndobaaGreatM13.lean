/-
  The reference: ends, answers. Conditions: what is owned, bounds.
  The reference: takes. Conditions: what is owned, bounds.
  The reference: asks. Conditions: what is owned, bounds.
  The reference: moves. Conditions: what is owned, what is read, bounds.
  The reference: large, step. Conditions: what is read, bounds.
  The reference: target, may, first. Conditions: what is read, bounds.
-/
import Derived.Test.YtboepbencndobaaGreatM12
set_option linter.unusedVariables false
set_option linter.unusedSimpArgs false
namespace Go.Wt
open Go Go.Ck Go.Proofs Go.Proofs.YtboepbencndobaaGreat Fx
attribute [local irreducible] Go.Ck.Sub St Cd Xt Nx DrL LsW
def REndC (m : Nat) : Prop := ∀ {pb po pc n B i : Nat} {jv : Value} {H : Nat → PH} {y : Yard} (failed : Bool), YBd n B y → B + m ≤ 1000000 → n ≤ 1000000 → i < n → y.W < m → jv.oneCell' = true →
  Ct Tryz.prog 156 #[.agg #[jv, .slice (some ⟨pb, po, none⟩) n pc], .int .i64 i, .bool failed] (YO (.slice (some ⟨pb, po, none⟩) n pc) n H y.pr)
   fun u h' => u = .tuple #[] ∧ ∃ H', h' = YO (.slice (some ⟨pb, po, none⟩) n pc) n H' (Yard.ends m y i failed).pr
section
set_option maxRecDepth 100000 in
theorem ranswer_ct {m : Nat} (hE : REndC m) {pb po pc n B i s : Nat} {jv : Value} {H : Nat → PH} {y : Yard} (failed : Bool) (hy : YBd n B y) (hB : B + m ≤ 1000000) (hn : n ≤ 1000000) (hs : s < n) (hW : y.W ≤ m) (hj1 : jv.oneCell' = true) :
  Ct Tryz.prog 161 #[.agg #[jv, .slice (some ⟨pb, po, none⟩) n pc], .int .i64 s, .int .i64 i, .bool failed] (YO (.slice (some ⟨pb, po, none⟩) n pc) n H y.pr)
   fun u h' => u = .tuple #[] ∧ ∃ H', h' = YO (.slice (some ⟨pb, po, none⟩) n pc) n H' (y.answer m s i failed).pr := by
 have hlen := hy.len
 have hps := hy.pb s hs
 have hself := put_self (y := y) (i := s) (by omega)
 have hans : y.answer m s i failed = if (y.pr s).waits = (i : Int) then (if failed = true then Yard.ends m (y.put s { y.pr s with waits := -1 }) s true else y.put s { y.pr s with waits := -1 }) else y := rfl
 rw [hans]
 have hW2 : (y.pr s).waits = (i : Int) → (y.put s { y.pr s with waits := -1 }).W < m := fun h => by
  have := W_down (y := y) (s := s) (p := { y.pr s with waits := -1 }) (by omega) (by omega) rfl
  omega
 refine ct_of (n := 25) Tryz.func161 rfl rfl (len rfl) fun hr w0 => ?_
 refine cS (cR (st_bx rfl rfl fun b4 => ?_))
 refine sN (nK [1, 2, 3, 4] rfl (nT (cS (cS (cd_pv (pv_focus hs) ?_)))))
 generalize hG : H s = G
 generalize hp : y.pr s = p at hps hself hW2 ⊢
 refine cR (sV (vF rfl fa27_1 rfl) (sV (vY rfl ld25) ?_))
 refine sV (vM rfl) (sV (vI (k := s) rfl rfl sl25 rfl hs rfl) (sV (vF rfl fa77_6 rfl) (sV (vY rfl ld3) ?_)))
 refine sV (vM rfl) (sV (v_neq rfl rfl) (sN (nK [1, 3, 4, 15] rfl (nT (cC rfl (fun hc => ?_) (fun hc => ?_))))))
 ·skip
  refine cT (xR ?_)
  rw [if_neg (by simpa using hc)]
  refine xt_pv (pv_unfocus (y := y) (G := G) (p := p) hlen hs) ?_
  rw [hself]
  exact xt_rt rfl ⟨rfl, _, rfl⟩ sbq
 ·skip
  have hc2 : p.waits = (i : Int) := by simpa using hc
  have hW3 := hW2 hc2
  rw [if_pos hc2]
  refine cK (xT (cS (cR (sV (vF rfl fa27_1 rfl) (sV (vY rfl ld25) ?_)))))
  refine sV (vM rfl) (sV (vI (k := s) rfl rfl sl25 rfl hs rfl) (sV (vF rfl fa77_6 rfl) (st_fp (k := 6) (cells' := hpC G { p with waits := -1 }) rfl rfl sz3 rfl hs (by decide) rfl slq ?_)))
  refine sN (nK [1, 3, 4] rfl (nT (cS ?_)))
  have hy2 : YBd n B (y.put s { p with waits := -1 }) := hy.put ⟨hps.lines, hps.puts, hps.holds, hps.did, hps.asks, hps.made, hps.hs, hps.ks⟩
  refine cd_pv (pv_unfocus (y := y) (G := G) (p := { p with waits := -1 }) hlen hs) ?_
  refine cR (sV (vM rfl) (sN (nK [1, 4, 21] rfl (nT (cC rfl (fun hf => ?_) (fun hf => ?_))))))
  ·skip
   refine cR ?_
   subst hf
   refine sV (v_ldn rfl ld27 rfl rds_pt) ?_
   refine sV (vM rfl) (st_cl rfl rfl en156 rfl (hE true hy2 hB hn hs hW3 hj1) ?_)
   rintro u h' ⟨rfl, H', rfl⟩
   refine sN (nK [] rfl (nx_xt ?_))
   exact xt_en rfl ⟨rfl, _, rfl⟩ sbq
  ·skip
   refine cK ?_
   subst hf
   exact xt_en rfl ⟨rfl, _, rfl⟩ sbq
set_option maxHeartbeats 4000000 in
set_option maxRecDepth 100000 in
theorem rend_ct {m : Nat} (hE : REndC m) : REndC (m + 1) := by
 intro pb po pc n B i jv H y failed hy hB hn hi hW hj1
 have hleq := ends_eq m (y := y) (i := i) (by rw [hy.len]; exact hi) failed
 refine ct_of (n := 87) Tryz.func156 rfl rfl (len rfl) fun hr w0 => ?_
 refine cS (cR (st_bx rfl rfl fun b3 => ?_))
 refine sN (nK [1, 2, 3] rfl (nT (cS (cB (cd_lq (σ := Yard × (Nat → PH)) (fun q => [(1, .int .i64 (i : Nat)), (2, .bool failed), (3, .pointer (some ⟨b3, 0, none⟩))]) (fun q => pt b3 (cl [jv, .slice (some ⟨pb, po, none⟩) n pc] 27) :: (YO (.slice (some ⟨pb, po, none⟩) n pc) n q.2 q.1.pr ++ hr)) (fun q => YBd n B q.1 ∧ q.1.W = y.W ∧ q.1.leaves i (q.1.pr i).holds.length = y.leaves i (y.pr i).holds.length) (fun q => (q.1.pr i).holds.length) (y, H) ⟨hy, rfl, rfl⟩ ?_)))))
 rintro ⟨z, H⟩ ⟨hz, hzW, hzl⟩
 simp only at hz hzW hzl
 dsimp only
 refine cd_pv (pv_focus hi) ?_
 have hzlen := hz.len
 have hpz := hz.pb i hi
 have hself := put_self (y := z) (i := i) (by omega)
 have hlv := leave_holds (y := z) (i := i) (by omega)
 have hzpr : ∀ q : Proc, z.pr i = q → q.holds ≠ [] → (z.pr i).holds ≠ [] := fun q h1 h2 => by rw [h1]; exact h2
 generalize hG : H i = G
 obtain ⟨lv, pv, hv, dv, av⟩ := G
 generalize hp : z.pr i = p at hpz hself hlv hzl ⊢
 refine cd_rowf (v := hv) slq fun ha hc hve _ _ => ?_
 simp only [List.length_map] at hve
 subst hve
 refine cS (cS (cR (sV (vF rfl fa27_1 rfl) (sV (vY rfl ld25) ?_))))
 refine sV (vM rfl) (sV (vI (k := i) rfl rfl sl25 rfl hi rfl) (sV (vF rfl fa77_5 rfl) (sV (vY rfl ld75) ?_)))
 refine sV (v_len rfl Tryz.underlying75) (sV (v_gtr rfl rfl) (sN (nK [1, 2, 3, 17] rfl (nT (cC rfl (fun hd => ?_) (fun hd => ?_))))))
 ·skip
  have hpos : 0 < p.holds.length := by have := of_decide_eq_true hd; omega
  have hne : (z.pr i).holds ≠ [] := hzpr p hp (fun h => by rw [h] at hpos; cases hpos)
  refine cd_pv (pv_unfocus (y := z) (G := ⟨lv, pv, .slice ha p.holds.length hc, dv, av⟩) (p := p) hzlen hi) ?_
  rw [hself]
  refine cK (xT (cB (cR (sV (v_ldn rfl ld27 rfl rds_pt) ?_))))
  refine sV (vM rfl) (st_cl rfl rfl en159 rfl (rleave_ct hz (by omega) hi hne hj1) ?_)
  rintro u h' ⟨rfl, H', rfl⟩
  refine sN (nK [1, 2, 3] rfl (nx_xt (xB (xt_aq (z.leave i, H') ⟨hz.leave hi, by rw [leave_W]; exact hzW, ?_⟩ (by show ((z.leave i).pr i).holds.length < (z.pr i).holds.length; rw [hlv, hp, List.length_dropLast]; omega)))))
  show (z.leave i).leaves i ((z.leave i).pr i).holds.length = _
  rw [hlv, List.length_dropLast, ← hzl]
  obtain ⟨k, hk⟩ : ∃ k, p.holds.length = k + 1 := ⟨p.holds.length - 1, by omega⟩
  rw [hk]; rfl
 ·skip
  have h0 : p.holds = [] := List.eq_nil_of_length_eq_zero (by have := of_decide_eq_false hd; omega)
  rw [← hzl, h0] at hleq
  have hl0 : z.leaves i ([] : List Hold).length = z := rfl
  rw [hl0, hp] at hleq
  refine cd_ok (r := pureR (av.length = p.lines.length)) slq fun hpu => ?_
  have hal := pureR_ok hpu
  have hlr : (lrows av p.lines).length = p.lines.length := by simp [lrows]; omega
  refine cd_rowf (v := lv) slq (fun la lc hve _ _ => ?_)
  rw [hlr] at hve
  subst hve
  refine cd_rowf (v := pv) slq (fun qa qc hve _ _ => ?_)
  rw [List.length_map] at hve
  subst hve
  refine cd_rowf (v := dv) slq (fun da dc hve _ _ => ?_)
  rw [List.length_map] at hve
  subst hve
  refine cd_exit (xE (xE (xY (xT (cS (cR (sV (vF rfl fa27_1 rfl) (sV (vY rfl ld25) ?_))))))))
  refine sV (vM rfl) (sV (vI (k := i) rfl rfl sl25 rfl hi rfl) (sV (v_ldn (vs := pC (.slice la p.lines.length lc) (.slice qa p.puts.length qc) (.slice ha p.holds.length hc) (.slice da p.did.length dc) p) rfl ld77 rfl (rds_vr (foc_get hi))) ?_))
  refine st_alc al77 fun b6 => ?_
  refine st_stoW rfl rfl sz77 rfl rfl ?_
  refine sN (nK [1, 2, 3, 6] rfl (nT (cS (cR (sV (vF rfl fa77_2 rfl) (sV (vY rfl ld3) ?_))))))
  refine sV (vA rfl) (sN (nK [1, 2, 3, 6, 7] rfl (nT (cS (cR (sV (vF rfl fa77_4 rfl) (sV (vY rfl ld4) ?_)))))))
  refine sV (vA rfl) (sN (nK [1, 2, 3, 6, 7, 8] rfl (nT (cS (cR (sV (vF rfl fa27_1 rfl) (sV (vY rfl ld25) ?_)))))))
  refine sV (vM rfl) (sV (vI (k := i) rfl rfl sl25 rfl hi rfl) (sV (vF rfl fa77_2 rfl) (st_fp (k := 2) (cells' := pC (.slice la p.lines.length lc) (.slice qa p.puts.length qc) (.slice ha p.holds.length hc) (.slice da p.did.length dc) { p with job := -1 }) rfl rfl sz3 rfl hi (by decide) rfl slq ?_)))
  refine sN (nK [1, 2, 3, 6, 7, 8] rfl (nT (cS (cR (sV (vF rfl fa27_1 rfl) (sV (vY rfl ld25) ?_))))))
  refine sV (vM rfl) (sV (vI (k := i) rfl rfl sl25 rfl hi rfl) (sV (vF rfl fa77_3 rfl) (st_fp (k := 3) (cells' := pC (.slice la p.lines.length lc) (.slice qa p.puts.length qc) (.slice ha p.holds.length hc) (.slice da p.did.length dc) { p with job := -1, pc := 0 }) rfl rfl sz3 rfl hi (by decide) rfl slq ?_)))
  refine sN (nK [1, 2, 3, 6, 7, 8] rfl (nT (cS (cR (sV (vF rfl fa27_1 rfl) (sV (vY rfl ld25) ?_))))))
  refine sV (vM rfl) (sV (vI (k := i) rfl rfl sl25 rfl hi rfl) (sV (vF rfl fa77_4 rfl) (st_fp (k := 4) (cells' := pC (.slice la p.lines.length lc) (.slice qa p.puts.length qc) (.slice ha p.holds.length hc) (.slice da p.did.length dc) { p with job := -1, pc := 0, waited := false }) rfl rfl sz4 rfl hi (by decide) rfl slq ?_)))
  refine sN (nK [1, 2, 3, 6, 7, 8] rfl (nT (cS (cS ?_))))
  obtain ⟨lines, puts, job, at_, waited, holds, waits, made, did⟩ := p
  simp only at h0
  subst h0
  cases lines with
  | nil =>
   simp only at hleq
   refine cR (sV (vF rfl fa77_0 rfl) (sV (vY rfl ld73) ?_))
   refine sV (v_len rfl Tryz.underlying73) (sV (v_eql rfl rfl) (sN (nK [1, 2, 3, 6, 7, 8, 48] rfl (nT (cd_true rfl ?_)))))
   refine cT (xR (xt_pv (pv_unfocus (y := z) (G := ⟨.slice la ([] : List Line).length lc, .slice qa puts.length qc, .slice ha ([] : List Hold).length hc, .slice da did.length dc, av⟩) (p := ⟨[], puts, -1, 0, false, [], waits, made, did⟩) hzlen hi) ?_))
   rw [hleq]
   exact xt_rt rfl ⟨rfl, _, rfl⟩ sbq
  | cons l t =>
   simp only at hleq
   cases av with
   | nil => exact absurd hal (by simp)
   | cons a1 avs =>
    refine cd_row (v := .slice la (l :: t).length lc) slq (fun h0 _ => by simp at h0) (fun lb lo lc2 hve _ _ => ?_)
    rw [hlr] at hve
    simp only [Value.slice.injEq, true_and] at hve
    obtain ⟨rfl, rfl⟩ := hve
    refine cR (sV (vF rfl fa77_0 rfl) (sV (vY rfl ld73) ?_))
    refine sV (v_len rfl Tryz.underlying73) (sV (v_eql rfl rfl) (sN (nK [1, 2, 3, 6, 7, 8, 48] rfl (nT (cC rfl (fun hx => ?_) (fun hx => ?_))))))
    ·skip
     exfalso
     simp at hx
     omega
    ·skip
     refine cK (xT (cS (cR (sV (vF rfl fa77_0 rfl) (sV (vY rfl ld73) ?_)))))
     refine sV (vI (k := 0) rfl rfl sl73 rfl (by simp) rfl) ?_
     refine sV (vF rfl fa120_0 rfl) (sV (v_ldn (vs := kC l.key) rfl ld79 rfl (rds_sub (rds_vr (m := 0) (r := lC a1 l) rfl) rfl)) ?_)
     refine st_alc al79 fun b9 => ?_
     refine st_stoW rfl rfl sz79 rfl rfl ?_
     refine sN (nK [1, 2, 3, 7, 8, 9] rfl (nT (cS (cd_draw (ork [(0, 2), (1, 1), (2, 2), (3, 2), (4, 1), (5, 2), (6, 2), (7, 2), (8, 1), (9, 1), (10, 2), (11, 2), (12, 2), (13, 0), (14, 0), (15, 2), (16, 2), (17, 0)] .nil) (fun i => !(Nat.beq i 17)) [pt b3 (cl [jv, .slice (some ⟨pb, po, none⟩) n pc] 27), FP (.slice (some ⟨pb, po, none⟩) n pc) n i H z.pr (pC (.slice (some ⟨lb, lo, none⟩) (l :: t).length lc) (.slice qa puts.length qc) (.slice ha ([] : List Hold).length hc) (.slice da did.length dc) ⟨l :: t, puts, -1, 0, false, [], waits, made, did⟩), pt b9 (cl (kC l.key) 79)] mixed (by kernel_rfl) ?_))))
     refine dV rfl (vF rfl fa27_1 rfl) (dr_v rfl (vY rfl ld25) ?_)
     refine dV rfl (vM rfl) (dV rfl (vF rfl fa27_1 rfl) (dr_v rfl (vY rfl ld25) ?_))
     refine dV rfl (vM rfl) (dV rfl (vI (k := i) rfl rfl sl25 rfl hi rfl) (dV rfl (vF rfl fa77_8 rfl) (dr_v rfl (vY rfl ld62) ?_)))
     refine dr_v rfl (v_ldn rfl ld79 rfl rds_pt) ?_
     refine dV rfl (vM rfl) (dV rfl (vM rfl) (dV rfl (v_build (cells := dC (l.key, job, false, failed)) rfl (fun _ => by kernel_rfl)) ?_))
     refine dr_eff rfl (st_buildSlice (cells := dC (l.key, job, false, failed)) rfl Tryz.underlying62 inf81 rfl rfl (by kernel_rfl) (ltn rfl) fun b67 => dr_nx ?_)
     have hdl := hpz.did
     simp only at hdl
     refine dr_eff rfl (st_app (v := .slice da did.length dc) [dC (l.key, job, false, failed)] rfl rfl Tryz.underlying62 inf81 rfl (by decide) slq (by simp [dC]) rfl (fun j u2 hu2 => at_here (rd_cl (by simpa using hu2))) (by simp [dC, Value.oneCell']) (by simp; omega) (by simp; omega) (ltn rfl) fun v' hv' _ => dr_nx ?_)
     refine dV rfl (vI (k := i) rfl rfl sl25 rfl hi rfl) (dV rfl (vF rfl fa77_8 rfl) (dr_eff rfl (st_fp (k := 8) (cells' := pC (.slice (some ⟨lb, lo, none⟩) (l :: t).length lc) (.slice qa puts.length qc) (.slice ha ([] : List Hold).length hc) v' ⟨l :: t, puts, -1, 0, false, [], waits, made, did⟩) rfl rfl sz62 hv' hi (by decide) rfl slq (dr_nx ?_))))
     refine dr_nil (nK [1, 2, 3, 8, 9] rfl (nT (cS (cS (cR (sV (vM rfl) (sN (nT ?_))))))))
     rw [map_snoc]
     have hy3 : YBd n (B + 1) (z.put i ⟨{ l with broken := l.broken || failed } :: t, puts, -1, 0, false, [], waits, made, did ++ [(l.key, job, false, failed)]⟩) := (hz.le (Nat.le_succ B)).put (hpz.after (p := ⟨l :: t, puts, job, at_, waited, [], waits, made, did⟩) rfl _ _)
     have hk := hpz.ks l (by simp)
     have hW3 : (z.put i ⟨{ l with broken := l.broken || failed } :: t, puts, -1, 0, false, [], waits, made, did ++ [(l.key, job, false, failed)]⟩).W = z.W := W_put (by rw [hp])
     obtain ⟨s, hs⟩ := Int.eq_ofNat_of_zero_le hk.1
     have hs2 : l.key.1.toNat = s := by omega
     have hAns : ∀ H0, Ct Tryz.prog 161 #[.agg #[jv, .slice (some ⟨pb, po, none⟩) n pc], .int .i64 l.key.1, .int .i64 i, .bool failed] (YO (.slice (some ⟨pb, po, none⟩) n pc) n H0 (z.put i ⟨{ l with broken := l.broken || failed } :: t, puts, -1, 0, false, [], waits, made, did ++ [(l.key, job, false, failed)]⟩).pr) fun u h' => u = .tuple #[] ∧ ∃ H', h' = YO (.slice (some ⟨pb, po, none⟩) n pc) n H' ((z.put i ⟨{ l with broken := l.broken || failed } :: t, puts, -1, 0, false, [], waits, made, did ++ [(l.key, job, false, failed)]⟩).answer m s i failed).pr := fun H0 => by
      rw [hs]
      exact ranswer_ct hE failed hy3 (by omega) hn (by omega) (by omega) hj1
     rw [hs2] at hleq
     refine cC rfl (fun hf => ?_) (fun hf => ?_)
     ·skip
      have hf' : failed = true := hf
      subst hf'
      rw [Bool.or_true] at hleq hAns
      refine cR (sV (vF rfl fa27_1 rfl) (sV (vY rfl ld25) ?_))
      refine sV (vM rfl) (sV (vI (k := i) rfl rfl sl25 rfl hi rfl) (sV (vF rfl fa77_0 rfl) (sV (vY rfl ld73) ?_)))
      refine sV (vI (k := 0) rfl rfl sl73 rfl (by simp) rfl) ?_
      refine sV (vF rfl fa120_3 rfl) (st_vr (sz := 5) (m := 0) (k := 4) (r := lC a1 l) rfl rfl sz4 rfl rfl (by decide) (show _ = lrows (a1 :: avs) ({ l with broken := true } :: t) from rfl) slq ?_)
      refine sN (nK [1, 2, 3, 8, 9] rfl (nT (cS (cd_pv (pv_unfocus (y := z) (G := ⟨.slice (some ⟨lb, lo, none⟩) (l :: t).length lc, .slice qa puts.length qc, .slice ha ([] : List Hold).length hc, v', a1 :: avs⟩) (p := ⟨{ l with broken := true } :: t, puts, -1, 0, false, [], waits, made, did ++ [(l.key, job, false, true)]⟩) hzlen hi) ?_))))
      refine cR (sV (vM rfl) (sN (nK [1, 2, 3, 9, 80] rfl (nT (cC rfl (fun hwt => ?_) (fun hwt => ?_))))))
      ·skip
       rw [if_pos (by exact hwt)] at hleq
       rw [hleq]
       refine cR (sV (v_ldn rfl ld27 rfl rds_pt) ?_)
       refine sV (vF rfl fa79_0 rfl) (sV (vY rfl ld3) ?_)
       refine sV (vM rfl) (sV (vM rfl) (st_cl rfl rfl en161 rfl (hAns _) ?_))
       rintro u h' ⟨rfl, H', rfl⟩
       refine sN (nK [] rfl (nx_xt ?_))
       exact xt_en rfl ⟨rfl, _, rfl⟩ sbq
      ·skip
       rw [if_neg (by rw [show waited = false from hwt]; decide)] at hleq
       rw [hleq]
       refine cK ?_
       exact xt_en rfl ⟨rfl, _, rfl⟩ sbq
     ·skip
      have hf' : failed = false := hf
      subst hf'
      rw [Bool.or_false] at hleq hAns
      refine cd_pv (pv_unfocus (y := z) (G := ⟨.slice (some ⟨lb, lo, none⟩) (l :: t).length lc, .slice qa puts.length qc, .slice ha ([] : List Hold).length hc, v', a1 :: avs⟩) (p := ⟨l :: t, puts, -1, 0, false, [], waits, made, did ++ [(l.key, job, false, false)]⟩) hzlen hi) ?_
      refine cK (xT (cS (cR (sV (vM rfl) (sN (nK [1, 2, 3, 9, 80] rfl (nT (cC rfl (fun hwt => ?_) (fun hwt => ?_)))))))))
      ·skip
       rw [if_pos (by exact hwt)] at hleq
       rw [hleq]
       refine cR (sV (v_ldn rfl ld27 rfl rds_pt) ?_)
       refine sV (vF rfl fa79_0 rfl) (sV (vY rfl ld3) ?_)
       refine sV (vM rfl) (sV (vM rfl) (st_cl rfl rfl en161 rfl (hAns _) ?_))
       rintro u h' ⟨rfl, H', rfl⟩
       refine sN (nK [] rfl (nx_xt ?_))
       exact xt_en rfl ⟨rfl, _, rfl⟩ sbq
      ·skip
       rw [if_neg (by rw [show waited = false from hwt]; decide)] at hleq
       rw [hleq]
       refine cK ?_
       exact xt_en rfl ⟨rfl, _, rfl⟩ sbq
theorem rend_all : ∀ m, REndC m
 | 0 => fun _ _ _ _ _ h => absurd h (Nat.not_lt_zero _)
 | m + 1 => rend_ct (rend_all m)
set_option maxRecDepth 100000 in
theorem rfin_ct {pb po pc n B i : Nat} {jv : Value} {H : Nat → PH} {y : Yard} (failed : Bool) (hy : YBd n B y) (hB : B + (n + 1) ≤ 1000000) (hn : n ≤ 1000000) (hi : i < n) (hj1 : jv.oneCell' = true) :
  Ct Tryz.prog 156 #[.agg #[jv, .slice (some ⟨pb, po, none⟩) n pc], .int .i64 i, .bool failed] (YO (.slice (some ⟨pb, po, none⟩) n pc) n H y.pr)
   fun u h' => u = .tuple #[] ∧ ∃ H', h' = YO (.slice (some ⟨pb, po, none⟩) n pc) n H' (y.fin i failed).pr := by
 have := rend_all (n + 1) (pb := pb) (po := po) (pc := pc) (jv := jv) (H := H) failed hy hB hn hi (W_lt hy) hj1
 unfold Yard.fin
 rw [hy.len]; exact this
end
end Go.Wt
namespace Go.Ck
open Go
theorem rd_vr_flat {b o n cp j : Nat} {E : TypeId} {sz : Nat} {rows : List (List Value)} {u : Value} (hj : rows.flatten[j]? = some u) : Rd (VR (.slice (some ⟨b, o, none⟩) n cp) E sz rows) ⟨b, o + j, none⟩ u := fun w hw => by
 obtain ⟨h1, h2⟩ := hw
 rcases h2 with ⟨h3, _⟩ | ⟨b', o', cp', pre, jj, h3, hb, hp, _⟩
 ·cases h3
 ·cases h3
  have hb' : w.heap[b]? = _ := hb
  have hlt := (List.getElem?_eq_some_iff.1 hj).1
  simp only [World.cell?, hb', cl, List.getElem?_toArray, Option.isSome_none, Bool.false_eq_true, if_false]
  rw [List.getElem?_append_right (by omega), hp, show o + j - o = j by omega, List.getElem?_append_left hlt, hj]
end Go.Ck
namespace Go.Wt
open Go Go.Ck Go.Proofs Go.Proofs.YtboepbencndobaaGreat Fx
attribute [local irreducible] Go.Ck.Sub St Cd Xt Nx DrL LsW
theorem lrows_one {avs : List Value} {ls : List Line} {a : Value} {l : Line} (h1 : ∀ x ∈ avs, x.oneCell' = true) : ∀ u ∈ (lrows avs ls).flatten, u.oneCell' = true := fun u hu => by
 obtain ⟨row, hr, hu⟩ := List.mem_flatten.1 hu
 unfold lrows at hr
 obtain ⟨i, hi, rfl⟩ := List.getElem_of_mem hr
 simp only [List.getElem_zipWith, lC] at hu
 simp only [List.length_zipWith] at hi
 simp only [List.mem_cons, List.mem_nil_iff, or_false] at hu
 rcases hu with rfl | rfl | rfl | rfl | rfl <;> first | rfl | exact h1 _ (List.getElem_mem (by omega))
theorem arows_one : ∀ {avs : List Value} {ls : List Line} {g : Nat → Option Obj}, avs.length = ls.length → HoldsF g (arows avs ls) → ∀ x ∈ avs, x.oneCell' = true
 | [], _, _, _, _, x, hx => by cases hx
 | a :: avs, [], _, h, _, _, _ => by cases h
 | a :: avs, l :: ls, g, h, hg, x, hx => by
  have h1 : (VR a 117 2 (l.asks.map aC)).ok g ∧ _ ∧ HoldsF g (arows avs ls) := hg
  rcases List.mem_cons.1 hx with rfl | hx
  ·exact VR.one h1.1
  ·exact arows_one (by simpa using h) h1.2.2 x hx
theorem lrows_sz {avs : List Value} {ls : List Line} : ∀ r ∈ lrows avs ls, r.length = 5 := fun r hr => by
 unfold lrows at hr
 obtain ⟨i, hi, rfl⟩ := List.getElem_of_mem hr
 simp [lC]
section
set_option maxHeartbeats 4000000 in
set_option maxRecDepth 100000 in
theorem rtake_ct {pb po pc n B i : Nat} {jv : Value} {H : Nat → PH} {y : Yard} (hy : YBd n B y) (hB : B + (n + 3) ≤ 1000000) (hi : i < n) (hne : (y.pr i).lines ≠ []) (hj1 : jv.oneCell' = true) :
  Ct Tryz.prog 129 #[.agg #[jv, .slice (some ⟨pb, po, none⟩) n pc], .int .i64 i] (YO (.slice (some ⟨pb, po, none⟩) n pc) n H y.pr) fun u h' => u = .tuple #[] ∧ ∃ H' g, h' = g :: YO (.slice (some ⟨pb, po, none⟩) n pc) n H' (y.take i).pr := by
 have hylen := hy.len
 have hpi := hy.pb i hi
 have hW := W_lt hy
 obtain ⟨l, t, hlt⟩ : ∃ l t, (y.pr i).lines = l :: t := by
  cases h : (y.pr i).lines with
  | nil => exact absurd h hne
  | cons l t => exact ⟨l, t, rfl⟩
 have he := take_eq hlt
 have hWp : ∀ p : Proc, p.waits = (y.pr i).waits → (y.put i p).W = y.W := fun p h => W_put h
 clear hne
 refine ct_of (n := 96) Tryz.func129 rfl rfl (len rfl) fun hr w0 => ?_
 refine cS (cR (st_bx rfl rfl fun b2 => ?_))
 refine sN (nK [1, 2] rfl (nT (cS (cd_pv (pv_focus hi) ?_))))
 generalize hG : H i = G
 generalize hp : y.pr i = p at hpi hlt he hWp ⊢
 obtain ⟨lines, puts, job, at_, waited, holds, waits, made, did⟩ := p
 simp only at hlt
 subst hlt
 obtain ⟨lv, pv, hv, dv, av⟩ := G
 refine cd_ok (r := pureR (av.length = (l :: t).length)) slq fun hpu => ?_
 have hal := pureR_ok hpu
 refine cd_ok (r := Res.star (arows av (l :: t))) slq fun hoka => ?_
 have hone : ∀ x ∈ av, x.oneCell' = true := by obtain ⟨g, hg⟩ := hoka; exact arows_one hal hg
 cases av with
 | nil => exact absurd hal (by simp)
 | cons a1 avs =>
  have hal2 : avs.length = t.length := by simpa using hal
  have hlr : (lrows (a1 :: avs) (l :: t)).length = (l :: t).length := by simp [lrows, hal2]
  refine cd_row (v := lv) slq (fun _ h0 => by rw [h0] at hlr; simp at hlr) (fun lb lo lc hve hlc _ => ?_)
  rw [hlr] at hve hlc
  subst hve
  have hlc2 : t.length + 1 ≤ lc := by simpa using hlc
  refine cd_pv (pv_lfoc (L := arows (a1 :: avs) (l :: t)) (j := 0) (r := VR a1 117 2 (l.asks.map aC)) rfl) ?_
  obtain ⟨lk, lasks, lcl, lbr⟩ := l
  refine cd_rowf (v := a1) slq fun aa ac hae _ _ => ?_
  simp only [List.length_map] at hae
  subst hae
  refine cR (sV (vF rfl fa27_1 rfl) (sV (vY rfl ld25) ?_))
  refine sV (vM rfl) (sV (vI (k := i) rfl rfl sl25 rfl hi rfl) (sV (vF rfl fa77_0 rfl) (sV (vY rfl ld73) ?_)))
  refine sV (vI (k := 0) rfl rfl sl73 rfl (by simp) rfl) ?_
  refine sV (v_ldn (vs := lC (.slice aa lasks.length ac) ⟨lk, lasks, lcl, lbr⟩) rfl ld120 rfl (rds_vr (m := 0) rfl)) ?_
  refine st_alc al120 fun b4 => ?_
  refine st_stoW rfl rfl sz120 rfl rfl ?_
  refine sN (nK [1, 2, 4] rfl (nT (cS (cS (cR (sV (vF rfl fa120_1 rfl) (sV (vY rfl ld118) ?_)))))))
  refine sV (v_len rfl Tryz.underlying118) (sV (v_eql rfl rfl) (sN (nK [1, 2, 4, 17] rfl (nT ?_))))
  cases lasks with
  | nil =>
   simp only at he
   rw [he]
   refine cC rfl (fun hx => ?_) (fun hx => ?_)
   ·skip
    generalize hf0 : (if lc = 1 then lo else lo + 1 * 5) = lo2
    refine cd_pv (pv_tail (E := 120) (sz := 5) (b := lb) (o := lo) (n := (⟨lk, [], lcl, lbr⟩ :: t : List Line).length) (cp := lc) (m := 1) (rows := lrows (.slice aa ([] : List Ask).length ac :: avs) (⟨lk, [], lcl, lbr⟩ :: t)) (rows' := lrows avs t) (by rw [hlr]; simp) rfl) ?_
    rw [hf0]
    have hlt2 : (lrows avs t).length = t.length := by simp [lrows, hal2]
    have hpl := hpi.lines
    simp only [List.length_cons] at hpl
    refine cS (cd_draw (ork [(0, 2), (1, 1), (2, 2), (4, 2), (5, 1), (6, 2), (7, 2), (8, 2), (9, 1), (10, 1), (3, 0), (11, 0), (12, 2), (13, 2), (14, 0)] .nil) (fun i => !(Nat.beq i 14)) [pt b2 (cl [jv, .slice (some ⟨pb, po, none⟩) n pc] 27), FP (.slice (some ⟨pb, po, none⟩) n pc) n i H y.pr (hpC ⟨.slice (some ⟨lb, lo, none⟩) (⟨lk, [], lcl, lbr⟩ :: t : List Line).length lc, pv, hv, dv, .slice aa ([] : List Ask).length ac :: avs⟩ ⟨⟨lk, [], lcl, lbr⟩ :: t, puts, job, at_, waited, holds, waits, made, did⟩)] mixed (by kernel_rfl) ?_)
    refine dV rfl (vF rfl fa27_1 rfl) (dr_v rfl (vY rfl ld25) ?_)
    refine dV rfl (vM rfl) (dV rfl (vF rfl fa27_1 rfl) (dr_v rfl (vY rfl ld25) ?_))
    refine dV rfl (vM rfl) (dV rfl (vI (k := i) rfl rfl sl25 rfl hi rfl) (dV rfl (vF rfl fa77_0 rfl) (dr_v rfl (vY rfl ld73) ?_)))
    refine dr_v rfl (v_sliceTail (lo := 1) rfl rfl sl73 rfl (by simp) hlc) ?_
    rw [hf0]
    refine dr_eff rfl (st_bs0 (sz := 5) Tryz.underlying73 inf120 fun b21 => dr_nx ?_)
    refine dr_eff rfl (st_app (lrows avs t) rfl rfl Tryz.underlying73 inf120 rfl (by decide) slq lrows_sz (by rw [hlt2]; simp) (fun j u2 hu2 => ⟨VR (.slice (some ⟨lb, lo2, none⟩) ((⟨lk, [], lcl, lbr⟩ :: t : List Line).length - 1) (lc - 1)) 120 5 (lrows avs t), _, slq, rd_vr_flat hu2⟩) (lrows_one (a := .slice none 0 0) (l := Line.none) fun x hx => hone x (by simp [hx])) (by simp; omega) (by simp; omega) (ltn rfl) fun v' hv' _ => dr_nx ?_)
    refine dV rfl (vI (k := i) rfl rfl sl25 rfl hi rfl) (dV rfl (vF rfl fa77_0 rfl) (dr_eff rfl (st_fp (k := 0) (cells := hpC ⟨.slice (some ⟨lb, lo, none⟩) (⟨lk, [], lcl, lbr⟩ :: t : List Line).length lc, pv, hv, dv, .slice aa ([] : List Ask).length ac :: avs⟩ ⟨⟨lk, [], lcl, lbr⟩ :: t, puts, job, at_, waited, holds, waits, made, did⟩) (cells' := pC v' pv hv dv ⟨t, puts, job, at_, waited, holds, waits, made, did⟩) rfl rfl sz73 hv' hi (by decide) rfl slq (dr_nx ?_))))
    refine dr_nil (nK [] rfl (nT (cT (xR ?_))))
    rw [List.nil_append]
    refine xt_pv (pv_add (triv_pure (φ := avs.length = t.length) hal2)) ?_
    refine xt_pv (pv_unfocus (y := y) (G := ⟨v', pv, hv, dv, avs⟩) (p := ⟨t, puts, job, at_, waited, holds, waits, made, did⟩) hylen hi) ?_
    refine xt_pv (pv_add (triv_pure (φ := True) trivial)) ?_
    exact xt_rt rfl ⟨rfl, _, pureR True, rfl⟩ sbq
   ·skip
    exact absurd hx (by simp)
  | cons a r =>
   simp only at he
   refine cd_row (v := .slice aa (a :: r).length ac) slq (fun _ h0 => by simp at h0) (fun ab ao ac2 hve2 hac _ => ?_)
   simp only [List.length_map, Value.slice.injEq] at hve2 hac
   obtain ⟨rfl, _, rfl⟩ := hve2
   refine cC rfl (fun hx => ?_) (fun hx => ?_)
   ·skip
    exfalso
    simp at hx
    omega
   ·skip
    have hasr := hpi.asks ⟨lk, a :: r, lcl, lbr⟩ (by simp)
    simp only [List.length_cons] at hasr
    refine cK (xT (cS (cR (sV (vF rfl fa120_1 rfl) (sV (vY rfl ld118) ?_)))))
    refine sV (vI (k := 0) rfl rfl sl118 rfl (by simp) rfl) ?_
    refine sV (v_ldn (vs := aC a) rfl ld117 rfl (rds_vr (m := 0) rfl)) ?_
    refine st_alc al117 fun b5 => ?_
    refine st_stoW rfl rfl sz117 rfl rfl ?_
    refine sN (nK [1, 2, 4, 5] rfl (nT (cS ?_)))
    generalize hf0 : (if ac = 1 then ao else ao + 1 * 2) = ao2
    refine cd_pv (pv_tail (E := 117) (sz := 2) (b := ab) (o := ao) (n := (a :: r).length) (cp := ac) (m := 1) (rows := (a :: r).map aC) (rows' := r.map aC) (by simp) rfl) ?_
    rw [hf0]
    refine cd_draw (ork [(0, 2), (1, 1), (2, 2), (3, 2), (4, 2), (5, 1), (7, 2), (8, 1), (9, 1), (6, 0), (10, 0), (11, 2), (12, 2), (13, 0)] .nil) (fun i => !(Nat.beq i 13)) [pt b2 (cl [jv, .slice (some ⟨pb, po, none⟩) n pc] 27), FP (.slice (some ⟨pb, po, none⟩) n pc) n i H y.pr (hpC ⟨.slice (some ⟨lb, lo, none⟩) (⟨lk, a :: r, lcl, lbr⟩ :: t : List Line).length lc, pv, hv, dv, .slice (some ⟨ab, ao, none⟩) (a :: r).length ac :: avs⟩ ⟨⟨lk, a :: r, lcl, lbr⟩ :: t, puts, job, at_, waited, holds, waits, made, did⟩), pt b4 (cl (lC (.slice (some ⟨ab, ao, none⟩) (a :: r).length ac) ⟨lk, a :: r, lcl, lbr⟩) 120)] mixed (by kernel_rfl) ?_
    refine dV rfl (vF rfl fa27_1 rfl) (dr_v rfl (vY rfl ld25) ?_)
    refine dV rfl (vM rfl) (dV rfl (vI (k := i) rfl rfl sl25 rfl hi rfl) (dV rfl (vF rfl fa77_0 rfl) (dr_v rfl (vY rfl ld73) ?_)))
    refine dV rfl (vF rfl fa120_1 rfl) (dr_v rfl (vY rfl ld118) ?_)
    refine dr_v rfl (v_sliceTail (lo := 1) rfl rfl sl118 rfl (by simp) hac) ?_
    rw [hf0]
    refine dr_eff rfl (st_bs0 (sz := 2) Tryz.underlying118 inf117 fun b42 => dr_nx ?_)
    refine dr_eff rfl (st_app (r.map aC) rfl rfl Tryz.underlying118 inf117 rfl (by decide) slq (fun x hx => by obtain ⟨q, _, rfl⟩ := List.mem_map.1 hx; rfl) (by simp) (fun j u2 hu2 => ⟨VR (.slice (some ⟨ab, ao2, none⟩) ((a :: r).length - 1) (ac - 1)) 117 2 (r.map aC), _, slq, rd_vr_flat hu2⟩) (fun u hu => by obtain ⟨us, h1, h2⟩ := List.mem_flatten.1 hu; obtain ⟨x, _, rfl⟩ := List.mem_map.1 h1; simp [aC] at h2; rcases h2 with rfl | rfl <;> rfl) (by simp; omega) (by simp; omega) (ltn rfl) fun v' hv' _ => dr_nx ?_)
    refine dV rfl (vI (k := 0) rfl rfl sl73 rfl (by simp) rfl) ?_
    refine dV rfl (vF rfl fa120_1 rfl) (dr_eff rfl (st_vr (sz := 5) (m := 0) (k := 2) (rows := lrows (.slice (some ⟨ab, ao, none⟩) (a :: r).length ac :: avs) (⟨lk, a :: r, lcl, lbr⟩ :: t)) (r := lC (.slice (some ⟨ab, ao, none⟩) (a :: r).length ac) ⟨lk, a :: r, lcl, lbr⟩) rfl rfl sz118 hv' rfl (by decide) (show _ = lrows (v' :: avs) (⟨lk, r, lcl, lbr⟩ :: t) from rfl) slq (dr_nx ?_)))
    refine dr_nil (nK [1, 2, 4, 5] rfl (nT (cS (cS ?_))))
    rw [List.nil_append]
    refine cd_pv (pv_lunf (L := arows (.slice (some ⟨ab, ao, none⟩) (a :: r).length ac :: avs) (⟨lk, a :: r, lcl, lbr⟩ :: t)) (j := 0) (r := VR v' 117 2 (r.map aC)) (by simp [arows])) ?_
    have e1 : (arows (.slice (some ⟨ab, ao, none⟩) (a :: r).length ac :: avs) (⟨lk, a :: r, lcl, lbr⟩ :: t)).set 0 (VR v' 117 2 (r.map aC)) = arows (v' :: avs) (⟨lk, r, lcl, lbr⟩ :: t) := rfl
    rw [e1]
    have hk := hpi.ks ⟨lk, a :: r, lcl, lbr⟩ (by simp)
    have hdl := hpi.did
    simp only at hdl hk
    have hpu2 : (v' :: avs).length = ((⟨lk, r, lcl, lbr⟩ : Line) :: t).length := by simp [hal2]
    refine cR (sV (vF rfl fa120_3 rfl) (sV (vY rfl ld4) ?_))
    refine sN (nK [1, 2, 4, 5, 50] rfl (nT (cC rfl (fun hb => ?_) (fun hb => ?_))))
    ·skip
     rw [if_pos hb] at he
     refine cS (cd_draw (ork [(0, 2), (1, 1), (2, 2), (3, 2), (4, 1), (5, 2), (6, 2), (7, 2), (8, 1), (9, 2), (10, 1), (11, 2), (12, 1), (13, 2), (14, 0), (15, 0), (16, 2), (17, 2), (18, 0)] .nil) (fun i => !(Nat.beq i 18)) [pt b2 (cl [jv, .slice (some ⟨pb, po, none⟩) n pc] 27), FP (.slice (some ⟨pb, po, none⟩) n pc) n i H y.pr (hpC ⟨.slice (some ⟨lb, lo, none⟩) (⟨lk, a :: r, lcl, lbr⟩ :: t : List Line).length lc, pv, hv, dv, v' :: avs⟩ ⟨⟨lk, r, lcl, lbr⟩ :: t, puts, job, at_, waited, holds, waits, made, did⟩), pt b4 (cl (lC (.slice (some ⟨ab, ao, none⟩) (a :: r).length ac) ⟨lk, a :: r, lcl, lbr⟩) 120), pt b5 (cl (aC a) 117)] mixed (by kernel_rfl) ?_)
     refine dV rfl (vF rfl fa27_1 rfl) (dr_v rfl (vY rfl ld25) ?_)
     refine dV rfl (vM rfl) (dV rfl (vF rfl fa27_1 rfl) (dr_v rfl (vY rfl ld25) ?_))
     refine dV rfl (vM rfl) (dV rfl (vI (k := i) rfl rfl sl25 rfl hi rfl) (dV rfl (vF rfl fa77_8 rfl) (dr_v rfl (vY rfl ld62) ?_)))
     refine dV rfl (vF rfl fa120_0 rfl) (dr_v rfl (v_ldn (vs := kC lk) rfl ld79 rfl (rds_sub rds_pt rfl)) ?_)
     refine dV rfl (vF rfl fa117_0 rfl) (dr_v rfl (vY rfl ld3) ?_)
     refine dV rfl (v_build (cells := dC (lk, a.1, true, false)) rfl (fun _ => by kernel_rfl)) ?_
     refine dr_eff rfl (st_buildSlice (cells := dC (lk, a.1, true, false)) rfl Tryz.underlying62 inf81 rfl rfl (by kernel_rfl) (ltn rfl) fun b65 => dr_nx ?_)
     refine dr_eff rfl (st_app (v := dv) [dC (lk, a.1, true, false)] rfl rfl Tryz.underlying62 inf81 rfl (by decide) slq (by simp [dC]) rfl (fun j u2 hu2 => at_here (rd_cl (by simpa using hu2))) (by simp [dC, Value.oneCell']) (by simp; omega) (by simp; omega) (ltn rfl) fun v2 hv2 _ => dr_nx ?_)
     refine dV rfl (vI (k := i) rfl rfl sl25 rfl hi rfl) (dV rfl (vF rfl fa77_8 rfl) (dr_eff rfl (st_fp (k := 8) (cells := hpC ⟨.slice (some ⟨lb, lo, none⟩) (⟨lk, a :: r, lcl, lbr⟩ :: t : List Line).length lc, pv, hv, dv, v' :: avs⟩ ⟨⟨lk, r, lcl, lbr⟩ :: t, puts, job, at_, waited, holds, waits, made, did⟩) (cells' := pC (.slice (some ⟨lb, lo, none⟩) (⟨lk, a :: r, lcl, lbr⟩ :: t : List Line).length lc) pv hv v2 ⟨⟨lk, r, lcl, lbr⟩ :: t, puts, job, at_, waited, holds, waits, made, did⟩) rfl rfl sz62 hv2 hi (by decide) rfl slq (dr_nx ?_))))
     refine dr_nil (nK [1, 2, 4, 5] rfl (nT (cS (cS ?_))))
     rw [map_snoc]
     refine cd_pv (pv_add (triv_pure (φ := (v' :: avs).length = ((⟨lk, r, lcl, lbr⟩ : Line) :: t).length) hpu2)) ?_
     refine cd_pv (pv_unfocus (y := y) (G := ⟨.slice (some ⟨lb, lo, none⟩) (⟨lk, a :: r, lcl, lbr⟩ :: t : List Line).length lc, pv, hv, v2, v' :: avs⟩) (p := ⟨⟨lk, r, lcl, lbr⟩ :: t, puts, job, at_, waited, holds, waits, made, did ++ [(lk, a.1, true, false)]⟩) hylen hi) ?_
     have hy2 : YBd n (B + 1) (y.put i ⟨⟨lk, r, lcl, lbr⟩ :: t, puts, job, at_, waited, holds, waits, made, did ++ [(lk, a.1, true, false)]⟩) := (hy.le (Nat.le_succ B)).put ⟨by have := hpi.lines; simp at this ⊢; omega, by have := hpi.puts; simp at this ⊢; omega, by have := hpi.holds; simp at this ⊢; omega, by simp; omega, fun x hx => by
      rcases List.mem_cons.1 hx with rfl | hx
      ·simp; omega
      ·have := hpi.asks x (by simp [hx]); omega, by have := hpi.made; simp at this ⊢; omega, hpi.hs, fun x hx => by
      rcases List.mem_cons.1 hx with rfl | hx
      ·exact hk
      ·exact hpi.ks x (by simp [hx])⟩
     have hW2 := hWp ⟨⟨lk, r, lcl, lbr⟩ :: t, puts, job, at_, waited, holds, waits, made, did ++ [(lk, a.1, true, false)]⟩ rfl
     obtain ⟨s, hs⟩ := Int.eq_ofNat_of_zero_le hk.1
     have hs2 : lk.1.toNat = s := by omega
     rw [hs2, hylen] at he
     refine cR (sV (vF rfl fa117_1 rfl) (sV (vY rfl ld4) ?_))
     refine sN (nK [1, 2, 4, 5, 70] rfl (nT (cC rfl (fun hwt => ?_) (fun hwt => ?_))))
     ·skip
      rw [if_pos hwt] at he
      rw [he]
      have hAns : ∀ H0, Ct Tryz.prog 161 #[.agg #[jv, .slice (some ⟨pb, po, none⟩) n pc], .int .i64 lk.1, .int .i64 i, .bool true] (YO (.slice (some ⟨pb, po, none⟩) n pc) n H0 (y.put i ⟨⟨lk, r, lcl, lbr⟩ :: t, puts, job, at_, waited, holds, waits, made, did ++ [(lk, a.1, true, false)]⟩).pr) fun u h' => u = .tuple #[] ∧ ∃ H', h' = YO (.slice (some ⟨pb, po, none⟩) n pc) n H' ((y.put i ⟨⟨lk, r, lcl, lbr⟩ :: t, puts, job, at_, waited, holds, waits, made, did ++ [(lk, a.1, true, false)]⟩).answer (n + 1) s i true).pr := fun H0 => by
       rw [hs]
       exact ranswer_ct (rend_all (n + 1)) true hy2 (by omega) (by omega) (by omega) (by omega) hj1
      refine cR (sV (v_ldn rfl ld27 rfl rds_pt) ?_)
      refine sV (vF rfl fa120_0 rfl) (sV (vF rfl fa79_0 rfl) (sV (vY rfl ld3) ?_))
      refine sV (vM rfl) (st_cl rfl rfl en161 rfl (hAns _) ?_)
      rintro u h' ⟨rfl, H', rfl⟩
      refine sN (nK [] rfl (nT (cT (xR (xt_pv (pv_add (triv_pure (φ := True) trivial)) ?_)))))
      exact xt_rt rfl ⟨rfl, _, pureR True, rfl⟩ sbq
     ·skip
      rw [if_neg (by rw [show a.2 = false from hwt]; decide)] at he
      rw [he]
      refine cK (xT (cT (xR (xt_pv (pv_add (triv_pure (φ := True) trivial)) ?_))))
      exact xt_rt rfl ⟨rfl, _, pureR True, rfl⟩ sbq
    ·skip
     rw [if_neg (by rw [show lbr = false from hb]; decide)] at he
     rw [he]
     refine cK (xT (cS (cR (sV (vF rfl fa27_1 rfl) (sV (vY rfl ld25) ?_)))))
     refine sV (vM rfl) (sV (vF rfl fa117_0 rfl) (sV (vY rfl ld3) ?_))
     refine sV (vI (k := i) rfl rfl sl25 rfl hi rfl) (sV (vF rfl fa77_2 rfl) (st_fp (k := 2) (cells := hpC ⟨.slice (some ⟨lb, lo, none⟩) (⟨lk, a :: r, lcl, lbr⟩ :: t : List Line).length lc, pv, hv, dv, v' :: avs⟩ ⟨⟨lk, r, lcl, lbr⟩ :: t, puts, job, at_, waited, holds, waits, made, did⟩) (cells' := hpC ⟨.slice (some ⟨lb, lo, none⟩) (⟨lk, a :: r, lcl, lbr⟩ :: t : List Line).length lc, pv, hv, dv, v' :: avs⟩ ⟨⟨lk, r, lcl, lbr⟩ :: t, puts, a.1, at_, waited, holds, waits, made, did⟩) rfl rfl sz3 rfl hi (by decide) rfl slq ?_))
     refine sN (nK [1, 2, 5] rfl (nT (cS (cR (sV (vF rfl fa27_1 rfl) (sV (vY rfl ld25) ?_))))))
     refine sV (vM rfl) (sV (vI (k := i) rfl rfl sl25 rfl hi rfl) (sV (vF rfl fa77_3 rfl) (st_fp (k := 3) (cells' := hpC ⟨.slice (some ⟨lb, lo, none⟩) (⟨lk, a :: r, lcl, lbr⟩ :: t : List Line).length lc, pv, hv, dv, v' :: avs⟩ ⟨⟨lk, r, lcl, lbr⟩ :: t, puts, a.1, 0, waited, holds, waits, made, did⟩) rfl rfl sz3 rfl hi (by decide) rfl slq ?_)))
     refine sN (nK [1, 2, 5] rfl (nT (cR (sV (vF rfl fa27_1 rfl) (sV (vY rfl ld25) ?_)))))
     refine sV (vM rfl) (sV (vF rfl fa117_1 rfl) (sV (vY rfl ld4) ?_))
     refine sV (vI (k := i) rfl rfl sl25 rfl hi rfl) (sV (vF rfl fa77_4 rfl) (st_fp (k := 4) (cells' := hpC ⟨.slice (some ⟨lb, lo, none⟩) (⟨lk, a :: r, lcl, lbr⟩ :: t : List Line).length lc, pv, hv, dv, v' :: avs⟩ ⟨⟨lk, r, lcl, lbr⟩ :: t, puts, a.1, 0, a.2, holds, waits, made, did⟩) rfl rfl sz4 rfl hi (by decide) rfl slq ?_))
     refine sN (nK [] rfl (nx_xt (xt_pv (pv_add (triv_pure (φ := (v' :: avs).length = ((⟨lk, r, lcl, lbr⟩ : Line) :: t).length) hpu2)) ?_)))
     refine xt_pv (pv_unfocus (y := y) (G := ⟨.slice (some ⟨lb, lo, none⟩) (⟨lk, a :: r, lcl, lbr⟩ :: t : List Line).length lc, pv, hv, dv, v' :: avs⟩) (p := ⟨⟨lk, r, lcl, lbr⟩ :: t, puts, a.1, 0, a.2, holds, waits, made, did⟩) hylen hi) ?_
     refine xt_pv (pv_add (triv_pure (φ := True) trivial)) ?_
     exact xt_en rfl ⟨rfl, _, pureR True, rfl⟩ sbq
end
end Go.Wt
namespace Go.Wt
open Go Go.Ck Go.Proofs Go.Proofs.YtboepbencndobaaGreat Fx
attribute [local irreducible] Go.Ck.Sub St Cd Xt Nx DrL LsW
theorem YO_read {pb po pc n : Nat} {H : Nat → PH} {y : Yard} (hok : ∃ g, (Res.star (YO (.slice (some ⟨pb, po, none⟩) n pc) n H y.pr)).ok g) : Row (Res.star (YO (.slice (some ⟨pb, po, none⟩) n pc) n H y.pr)) 9 (procR (Res.star (YO (.slice (some ⟨pb, po, none⟩) n pc) n H y.pr))) (.slice (some ⟨pb, po, none⟩) n pc) ((List.range n).map y.pr) :=
 YO_row hok fun r hr a u h => rd_mem hr a u h
theorem YO_prat {n i : Nat} {y : Yard} (hi : i < n) : ((List.range n).map y.pr)[i]? = some (y.pr i) := by simp [List.getElem?_map, List.getElem?_range, hi]
section
set_option maxHeartbeats 4000000 in
set_option maxRecDepth 100000 in
theorem rask_ct {pb po pc n B i : Nat} {jv : Value} {H : Nat → PH} {y : Yard} (m : Move) (hy : YBd n B y) (hB : B + (n + 3) ≤ 1000000) (hi : i < n) (hm1 : 0 ≤ m.2.1) (hm2 : m.2.1 < n) (hj1 : jv.oneCell' = true) :
  Ct Tryz.prog 160 #[.agg #[jv, .slice (some ⟨pb, po, none⟩) n pc], .int .i64 i, .agg (mC m).toArray] (YO (.slice (some ⟨pb, po, none⟩) n pc) n H y.pr) fun u h' => u = .tuple #[] ∧ ∃ H', h' = YO (.slice (some ⟨pb, po, none⟩) n pc) n H' (y.ask i m).pr := by
 obtain ⟨mk, ms, mj⟩ := m
 simp only at hm1 hm2
 obtain ⟨sp, rfl⟩ := Int.eq_ofNat_of_zero_le hm1
 have hsp : sp < n := by omega
 have hylen := hy.len
 have he : y.ask i (mk, ((sp : Nat) : Int), mj) = if ((sp : Nat) : Int) = (i : Int) then y else match (y.pr i).hold ((sp : Nat) : Int) with
  | none => y.fin i true
  | some h => match (y.pr sp).line h.2.1 with
   | none => y.fin i true
   | some j => if mk = 4 then (y.put sp ((y.pr sp).setl j { (y.pr sp).lines.getD j Line.none with asks := ((y.pr sp).lines.getD j Line.none).asks ++ [(mj, mk == 4)] })).put i { (y.put sp ((y.pr sp).setl j { (y.pr sp).lines.getD j Line.none with asks := ((y.pr sp).lines.getD j Line.none).asks ++ [(mj, mk == 4)] })).pr i with waits := ((sp : Nat) : Int) } else y.put sp ((y.pr sp).setl j { (y.pr sp).lines.getD j Line.none with asks := ((y.pr sp).lines.getD j Line.none).asks ++ [(mj, mk == 4)] }) := rfl
 refine ct_of (n := 78) Tryz.func160 rfl rfl (len rfl) fun hr w0 => ?_
 refine cS (cR (st_bx rfl rfl fun b3 => ?_))
 refine st_bx rfl rfl fun b5 => ?_
 refine sN (nK [1, 3, 5] rfl (nT (cS (cS (cR (sV (vF rfl fa110_1 rfl) (sV (vY rfl ld3) ?_)))))))
 refine sV (vM rfl) (sV (v_eql rfl rfl) (sN (nK [1, 3, 5, 12] rfl (nT (cC rfl (fun hc => ?_) (fun hc => ?_))))))
 ·skip
  rw [if_pos (by simpa using hc)] at he
  rw [he]
  refine cT (xR ?_)
  exact xt_rt rfl ⟨rfl, _, rfl⟩ sbq
 ·skip
  rw [if_neg (by simpa using hc)] at he
  refine cd_pv (pv_pack (L := YO (.slice (some ⟨pb, po, none⟩) n pc) n H y.pr)) ?_
  refine cd_ok .here fun hok => ?_
  have hrow := YO_read hok
  obtain ⟨b, off, cp2, us, hv2, hus, hrd, hX⟩ := hrow.at (YO_prat hi)
  obtain ⟨lv, pv', hv, dv, rfl, hL, hP, hH, hD⟩ := id hX
  have hlen2 : ((List.range n).map y.pr).length = n := by simp
  have hspl : sp < ((List.range n).map y.pr).length := by omega
  have hgsp : ((List.range n).map y.pr)[sp] = y.pr sp := by simp
  have hpb := hy.pb i hi
  have hpbs := hy.pb sp hsp
  rw [hlen2] at hv2
  refine cK (xT (cS (cd_drawh (ork [(0, 2), (1, 1), (2, 2), (3, 2), (4, 1), (5, 2), (6, 1), (7, 1), (8, 2)] .nil) (fun _ => true) mixed (by kernel_rfl) ?_)))
  refine dV rfl (vF rfl fa27_1 rfl) (dr_v rfl (vY rfl ld25) ?_)
  refine dV rfl (vM rfl) (dV rfl (vI (k := i) (congrArg some hv2) rfl sl25 rfl hi rfl) (dr_v rfl (v_ldn rfl ld77 hus hrd) ?_))
  refine dV rfl (vF rfl fa110_1 rfl) (dr_v rfl (vY rfl ld3) ?_)
  refine dr_clr rfl rfl rfl en157 rfl (rhold_ct hX (by have := hpb.holds; omega) ((sp : Nat) : Int)) ?_
  refine dV rfl (vA rfl) (dr_nil (nK [1, 3, 5, 6] rfl (nT (cS (cR (sV (vA rfl) (sN (nT (cS (cS (cR (sV (vM rfl) (sV (v_geq rfl rfl) (sN (nK [1, 3, 5, 6, 7, 22] rfl (nT ?_))))))))))))))))
  rcases holdI_cases (y.pr i) ((sp : Nat) : Int) with ⟨hI, hho⟩ | ⟨hj, hx, hxj, hI, hho⟩
  ·rw [hI]
   rw [hho] at he
   simp only at he
   rw [he]
   refine cC rfl (fun hd => ?_) (fun hd => ?_)
   ·skip
    exact absurd (of_decide_eq_true hd) (by decide)
   ·skip
    refine cK (xT (cS (cS (cR (sV (vM rfl) (sV (v_lss rfl rfl) (sN (nK [1, 3, 5, 7, 35] rfl (nT (cC rfl (fun hd2 => ?_) (fun hd2 => ?_)))))))))))
    ·skip
     refine cS (cR (sV (v_ldn rfl ld27 rfl rds_pt) ?_))
     refine sV (vM rfl) (st_pv (pv_unpack (L := YO (.slice (some ⟨pb, po, none⟩) n pc) n H y.pr)) ?_)
     refine st_cl rfl rfl en156 rfl (rfin_ct true hy (by omega) (by omega) hi hj1) ?_
     rintro u h' ⟨rfl, H', rfl⟩
     refine sN (nK [] rfl (nT (cT (xR ?_))))
     exact xt_rt rfl ⟨rfl, _, rfl⟩ sbq
    ·skip
     exact absurd (of_decide_eq_false hd2) (by decide)
  ·rw [hI]
   rw [hho] at he
   simp only at he
   have hx1 : hx.1 = ((sp : Nat) : Int) := by
    have h1 := List.find?_some hho
    simp only [Bool.and_eq_true, beq_iff_eq] at h1
    exact h1.1
   have hjl : hj < (y.pr i).holds.length := (List.getElem?_eq_some_iff.1 hxj).1
   obtain ⟨c1, c2, c3, cus, hcv, hcus, hcrd, rfl⟩ := hH.at hxj
   refine cC rfl (fun hd => ?_) (fun hd => ?_)
   ·skip
    refine cd_drawh (ork [(0, 1), (1, 2), (2, 1), (3, 2), (4, 2), (5, 2), (6, 1), (7, 2), (8, 2), (9, 1), (10, 1), (11, 2)] .nil) (fun _ => true) mixed (by kernel_rfl) ?_
    refine dr_v rfl (v_ldn rfl ld27 rfl rds_pt) ?_
    refine dV rfl (vF rfl fa27_1 rfl) (dr_v rfl (vY rfl ld25) ?_)
    refine dV rfl (vM rfl) (dV rfl (vI (k := i) (congrArg some hv2) rfl sl25 rfl hi rfl) (dV rfl (vF rfl fa77_5 rfl) (dr_v rfl (vY rfl ld75) ?_)))
    refine dV rfl (vM rfl) (dV rfl (vI (k := hj) (congrArg some hcv) rfl sl75 rfl hjl rfl) (dr_v rfl (v_ldn rfl ld161 hcus hcrd) ?_))
    have hq := rqueue_ct (jv := jv) (h := hx) hrow hspl hx1 (by rw [hgsp]; have := hpbs.lines; omega)
    rw [hgsp] at hq
    refine dr_clr rfl rfl rfl en182 rfl (hq) ?_
    refine dV rfl (vA rfl) (dr_nil (nK [1, 3, 5, 7] rfl (nT (cS (cS (cR (sV (vM rfl) (sV (v_lss rfl rfl) (sN (nK [1, 3, 5, 7, 35] rfl (nT ?_)))))))))))
    cases hln : (y.pr sp).line hx.2.1 with
    | none =>
     rw [hln] at he
     simp only at he
     rw [he]
     refine cC rfl (fun hd2 => ?_) (fun hd2 => ?_)
     ·skip
      refine cS (cR (sV (v_ldn rfl ld27 rfl rds_pt) ?_))
      refine sV (vM rfl) (st_pv (pv_unpack (L := YO (.slice (some ⟨pb, po, none⟩) n pc) n H y.pr)) ?_)
      refine st_cl rfl rfl en156 rfl (rfin_ct true hy (by omega) (by omega) hi hj1) ?_
      rintro u h' ⟨rfl, H', rfl⟩
      refine sN (nK [] rfl (nT (cT (xR ?_))))
      exact xt_rt rfl ⟨rfl, _, rfl⟩ sbq
     ·skip
      exact absurd (of_decide_eq_false hd2) (by decide)
    | some j =>
     rw [hln] at he
     simp only at he
     have hjl2 : j < (y.pr sp).lines.length := by
      unfold Proc.line at hln
      exact (List.findIdx?_eq_some_iff_getElem.1 hln).1
     refine cC rfl (fun hd2 => ?_) (fun hd2 => ?_)
     ·skip
      exact absurd (of_decide_eq_true hd2) (by unfold optI; simp)
     ·skip
      refine cd_pv (pv_unpack (L := YO (.slice (some ⟨pb, po, none⟩) n pc) n H y.pr)) ?_
      refine cd_pv (pv_focus hsp) ?_
      clear hq hrow hok hrd hX hL hP hH hD hcrd
      generalize hG1 : H sp = G1
      generalize hq : y.pr sp = q at hjl2 hpbs he ⊢
      obtain ⟨lv1, pv1, hv1, dv1, av1⟩ := G1
      refine cd_ok (r := pureR (av1.length = q.lines.length)) slq fun hpu => ?_
      have hal := pureR_ok hpu
      have hlr : (lrows av1 q.lines).length = q.lines.length := by simp [lrows, hal]
      refine cd_row (v := lv1) slq (fun _ h0 => by rw [h0] at hlr; simp at hlr; omega) (fun lb lo lc hve _ _ => ?_)
      rw [hlr] at hve
      subst hve
      have hlj : q.lines[j]? = some q.lines[j] := List.getElem?_eq_getElem hjl2
      have haj : av1[j]? = some av1[j] := List.getElem?_eq_getElem (by omega)
      have hgd : q.lines.getD j Line.none = q.lines[j] := by rw [List.getD_eq_getElem?_getD, hlj]; rfl
      rw [hgd] at he
      have hasl := hpbs.asks _ (List.getElem_mem hjl2)
      generalize q.lines[j] = l at *
      generalize ha1 : av1[j] = a1 at *
      obtain ⟨lk, lasks, lcl, lbr⟩ := l
      simp only at he hasl
      have f2 := rd_vrk (E := 120) (b := lb) (o := lo) (n := q.lines.length) (cp := lc) (sz := 5) (m := j) (k := 2) (lrows_at haj hlj) rfl
      refine cd_pv (pv_lfoc (arows_at haj hlj)) ?_
      refine cK (xT (cS (cR (sV (vF rfl fa110_2 rfl) (sV (vY rfl ld3) ?_)))))
      refine sV (vF rfl fa110_0 rfl) (sV (vY rfl ld3) ?_)
      refine sV (v_eql rfl rfl) (sV (v_build (cells := aC (mj, mk == 4)) rfl (fun _ => by kernel_rfl)) ?_)
      refine st_alc al117 fun b8 => ?_
      refine st_stoW rfl rfl sz117 rfl rfl ?_
      refine sN (nK [1, 3, 5, 7, 8] rfl (nT (cS (cd_draw (ork [(0, 2), (1, 1), (2, 2), (3, 1), (4, 2), (5, 2), (6, 1), (7, 2), (8, 2), (9, 1), (10, 2), (11, 1), (12, 2), (13, 2), (14, 1), (15, 2), (16, 2), (17, 2), (18, 1), (19, 1), (20, 0), (21, 0), (22, 2), (23, 2), (24, 0)] .nil) (fun i => !(Nat.beq i 24)) [pt b3 (cl [jv, .slice (some ⟨pb, po, none⟩) n pc] 27), FP (.slice (some ⟨pb, po, none⟩) n pc) n sp H y.pr (hpC ⟨.slice (some ⟨lb, lo, none⟩) q.lines.length lc, pv1, hv1, dv1, av1⟩ q), pt b5 (cl (mC (mk, ((sp : Nat) : Int), mj)) 110), VR (.slice (some ⟨lb, lo, none⟩) q.lines.length lc) 120 5 (lrows av1 q.lines), pt b8 (cl (aC (mj, mk == 4)) 117)] mixed (by kernel_rfl) ?_))))
      refine dV rfl (vF rfl fa27_1 rfl) (dr_v rfl (vY rfl ld25) ?_)
      refine dV rfl (vF rfl fa110_1 rfl) (dr_v rfl (vY rfl ld3) ?_)
      refine dV rfl (vI (k := sp) rfl rfl sl25 rfl hsp rfl) (dV rfl (vF rfl fa77_0 rfl) (dr_v rfl (vY rfl ld73) ?_))
      refine dV rfl (vM rfl) (dV rfl (vF rfl fa27_1 rfl) (dr_v rfl (vY rfl ld25) ?_))
      refine dV rfl (vF rfl fa110_1 rfl) (dr_v rfl (vY rfl ld3) ?_)
      refine dV rfl (vI (k := sp) rfl rfl sl25 rfl hsp rfl) (dV rfl (vF rfl fa77_0 rfl) (dr_v rfl (vY rfl ld73) ?_))
      refine dV rfl (vM rfl) (dV rfl (vI (k := j) rfl rfl sl73 rfl hjl2 rfl) (dV rfl (vF rfl fa120_1 rfl) (dr_v rfl (vY rfl ld118) ?_)))
      refine dr_v rfl (v_ldn rfl ld117 rfl rds_pt) ?_
      refine dr_eff rfl (st_buildSlice (cells := aC (mj, mk == 4)) rfl Tryz.underlying118 inf117 rfl rfl (by kernel_rfl) (ltn rfl) fun b65 => dr_nx ?_)
      refine dr_eff rfl (st_app (v := a1) [aC (mj, mk == 4)] rfl rfl Tryz.underlying118 inf117 rfl (by decide) slq (by simp [aC]) rfl (fun j u2 hu2 => at_here (rd_cl (by simpa using hu2))) (by simp [aC, Value.oneCell']) (by simp; omega) (by simp; omega) (ltn rfl) fun v' hv' _ => dr_nx ?_)
      refine dV rfl (vI (k := j) rfl rfl sl73 rfl hjl2 rfl) (dV rfl (vF rfl fa120_1 rfl) (dr_eff rfl (st_vr (sz := 5) (m := j) (k := 2) rfl rfl sz118 hv' (lrows_at haj hlj) (by decide) (show _ = lrows (av1.set j v') (q.lines.set j ⟨lk, lasks ++ [(mj, mk == 4)], lcl, lbr⟩) from lrows_setl (l := ⟨lk, lasks ++ [(mj, mk == 4)], lcl, lbr⟩) hjl2 hal) slq (dr_nx ?_))))
      rw [map_snoc]
      refine dr_nil (nK [1, 3, 5, 8] rfl (nT (cS (cd_pv (pv_lunf (L := arows av1 q.lines) (j := j) (r := VR v' 117 2 ((lasks ++ [(mj, mk == 4)]).map aC)) (by simp [arows, hal]; omega)) ?_))))
      have e1 : (arows av1 q.lines).set j (VR v' 117 2 ((lasks ++ [(mj, mk == 4)]).map aC)) = arows (av1.set j v') (q.lines.set j ⟨lk, lasks ++ [(mj, mk == 4)], lcl, lbr⟩) := arows_setl (l := ⟨lk, lasks ++ [(mj, mk == 4)], lcl, lbr⟩) hjl2 hal
      rw [e1]
      refine cd_pv (pv_add (triv_pure (φ := (av1.set j v').length = (q.lines.set j ⟨lk, lasks ++ [(mj, mk == 4)], lcl, lbr⟩).length) (by simp [hal]))) ?_
      refine cd_pv (pv_unfocus (y := y) (G := ⟨.slice (some ⟨lb, lo, none⟩) q.lines.length lc, pv1, hv1, dv1, av1.set j v'⟩) (p := q.setl j ⟨lk, lasks ++ [(mj, mk == 4)], lcl, lbr⟩) hylen hsp) ?_
      have hy1 : (y.put sp (q.setl j ⟨lk, lasks ++ [(mj, mk == 4)], lcl, lbr⟩)).procs.length = n := by rw [put_len, hylen]
      refine cR (sV (vF rfl fa117_1 rfl) (sV (vY rfl ld4) ?_))
      refine sN (nK [1, 3, 5, 70] rfl (nT (cC rfl (fun h4 => ?_) (fun h4 => ?_))))
      ·skip
       rw [if_pos (by simpa using h4)] at he
       rw [he]
       generalize y.put sp (q.setl j ⟨lk, lasks ++ [(mj, mk == 4)], lcl, lbr⟩) = y1 at hy1 ⊢
       generalize upd H sp ⟨.slice (some ⟨lb, lo, none⟩) q.lines.length lc, pv1, hv1, dv1, av1.set j v'⟩ = H1
       refine cd_pv (pv_focus hi) ?_
       generalize hG2 : H1 i = G2
       generalize hp2 : y1.pr i = p2
       refine cR (sV (vF rfl fa27_1 rfl) (sV (vY rfl ld25) ?_))
       refine sV (vM rfl) (sV (vF rfl fa110_1 rfl) (sV (vY rfl ld3) ?_))
       refine sV (vI (k := i) rfl rfl sl25 rfl hi rfl) (sV (vF rfl fa77_6 rfl) (st_fp (k := 6) (cells' := hpC G2 { p2 with waits := ((sp : Nat) : Int) }) rfl rfl sz3 rfl hi (by decide) rfl slq ?_))
       refine sN (nK [] rfl (nx_xt (xt_pv (pv_unfocus (y := y1) (G := G2) (p := { p2 with waits := ((sp : Nat) : Int) }) hy1 hi) ?_)))
       exact xt_en rfl ⟨rfl, _, rfl⟩ sbq
      ·skip
       rw [if_neg (by simpa using h4)] at he
       rw [he]
       refine cK ?_
       exact xt_en rfl ⟨rfl, _, rfl⟩ sbq
   ·skip
    exact absurd (of_decide_eq_false hd) (by simp)
end
end Go.Wt
namespace Go.Wt
open Go Go.Ck Go.Proofs Go.Proofs.YtboepbencndobaaGreat Fx
attribute [local irreducible] Go.Ck.Sub St Cd Xt Nx DrL LsW
theorem yard_ext {y z : Yard} (h1 : y.jobs = z.jobs) (h2 : y.procs.length = z.procs.length) (h3 : ∀ k, k < y.procs.length → y.pr k = z.pr k) : y = z := by
 refine Yard.ext' h1 (List.ext_getElem h2 fun k hk hk' => ?_)
 have := h3 k hk
 rwa [pr_get hk, pr_get hk'] at this
theorem lay_eq {y : Yard} {i j : Nat} (hi : i < y.procs.length) (hj : j < y.procs.length) (c : Bool) (asks : List Ask) :
  y.lay i j c asks = (y.put j ((y.pr j).putl ⟨((i : Int), (y.pr i).made), asks, c, false⟩)).put i { (y.put j ((y.pr j).putl ⟨((i : Int), (y.pr i).made), asks, c, false⟩)).pr i with made := (y.pr i).made + 1 } := by
 have hl : y.lay i j c asks = (y.put i { y.pr i with made := (y.pr i).made + 1 }).put j { (y.put i { y.pr i with made := (y.pr i).made + 1 }).pr j with lines := ((y.put i { y.pr i with made := (y.pr i).made + 1 }).pr j).lines ++ [⟨((i : Int), (y.pr i).made), asks, c, false⟩], puts := ((y.put i { y.pr i with made := (y.pr i).made + 1 }).pr j).puts ++ [((i : Int), (y.pr i).made)] } := rfl
 rw [hl]
 generalize hA : y.put i { y.pr i with made := (y.pr i).made + 1 } = A
 generalize hBq : y.put j ((y.pr j).putl ⟨((i : Int), (y.pr i).made), asks, c, false⟩) = Bq
 have eA : A.pr = upd y.pr i { y.pr i with made := (y.pr i).made + 1 } := by rw [← hA]; exact put_pr hi _
 have eB : Bq.pr = upd y.pr j ((y.pr j).putl ⟨((i : Int), (y.pr i).made), asks, c, false⟩) := by rw [← hBq]; exact put_pr hj _
 have lA : A.procs.length = y.procs.length := by rw [← hA, put_len]
 have lB : Bq.procs.length = y.procs.length := by rw [← hBq, put_len]
 have jA : A.jobs = Bq.jobs := by rw [← hA, ← hBq]; rfl
 refine yard_ext jA (by rw [put_len, put_len, lA, lB]) fun k _ => ?_
 rw [put_pr (by omega), put_pr (by omega), eA, eB]
 unfold upd Proc.putl
 by_cases hij : i = j
 ·subst hij
  by_cases hk : k = i
  ·subst hk; simp
  ·simp [hk]
 ·by_cases hk : k = i
  ·subst hk; simp [hij]
  ·by_cases hk2 : k = j
   ·subst hk2; simp [hk, Ne.symm hij]
   ·simp [hk, hk2]
set_option maxRecDepth 100000 in
theorem rholdP_ct {pb po pc n B i : Nat} {H : Nat → PH} {y : Yard} {G : PH} {p : Proc} {c : Int} (hy : YBd n B y) (hB : B ≤ 1000000) (hi : i < n) (hG : H i = G) (hp : y.pr i = { p with pc := c }) (of : Int) :
  Reads Tryz.prog 157 #[.agg (hpC G p).toArray, .int .i64 of] (YO (.slice (some ⟨pb, po, none⟩) n pc) n H y.pr) (.int .i64 (holdI p.holds of p.holds.length)) := by
 refine reads_YO (x := []) fun hok => ?_
 obtain ⟨g, hg⟩ := hok
 have h2 : HoldsF g ((List.range n).map fun k => PR (H k) (y.pr k)) := HoldsF.get hg (r := RS n fun k => PR (H k) (y.pr k)) (by simp [YO])
 have hpr := prl_procR (S := Res.star (YO (.slice (some ⟨pb, po, none⟩) n pc) n H y.pr)) (H := H i) (p := y.pr i) ⟨g, HoldsF.get h2 (List.mem_map.2 ⟨i, by simpa using hi, rfl⟩)⟩ fun a u hu => rd_mem (r := RS n fun k => PR (H k) (y.pr k)) (by simp [YO]) a u (RS_in (R := fun k => PR (H k) (y.pr k)) hi a u hu)
 have hb := (hy.pb i hi).holds
 rw [hG, hp] at hpr
 rw [hp] at hb
 obtain ⟨lv, pv, hv, dv, he, h3, h4, h5, h6⟩ := hpr
 unfold hpC pC at he
 simp only [List.cons.injEq, and_true] at he
 obtain ⟨rfl, rfl, _, _, _, rfl, _, _, rfl⟩ := he
 have hpr' : procR (Res.star (YO (.slice (some ⟨pb, po, none⟩) n pc) n H y.pr)) (hpC G p) p := ⟨_, _, _, _, rfl, h3, h4, h5, h6⟩
 exact rhold_ct hpr' (by simp only at hb; omega) of
section
set_option maxHeartbeats 8000000 in
set_option maxRecDepth 100000 in
theorem rmove_ct {S : Res} {pb po pc n B i : Nat} {jv : Value} {H : Nat → PH} {y : Yard} (hy : YBd n B y) (hB : B + (n + 3) ≤ 1000000) (hi : i < n) (hj : Row S 1 (jobR S) jv y.jobs) (hfj : Fits y.jobs) (hok : JobOk y n i) :
  Ct Tryz.prog 128 #[.agg #[jv, .slice (some ⟨pb, po, none⟩) n pc], .int .i64 i] (S :: YO (.slice (some ⟨pb, po, none⟩) n pc) n H y.pr) fun u h' => u = .tuple #[] ∧ ∃ H', h' = S :: YO (.slice (some ⟨pb, po, none⟩) n pc) n H' (y.move i).pr := by
 have hylen := hy.len
 have hpi := hy.pb i hi
 have hself := put_self (y := y) (i := i) (by omega)
 have he : y.move i = if (y.pr i).pc = (y.jlen (y.pr i).job : Int) then y.fin i false else (y.put i { y.pr i with pc := (y.pr i).pc + 1 }).deed i (y.mv (y.pr i).job (y.pr i).pc) := rfl
 obtain ⟨⟨hj0, hj1⟩, ⟨hp0, hp1⟩, hmv⟩ := hok
 obtain ⟨bj, oj, cj, uj, uja, ujc, rfl, hrdj, hvj, hrj⟩ := jobs_at hj hj1
 subst hvj
 have hll := hfj.2 _ (List.getElem_mem hj1)
 have hgd : y.jobs.getD (y.pr i).job.toNat [] = y.jobs[(y.pr i).job.toNat] := by rw [List.getD_eq_getElem?_getD, List.getElem?_eq_getElem hj1]; rfl
 have hjl : y.jlen (y.pr i).job = (y.jobs[(y.pr i).job.toNat]).length := by unfold Yard.jlen; rw [hgd]
 have hmve : y.mv (y.pr i).job (y.pr i).pc = (y.jobs[(y.pr i).job.toNat]).getD (y.pr i).pc.toNat (0, 0, 0) := by unfold Yard.mv; rw [hgd]
 rw [hgd] at hmv
 rw [hmve, hjl] at he
 rw [hjl] at hp1
 generalize hje : y.jobs[(y.pr i).job.toNat] = job at *
 refine ct_of (n := 141) Tryz.func128 rfl rfl (len rfl) fun hr w0 => ?_
 simp only [List.cons_append]
 refine cS (cR (st_bx rfl rfl fun b2 => ?_))
 refine sN (nK [1, 2] rfl (nT (cS (cd_pv (pv_focus hi) ?_))))
 generalize hG : H i = G
 generalize hp : y.pr i = p at *
 obtain ⟨lv, pv, hv, dv, av⟩ := G
 refine cd_ok (r := pureR (av.length = p.lines.length)) slq fun hpu => ?_
 have hal := pureR_ok hpu
 have hlr : (lrows av p.lines).length = p.lines.length := by simp [lrows]; omega
 refine cd_rowf (v := lv) slq (fun la lc hve _ _ => ?_)
 rw [hlr] at hve
 subst hve
 refine cd_rowf (v := pv) slq (fun qa qc hve _ _ => ?_)
 rw [List.length_map] at hve
 subst hve
 refine cd_rowf (v := hv) slq (fun ha hc hve _ _ => ?_)
 rw [List.length_map] at hve
 subst hve
 refine cd_rowf (v := dv) slq (fun da dc hve _ _ => ?_)
 rw [List.length_map] at hve
 subst hve
 refine cR (sV (vF rfl fa27_1 rfl) (sV (vY rfl ld25) ?_))
 refine sV (vM rfl) (sV (vI (k := i) rfl rfl sl25 rfl hi rfl) (sV (v_ldn (vs := pC (.slice la p.lines.length lc) (.slice qa p.puts.length qc) (.slice ha p.holds.length hc) (.slice da p.did.length dc) p) rfl ld77 rfl (rds_vr (foc_get hi))) ?_))
 refine st_alc al77 fun b4 => ?_
 refine st_stoW rfl rfl sz77 rfl rfl ?_
 refine sN (nK [1, 2, 4] rfl (nT (cS (cS (cd_drawh (ork [(0, 2), (1, 1), (2, 2), (3, 1), (4, 2), (5, 1), (6, 2), (7, 1), (8, 2), (9, 2)] .nil) (fun _ => true) mixed (by kernel_rfl) ?_)))))
 refine dV rfl (vF rfl fa77_3 rfl) (dr_v rfl (vY rfl ld3) ?_)
 refine dV rfl (vF rfl fa27_0 rfl) (dr_v rfl (vY rfl ld22) ?_)
 refine dV rfl (vF rfl fa77_2 rfl) (dr_v rfl (vY rfl ld3) ?_)
 refine dV rfl (vI (k := p.job.toNat) rfl rfl sl22 (by omega) hj1 rfl) (dr_v rfl (vY rfl ld108) ?_)
 refine dV rfl (v_len rfl Tryz.underlying108) (dV rfl (v_eql rfl rfl) (dr_nil (nK [1, 2, 4, 23] rfl (nT (cC rfl (fun hcq => ?_) (fun hcq => ?_))))))
 ·skip
  rw [if_pos (by simpa using hcq)] at he
  rw [he]
  refine cd_pv (pv_unfocus (y := y) (G := ⟨.slice la p.lines.length lc, .slice qa p.puts.length qc, .slice ha p.holds.length hc, .slice da p.did.length dc, av⟩) (p := p) hylen hi) ?_
  rw [hself]
  refine cS (cR (sV (v_ldn rfl ld27 rfl rds_pt) ?_))
  refine sV (vM rfl) (st_cl rfl rfl en156 rfl (rfin_ct false hy (by omega) (by omega) hi rfl) ?_)
  rintro u h' ⟨rfl, H', rfl⟩
  refine sN (nK [] rfl (nT (cT (xR ?_))))
  exact xt_rt rfl ⟨rfl, _, rfl⟩ sbq
 ·skip
  have hne : p.pc ≠ (job.length : Int) := by simpa using hcq
  rw [if_neg hne] at he
  rw [he]
  obtain ⟨q, hq⟩ := Int.eq_ofNat_of_zero_le hp0
  have hq1 : q < job.length := by omega
  have hmq : job.getD p.pc.toNat (0, 0, 0) = job[q] := by rw [hq, Int.toNat_natCast, List.getD_eq_getElem?_getD, List.getElem?_eq_getElem hq1]; rfl
  rw [hmq]
  have hmb := hpi.made
  obtain ⟨hkind, hs1, hs2⟩ := moved_kind (hmv _ (List.getElem_mem hq1)) (by omega)
  obtain ⟨bm, om, cm, um, hvm, hum, hrdm, rfl⟩ := hrj.at (List.getElem?_eq_getElem hq1)
  have hy2 : YBd n B (y.put i { p with pc := p.pc + 1 }) := hy.put ⟨hpi.lines, hpi.puts, hpi.holds, hpi.did, hpi.asks, hpi.made, hpi.hs, hpi.ks⟩
  have hpr2 : (y.put i { p with pc := p.pc + 1 }).pr i = { p with pc := p.pc + 1 } := put_same (by omega) _
  generalize job[q] = m at *
  refine cK (xT (cS (cd_drawh (ork [(0, 2), (1, 1), (2, 2), (3, 1), (4, 2), (5, 1), (6, 2), (7, 1), (8, 2), (9, 1), (10, 0), (11, 0)] .nil) (fun i => !(Nat.beq i 11)) mixed (by kernel_rfl) ?_)))
  refine dV rfl (vF rfl fa27_0 rfl) (dr_v rfl (vY rfl ld22) ?_)
  refine dV rfl (vF rfl fa77_2 rfl) (dr_v rfl (vY rfl ld3) ?_)
  refine dV rfl (vI (k := p.job.toNat) rfl rfl sl22 (by omega) hj1 rfl) (dr_v rfl (vY rfl ld108) ?_)
  refine dV rfl (vF rfl fa77_3 rfl) (dr_v rfl (vY rfl ld3) ?_)
  refine dV rfl (vI (k := q) (congrArg some hvm) rfl sl108 hq hq1 rfl) (dr_v rfl (v_ldn rfl ld110 hum hrdm) ?_)
  refine dr_eff rfl (st_alc al110 fun b5 => dr_nx ?_)
  refine dr_eff rfl (st_stoW rfl rfl sz110 rfl rfl (dr_nx ?_))
  refine dr_nil (nK [1, 2, 4, 5] rfl (nT (cS (cR (sV (vF rfl fa27_1 rfl) (sV (vY rfl ld25) ?_))))))
  refine sV (vM rfl) (sV (vF rfl fa77_3 rfl) (sV (vY rfl ld3) ?_))
  refine sV (v_add rfl rfl (by unfold I64 at *; omega)) (sV (vI (k := i) rfl rfl sl25 rfl hi rfl) (sV (vF rfl fa77_3 rfl) (st_fp (k := 3) (cells' := pC (.slice la p.lines.length lc) (.slice qa p.puts.length qc) (.slice ha p.holds.length hc) (.slice da p.did.length dc) { p with pc := p.pc + 1 }) rfl rfl sz3 rfl hi (by decide) rfl slq ?_)))
  refine sN (nK [1, 2, 4, 5] rfl (nT (cS (cd_pv (pv_unfocus (y := y) (G := ⟨.slice la p.lines.length lc, .slice qa p.puts.length qc, .slice ha p.holds.length hc, .slice da p.did.length dc, av⟩) (p := { p with pc := p.pc + 1 }) hylen hi) ?_))))
  generalize hGe : (⟨.slice la p.lines.length lc, .slice qa p.puts.length qc, .slice ha p.holds.length hc, .slice da p.did.length dc, av⟩ : PH) = G
  have hcell : pC (.slice la p.lines.length lc) (.slice qa p.puts.length qc) (.slice ha p.holds.length hc) (.slice da p.did.length dc) p = hpC G p := by rw [← hGe]; rfl
  have hG1 : upd H i G i = G := upd_same _ _ _
  generalize upd H i G = H1 at hG1 ⊢
  generalize y.put i { p with pc := p.pc + 1 } = y1 at hy2 hpr2 ⊢
  have hy1len := hy2.len
  have hmade : (y1.pr i).made = p.made := by rw [hpr2]
  have hhold : (y1.pr i).hold m.2.1 = p.hold m.2.1 := by rw [hpr2]; rfl
  have hholds : (y1.pr i).holds = p.holds := by rw [hpr2]
  obtain ⟨m1, m2, m3⟩ := m
  simp only at hkind hs1 hs2 hhold
  obtain ⟨sp, rfl⟩ := Int.eq_ofNat_of_zero_le hs1
  have hsp : sp < n := by omega
  refine cR (sV (vM rfl) (sV (vF rfl fa77_7 rfl) (sV (vY rfl ld3) ?_)))
  refine sV (v_build (cells := kC ((i : Int), p.made)) rfl (fun _ => by kernel_rfl)) ?_
  refine st_alc al79 fun b6 => ?_
  refine st_stoW rfl rfl sz79 rfl rfl ?_
  refine sN (nK [1, 2, 4, 5, 6] rfl (nT (cS ?_)))
  rcases hkind with rfl | rfl | rfl | rfl | rfl | rfl
  ·skip
   refine cR (sV (vF rfl fa110_0 rfl) (sV (vY rfl ld3) ?_))
   refine sN (nK [1, 2, 4, 5, 6, 50] rfl (nT (cB (cS (cR (sV (v_eql rfl rfl) (sV (vA rfl) (sN (nK [1, 2, 4, 5, 6, 50, 51] rfl (nT (cd_true rfl ?_)))))))))))
   refine cS (cR (sV (vF rfl fa110_1 rfl) (sV (vY rfl ld3) ?_)))
   refine sV (vM rfl) (sV (v_eql rfl rfl) (sV (vM rfl) (st_cut (k := 11) (d := 63) (v := .bool ((((sp : Nat) : Int) == (i : Int)) || decide (0 ≤ holdI p.holds ((sp : Nat) : Int) p.holds.length))) (fun hcut => bool_want (b := (((sp : Nat) : Int) == (i : Int))) false (fun hg => ?_) (fun hg => ?_)) ?_)))
   ·refine st_sk rfl rfl hg ?_
    iterate 4 refine st_sk rfl rfl hg ?_
    refine sV (vQ (bE rfl hg) rfl) ?_
    exact hcut _ (uH (by first | rfl | (rw [hg]; rfl) | simp_all) (uS rfl (uS rfl (uS rfl (uS rfl (uS rfl (uR)))))))
   ·skip
    refine sG rfl (bG rfl hg) (v_ldn rfl ld77 rfl rds_pt) ?_
    refine sG rfl (bG rfl hg) (vF rfl fa110_1 rfl) (sG rfl (bG rfl hg) (vY rfl ld3) ?_)
    rw [hcell]
    refine st_clrg rfl (bG rfl hg) rfl rfl en157 rfl (rholdP_ct hy2 (by omega) hi hG1 hpr2 ((sp : Nat) : Int)) ?_
    rw [← hcell]
    refine sG rfl (bG rfl hg) (v_geq rfl rfl) (sV (vP (bE rfl hg) rfl) ?_)
    exact hcut _ (uH (by first | rfl | (rw [hg]; rfl) | simp_all) (uS rfl (uS rfl (uS rfl (uS rfl (uS rfl (uR)))))))
   refine sV (vA rfl) (sN (nK [1, 2, 4, 5, 6, 7] rfl (nT (cS (cR (sV (vF rfl fa110_1 rfl) (sV (vY rfl ld3) ?_)))))))
   have hown : ((((sp : Nat) : Int) == (i : Int)) || decide (0 ≤ holdI p.holds ((sp : Nat) : Int) p.holds.length)) = true ↔ (((y1.pr i).hold ((sp : Nat) : Int)).isSome = true ∨ ((sp : Nat) : Int) = i) := by
    rw [hhold, Bool.or_eq_true, beq_iff_eq, decide_eq_true_eq, or_comm]
    rcases holdI_cases p ((sp : Nat) : Int) with ⟨h1, h2⟩ | ⟨j, x, _, h1, h2⟩
    ·rw [h1, h2]; simp
    ·rw [h1, h2]; simp
   generalize ((((sp : Nat) : Int) == (i : Int)) || decide (0 ≤ holdI p.holds ((sp : Nat) : Int) p.holds.length)) = own at *
   refine sV (v_ldn rfl ld79 rfl rds_pt) ?_
   refine sV (vM rfl) (sV (v_build (cells := holdC (((sp : Nat) : Int), ((i : Int), p.made), own)) rfl (fun _ => by kernel_rfl)) ?_)
   refine st_alc al161 fun b8 => ?_
   refine st_stoW rfl rfl sz161 rfl rfl ?_
   refine sN (nK [1, 2, 4, 5, 6, 7, 8] rfl (nT (cS (cS (cR (sV (vM rfl) (sN (nK [1, 2, 4, 5, 6, 8, 69] rfl (nT ?_)))))))))
   have hde : y1.deed i (1, ((sp : Nat) : Int), m3) = y1.enter i ((sp : Nat) : Int) := rfl
   rw [hde]
   refine cC rfl (fun hw => ?_) (fun hw => ?_)
   ·skip
    have hw' : own = true := hw
    subst hw'
    have hent : y1.enter i ((sp : Nat) : Int) = y1.put i { y1.pr i with holds := (y1.pr i).holds ++ [(((sp : Nat) : Int), (0, 0), true)] } := by
     unfold Yard.enter; rw [if_pos (hown.1 rfl)]
    rw [hent]
    refine cR (sV (v_build (cells := kC (0, 0)) rfl (fun _ => by kernel_rfl)) ?_)
    refine sV (vF rfl fa161_1 rfl) (st_storeN rfl rfl sz79 rfl (by simp [kC, Value.oneCell']) slq (by simp [kC, holdC]) ?_)
    refine sN (nK [1, 2, 8] rfl (nT (cd_pv (pv_eq (b := pt b8 (cl (holdC (((sp : Nat) : Int), (0, 0), true)) 161)) rfl) ?_)))
    generalize hhd : (((sp : Nat) : Int), ((0, 0) : Key), true) = hd
    have hzl := hy1len
    have hzh : (y1.pr i).holds.length ≤ 1000000 := by rw [hholds]; have := hpi.holds; omega
    generalize y1 = z at *
    generalize H1 = Hz at *
    refine cd_pv (pv_focus hi) ?_
    generalize hG3 : Hz i = G3
    generalize hq3 : z.pr i = q3 at hzh ⊢
    refine cd_draw (ork [(0, 2), (1, 1), (2, 2), (3, 2), (4, 1), (5, 2), (6, 2), (7, 2), (8, 1), (9, 1), (10, 0), (11, 0), (12, 2), (13, 2), (14, 0)] .nil) (fun i => !(Nat.beq i 14)) [pt b2 (cl [.slice (some ⟨bj, oj, none⟩) y.jobs.length cj, .slice (some ⟨pb, po, none⟩) n pc] 27), FP (.slice (some ⟨pb, po, none⟩) n pc) n i Hz z.pr (hpC G3 q3), pt b8 (cl (holdC hd) 161)] mixed (by kernel_rfl) ?_
    refine dV rfl (vF rfl fa27_1 rfl) (dr_v rfl (vY rfl ld25) ?_)
    refine dV rfl (vM rfl) (dV rfl (vF rfl fa27_1 rfl) (dr_v rfl (vY rfl ld25) ?_))
    refine dV rfl (vM rfl) (dV rfl (vI (k := i) rfl rfl sl25 rfl hi rfl) (dV rfl (vF rfl fa77_5 rfl) (dr_v rfl (vY rfl ld75) ?_)))
    refine dr_v rfl (v_ldn rfl ld161 rfl rds_pt) ?_
    refine dr_eff rfl (st_buildSlice (cells := holdC hd) rfl Tryz.underlying75 inf161 rfl rfl (by kernel_rfl) (ltn rfl) fun b96 => dr_nx ?_)
    refine dr_eff rfl (st_app (v := G3.hv) [holdC hd] rfl rfl Tryz.underlying75 inf161 rfl (by decide) slq (by simp [holdC]) rfl (fun j u2 hu2 => at_here (rd_cl (by simpa using hu2))) (by simp [holdC, Value.oneCell']) (by simp; omega) (by simp; omega) (ltn rfl) fun v' hv' _ => dr_nx ?_)
    refine dV rfl (vI (k := i) rfl rfl sl25 rfl hi rfl) (dV rfl (vF rfl fa77_5 rfl) (dr_eff rfl (st_fp (k := 5) (cells' := hpC { G3 with hv := v' } q3) rfl rfl sz75 hv' hi (by decide) rfl slq (dr_nx ?_))))
    refine dr_nil (nK [] rfl (nx_xt (xB ?_)))
    rw [map_snoc]
    refine xt_pv (pv_unfocus (y := z) (G := { G3 with hv := v' }) (p := { q3 with holds := q3.holds ++ [hd] }) hzl hi) ?_
    exact xt_en rfl ⟨rfl, _, rfl⟩ sbq
   ·skip
    have hw' : own = false := hw
    subst hw'
    have hent : y1.enter i ((sp : Nat) : Int) = (y1.lay i sp false []).put i { (y1.lay i sp false []).pr i with holds := ((y1.lay i sp false []).pr i).holds ++ [(((sp : Nat) : Int), ((i : Int), (y1.pr i).made), false)] } := by
     unfold Yard.enter; rw [if_neg (fun h => by have := hown.2 h; cases this)]; rfl
    rw [hent, lay_eq (by omega) (by omega), hmade]
    refine cS (cR (sV (v_ldn rfl ld27 rfl rds_pt) ?_))
    refine sV (vF rfl fa110_1 rfl) (sV (vY rfl ld3) ?_)
    refine sV (v_ldn rfl ld79 rfl rds_pt) ?_
    refine sV (v_build (cells := lC (.slice none 0 0) ⟨((i : Int), p.made), [], false, false⟩) rfl (fun _ => by kernel_rfl)) ?_
    refine st_pv (pv_add (r := VR (.slice none 0 0) 117 2 []) fun w h hh => hh.vr_nil 117 2) ?_
    refine st_cl rfl rfl en158 rfl (rputs_ct (l := ⟨((i : Int), p.made), [], false, false⟩) hy2 (by omega) hsp rfl) ?_
    rintro u h' ⟨rfl, H2, rfl⟩
    refine sN (nK [1, 2, 4, 8] rfl (nT ?_))
    have hz1 : (y1.put sp ((y1.pr sp).putl ⟨((i : Int), p.made), [], false, false⟩)).procs.length = n := by rw [put_len, hy1len]
    have hzh1 : ((y1.put sp ((y1.pr sp).putl ⟨((i : Int), p.made), [], false, false⟩)).pr i).holds = p.holds := by
     rw [put_pr (by omega)]
     by_cases hk : i = sp
     ·subst hk; rw [upd_same]; exact hholds
     ·rw [upd_ne _ _ hk]; exact hholds
    generalize y1.put sp ((y1.pr sp).putl ⟨((i : Int), p.made), [], false, false⟩) = z1 at *
    refine cd_pv (pv_focus hi) ?_
    generalize hG2 : H2 i = G2
    generalize hq2 : z1.pr i = q2 at *
    refine cR (sV (vF rfl fa27_1 rfl) (sV (vY rfl ld25) ?_))
    refine sV (vM rfl) (sV (vF rfl fa77_7 rfl) (sV (vY rfl ld3) ?_))
    refine sV (v_add rfl rfl (by unfold I64 at *; omega)) (sV (vI (k := i) rfl rfl sl25 rfl hi rfl) (sV (vF rfl fa77_7 rfl) (st_fp (k := 7) (cells' := hpC G2 { q2 with made := p.made + 1 }) rfl rfl sz3 rfl hi (by decide) rfl slq ?_)))
    refine sN (nK [1, 2, 8] rfl (nT (cd_pv (pv_unfocus (y := z1) (G := G2) (p := { q2 with made := p.made + 1 }) hz1 hi) ?_)))
    have hzl : (z1.put i { q2 with made := p.made + 1 }).procs.length = n := by rw [put_len, hz1]
    have hzh : ((z1.put i { q2 with made := p.made + 1 }).pr i).holds.length ≤ 1000000 := by rw [put_same (by omega)]; simp only; rw [hzh1]; have := hpi.holds; omega
    generalize hhd : (((sp : Nat) : Int), (((i : Int), p.made) : Key), false) = hd
    generalize z1.put i { q2 with made := p.made + 1 } = z at *
    generalize upd H2 i G2 = Hz at *
    refine cd_pv (pv_focus hi) ?_
    generalize hG3 : Hz i = G3
    generalize hq3 : z.pr i = q3 at hzh ⊢
    refine cd_draw (ork [(0, 2), (1, 1), (2, 2), (3, 2), (4, 1), (5, 2), (6, 2), (7, 2), (8, 1), (9, 1), (10, 0), (11, 0), (12, 2), (13, 2), (14, 0)] .nil) (fun i => !(Nat.beq i 14)) [pt b2 (cl [.slice (some ⟨bj, oj, none⟩) y.jobs.length cj, .slice (some ⟨pb, po, none⟩) n pc] 27), FP (.slice (some ⟨pb, po, none⟩) n pc) n i Hz z.pr (hpC G3 q3), pt b8 (cl (holdC hd) 161)] mixed (by kernel_rfl) ?_
    refine dV rfl (vF rfl fa27_1 rfl) (dr_v rfl (vY rfl ld25) ?_)
    refine dV rfl (vM rfl) (dV rfl (vF rfl fa27_1 rfl) (dr_v rfl (vY rfl ld25) ?_))
    refine dV rfl (vM rfl) (dV rfl (vI (k := i) rfl rfl sl25 rfl hi rfl) (dV rfl (vF rfl fa77_5 rfl) (dr_v rfl (vY rfl ld75) ?_)))
    refine dr_v rfl (v_ldn rfl ld161 rfl rds_pt) ?_
    refine dr_eff rfl (st_buildSlice (cells := holdC hd) rfl Tryz.underlying75 inf161 rfl rfl (by kernel_rfl) (ltn rfl) fun b96 => dr_nx ?_)
    refine dr_eff rfl (st_app (v := G3.hv) [holdC hd] rfl rfl Tryz.underlying75 inf161 rfl (by decide) slq (by simp [holdC]) rfl (fun j u2 hu2 => at_here (rd_cl (by simpa using hu2))) (by simp [holdC, Value.oneCell']) (by simp; omega) (by simp; omega) (ltn rfl) fun v' hv' _ => dr_nx ?_)
    refine dV rfl (vI (k := i) rfl rfl sl25 rfl hi rfl) (dV rfl (vF rfl fa77_5 rfl) (dr_eff rfl (st_fp (k := 5) (cells' := hpC { G3 with hv := v' } q3) rfl rfl sz75 hv' hi (by decide) rfl slq (dr_nx ?_))))
    refine dr_nil (nK [] rfl (nx_xt (xB ?_)))
    rw [map_snoc]
    refine xt_pv (pv_unfocus (y := z) (G := { G3 with hv := v' }) (p := { q3 with holds := q3.holds ++ [hd] }) hzl hi) ?_
    exact xt_en rfl ⟨rfl, _, rfl⟩ sbq
  ·skip
   refine cR (sV (vF rfl fa110_0 rfl) (sV (vY rfl ld3) ?_))
   refine sN (nK [1, 2, 4, 5, 6, 50] rfl (nT (cB (cS (cR (sV (v_eql rfl rfl) (sV (vA rfl) (sN (nK [1, 2, 4, 5, 6, 50, 51] rfl (nT (cd_false rfl ?_)))))))))))
   refine cS (cR (sV (v_eql rfl rfl) (sV (vA rfl) (sN (nK [1, 2, 4, 5, 6, 50, 100] rfl (nT (cd_true rfl ?_)))))))
   refine cS (cR (sV (vF rfl fa77_5 rfl) (sV (vY rfl ld75) ?_)))
   refine sV (v_len rfl Tryz.underlying75) (sV (v_gtr rfl rfl) (sN (nK [1, 2, 105] rfl (nT (cC rfl (fun hd => ?_) (fun hd => ?_))))))
   ·skip
    have hpos : (y1.pr i).holds ≠ [] := fun h => by rw [hholds] at h; rw [h] at hd; exact absurd (of_decide_eq_true hd) (by simp)
    refine cR (sV (v_ldn rfl ld27 rfl rds_pt) ?_)
    refine sV (vM rfl) (st_cl rfl rfl en159 rfl (rleave_ct hy2 (by omega) hi hpos rfl) ?_)
    rintro u h' ⟨rfl, H', rfl⟩
    refine sN (nK [] rfl (nx_xt (xB ?_)))
    exact xt_en rfl ⟨rfl, H', rfl⟩ sbq
   ·skip
    have hnil : p.holds = [] := List.eq_nil_of_length_eq_zero (by have := of_decide_eq_false hd; omega)
    have hlv : y1.deed i (2, ((sp : Nat) : Int), m3) = y1 := by
     show y1.leave i = y1
     unfold Yard.leave
     rw [hholds, hnil]; rfl
    rw [hlv]
    refine cK (xB ?_)
    exact xt_en rfl ⟨rfl, H1, rfl⟩ sbq
  ·skip
   refine cR (sV (vF rfl fa110_0 rfl) (sV (vY rfl ld3) ?_))
   refine sN (nK [1, 2, 4, 5, 6, 50] rfl (nT (cB (cS (cR (sV (v_eql rfl rfl) (sV (vA rfl) (sN (nK [1, 2, 4, 5, 6, 50, 51] rfl (nT (cd_false rfl ?_)))))))))))
   refine cS (cR (sV (v_eql rfl rfl) (sV (vA rfl) (sN (nK [1, 2, 4, 5, 6, 50, 100] rfl (nT (cd_false rfl ?_)))))))
   refine cS (cS (cR (sV (v_eql rfl rfl) (sV (vA rfl) (sN (nK [1, 2, 4, 5, 6, 50, 109] rfl (nT (cd_true rfl ?_))))))))
   refine cK (xT (cd_true rfl ?_))
   refine cR (sV (v_ldn rfl ld27 rfl rds_pt) ?_)
   refine sV (vM rfl) (sV (v_ldn rfl ld110 rfl rds_pt) ?_)
   refine st_cl rfl rfl en160 rfl (rask_ct (3, ((sp : Nat) : Int), m3) hy2 (by omega) hi hs1 hs2 rfl) ?_
   rintro u h' ⟨rfl, H', rfl⟩
   refine sN (nK [] rfl (nx_xt (xB ?_)))
   exact xt_en rfl ⟨rfl, H', rfl⟩ sbq
  ·skip
   refine cR (sV (vF rfl fa110_0 rfl) (sV (vY rfl ld3) ?_))
   refine sN (nK [1, 2, 4, 5, 6, 50] rfl (nT (cB (cS (cR (sV (v_eql rfl rfl) (sV (vA rfl) (sN (nK [1, 2, 4, 5, 6, 50, 51] rfl (nT (cd_false rfl ?_)))))))))))
   refine cS (cR (sV (v_eql rfl rfl) (sV (vA rfl) (sN (nK [1, 2, 4, 5, 6, 50, 100] rfl (nT (cd_false rfl ?_)))))))
   refine cS (cS (cR (sV (v_eql rfl rfl) (sV (vA rfl) (sN (nK [1, 2, 4, 5, 6, 50, 109] rfl (nT (cd_false rfl ?_))))))))
   refine cR (sV (v_eql rfl rfl) (sV (vA rfl) (sN (nK [1, 2, 4, 5, 6, 50, 109] rfl (nT (cd_true rfl ?_))))))
   refine cR (sV (v_ldn rfl ld27 rfl rds_pt) ?_)
   refine sV (vM rfl) (sV (v_ldn rfl ld110 rfl rds_pt) ?_)
   refine st_cl rfl rfl en160 rfl (rask_ct (4, ((sp : Nat) : Int), m3) hy2 (by omega) hi hs1 hs2 rfl) ?_
   rintro u h' ⟨rfl, H', rfl⟩
   refine sN (nK [] rfl (nx_xt (xB ?_)))
   exact xt_en rfl ⟨rfl, H', rfl⟩ sbq
  ·skip
   refine cR (sV (vF rfl fa110_0 rfl) (sV (vY rfl ld3) ?_))
   refine sN (nK [1, 2, 4, 5, 6, 50] rfl (nT (cB (cS (cR (sV (v_eql rfl rfl) (sV (vA rfl) (sN (nK [1, 2, 4, 5, 6, 50, 51] rfl (nT (cd_false rfl ?_)))))))))))
   refine cS (cR (sV (v_eql rfl rfl) (sV (vA rfl) (sN (nK [1, 2, 4, 5, 6, 50, 100] rfl (nT (cd_false rfl ?_)))))))
   refine cS (cS (cR (sV (v_eql rfl rfl) (sV (vA rfl) (sN (nK [1, 2, 4, 5, 6, 50, 109] rfl (nT (cd_false rfl ?_))))))))
   refine cR (sV (v_eql rfl rfl) (sV (vA rfl) (sN (nK [1, 2, 4, 5, 6, 50, 109] rfl (nT (cd_false rfl ?_))))))
   refine cS (cR (sV (v_eql rfl rfl) (sV (vA rfl) (sN (nK [1, 2, 4, 5, 6, 50, 116] rfl (nT (cd_true rfl ?_)))))))
   refine cS (cR ?_)
   have hsp5 : y1.deed i (5, ((sp : Nat) : Int), m3) = y1.lay i sp true [(m3, false)] := rfl
   rw [hsp5, lay_eq (by omega) (by omega), hmade]
   refine sV (v_ldn rfl ld27 rfl rds_pt) ?_
   refine sV (vF rfl fa110_1 rfl) (sV (vY rfl ld3) ?_)
   refine sV (v_ldn rfl ld79 rfl rds_pt) ?_
   refine sV (vF rfl fa110_2 rfl) (sV (vY rfl ld3) ?_)
   refine sV (v_build (cells := aC (m3, false)) rfl (fun _ => by kernel_rfl)) ?_
   refine st_buildSlice (cells := aC (m3, false)) rfl Tryz.underlying118 inf117 rfl rfl (by kernel_rfl) (ltn rfl) fun b125 => ?_
   refine sV (v_build (cells := lC (.slice (some ⟨b125, 0, none⟩) 1 1) ⟨((i : Int), p.made), [(m3, false)], true, false⟩) rfl (fun _ => by kernel_rfl)) ?_
   refine st_pv (pv_of (E := 117) (sz := 2) [aC (m3, false)] (cells := aC (m3, false)) (b := b125) (n := 1) (by simp) (by simp [aC]) rfl (by decide)) ?_
   refine st_cl rfl rfl en158 rfl (rputs_ct (l := ⟨((i : Int), p.made), [(m3, false)], true, false⟩) hy2 (by omega) hsp rfl) ?_
   rintro u h' ⟨rfl, H2, rfl⟩
   refine sN (nK [1, 2, 4] rfl (nT ?_))
   have hz1 : (y1.put sp ((y1.pr sp).putl ⟨((i : Int), p.made), [(m3, false)], true, false⟩)).procs.length = n := by rw [put_len, hy1len]
   generalize y1.put sp ((y1.pr sp).putl ⟨((i : Int), p.made), [(m3, false)], true, false⟩) = z1 at *
   refine cd_pv (pv_focus hi) ?_
   generalize hG2 : H2 i = G2
   generalize hq2 : z1.pr i = q2 at *
   refine cR (sV (vF rfl fa27_1 rfl) (sV (vY rfl ld25) ?_))
   refine sV (vM rfl) (sV (vF rfl fa77_7 rfl) (sV (vY rfl ld3) ?_))
   refine sV (v_add rfl rfl (by unfold I64 at *; omega)) (sV (vI (k := i) rfl rfl sl25 rfl hi rfl) (sV (vF rfl fa77_7 rfl) (st_fp (k := 7) (cells' := hpC G2 { q2 with made := p.made + 1 }) rfl rfl sz3 rfl hi (by decide) rfl slq ?_)))
   refine sN (nK [] rfl (nx_xt (xB (xt_pv (pv_unfocus (y := z1) (G := G2) (p := { q2 with made := p.made + 1 }) hz1 hi) ?_))))
   exact xt_en rfl ⟨rfl, _, rfl⟩ sbq
  ·skip
   refine cR (sV (vF rfl fa110_0 rfl) (sV (vY rfl ld3) ?_))
   refine sN (nK [1, 2, 4, 5, 6, 50] rfl (nT (cB (cS (cR (sV (v_eql rfl rfl) (sV (vA rfl) (sN (nK [1, 2, 4, 5, 6, 50, 51] rfl (nT (cd_false rfl ?_)))))))))))
   refine cS (cR (sV (v_eql rfl rfl) (sV (vA rfl) (sN (nK [1, 2, 4, 5, 6, 50, 100] rfl (nT (cd_false rfl ?_)))))))
   refine cS (cS (cR (sV (v_eql rfl rfl) (sV (vA rfl) (sN (nK [1, 2, 4, 5, 6, 50, 109] rfl (nT (cd_false rfl ?_))))))))
   refine cR (sV (v_eql rfl rfl) (sV (vA rfl) (sN (nK [1, 2, 4, 5, 6, 50, 109] rfl (nT (cd_false rfl ?_))))))
   refine cS (cR (sV (v_eql rfl rfl) (sV (vA rfl) (sN (nK [1, 2, 4, 5, 6, 50, 116] rfl (nT (cd_false rfl ?_)))))))
   refine cS (cR (sV (v_eql rfl rfl) (sV (vA rfl) (sN (nK [1, 2, 136] rfl (nT (cd_true rfl ?_)))))))
   refine cR (sV (v_ldn rfl ld27 rfl rds_pt) ?_)
   refine sV (vM rfl) (st_cl rfl rfl en156 rfl (rfin_ct true hy2 (by omega) (by omega) hi rfl) ?_)
   rintro u h' ⟨rfl, H', rfl⟩
   refine sN (nK [] rfl (nx_xt (xB ?_)))
   exact xt_en rfl ⟨rfl, H', rfl⟩ sbq
end
end Go.Wt
namespace Go.Wt
open Go Go.Ck Go.Proofs Go.Proofs.YtboepbencndobaaGreat Fx
attribute [local irreducible] Go.Ck.Sub St Cd Xt Nx DrL LsW
def bigG (p : Proc) : Bool := decide (400 < (p.did.length : Int)) || decide (400 < (p.puts.length : Int)) || decide (400 < (p.lines.length : Int)) || decide (20 < (p.holds.length : Int))
def smallQ (p : Proc) : Bool := !bigG p && p.lines.all fun l => decide ((l.asks.length : Int) ≤ 400)
def largeB (y : Yard) : Bool := !y.procs.all smallQ
theorem smallQ_notFull (p : Proc) : smallQ p = (notFull p && decide ((p.holds.length : Int) ≤ 20)) := by
 unfold smallQ bigG notFull
 have e : ∀ a b : Int, decide (a < b) = !decide (b ≤ a) := fun a b => by by_cases h : a < b <;> simp [h] <;> omega
 rw [e, e, e, e]
 generalize decide ((p.did.length : Int) ≤ 400) = a
 generalize decide ((p.puts.length : Int) ≤ 400) = b
 generalize decide ((p.lines.length : Int) ≤ 400) = d
 generalize decide ((p.holds.length : Int) ≤ 20) = f
 generalize (p.lines.all fun l => decide ((l.asks.length : Int) ≤ 400)) = g
 cases a <;> cases b <;> cases d <;> cases f <;> cases g <;> rfl
theorem large_full {y : Yard} (h : y.full = false → ∀ p ∈ y.procs, p.holds.length ≤ 20) : largeB y = y.full := by
 have he : y.full = !y.procs.all notFull := rfl
 unfold largeB
 cases hf : y.full with
 | true =>
  rw [he, Bool.not_eq_true', List.all_eq_false] at hf
  obtain ⟨p, hp, hn⟩ := hf
  rw [Bool.not_eq_true', List.all_eq_false]
  exact ⟨p, hp, by rw [smallQ_notFull]; simp [hn]⟩
 | false =>
  have h20 := h hf
  rw [he, Bool.not_eq_false', List.all_eq_true] at hf
  rw [Bool.not_eq_false', List.all_eq_true]
  intro p hp
  rw [smallQ_notFull, hf p hp, decide_eq_true (by have := h20 p hp; omega)]; rfl
section
variable {S : Res}
set_option maxHeartbeats 1000000 in
set_option maxRecDepth 100000 in
theorem rlarge_ct {jv pv : Value} {y : Yard} (hp : Row S 9 (procR S) pv y.procs) (hl : y.procs.length ≤ 1000000) (hf : ∀ p ∈ y.procs, FitP p) (hj1 : jv.oneCell' = true) : Reads Tryz.prog 130 #[.agg #[jv, pv]] [S] (.bool (largeB y)) := by
 obtain ⟨ap, cp, rfl, _⟩ := id hp
 generalize hr0 : largeB y = r0
 unfold largeB at hr0
 refine ct_of (n := 55) Tryz.func130 rfl rfl (len rfl) fun hr w0 => ?_
 refine cS (cR (st_bx rfl rfl fun b1 => ?_))
 refine sV (vA rfl) (sN (nK [1, 2] rfl (nT (cS (cS (cR (sV (vA rfl) (sN (nT (cB (cd_lq (σ := Nat) (fun i => [(1, .pointer (some ⟨b1, 0, none⟩)), (3, .int .i64 (i : Nat))]) (fun _ => pt b1 (cl [jv, .slice ap y.procs.length cp] 27) :: S :: hr) (fun i => i ≤ y.procs.length ∧ ∀ (j : Nat) (hj : j < y.procs.length), j < i → smallQ y.procs[j] = true) (fun i => y.procs.length - i) 0 ⟨Nat.zero_le _, fun j _ hj => by omega⟩ ?_)))))))))))
 rintro i ⟨hi, hall⟩
 refine cS (cS (cR (sV (vM rfl) (sV (vF rfl fa27_1 rfl) (sV (vY rfl ld25) ?_)))))
 refine sV (v_len rfl Tryz.underlying25) (sV (v_lss rfl rfl) (sN (nK [1, 3, 10] rfl (nT (cC rfl (fun hd => ?_) (fun hd => ?_))))))
 ·skip
  have hlt : i < y.procs.length := by simpa using hd
  obtain ⟨b, off, cp2, us, hv2, hus, hrd, lv, pv', hv, dv, rfl, hL, hP, hH, hD⟩ := hp.at (List.getElem?_eq_getElem hlt)
  obtain ⟨fl, fp, fh, fd, fa⟩ := hf _ (List.getElem_mem hlt)
  obtain ⟨al, cl', rfl, _⟩ := id hL
  obtain ⟨ap', cp', rfl, _⟩ := id hP
  obtain ⟨ah, ch', rfl, _⟩ := id hH
  obtain ⟨ad, cd', rfl, _⟩ := id hD
  have hbad : smallQ y.procs[i] = false → r0 = true := fun h => by rw [← hr0, all_bad (g := smallQ) hlt h]; rfl
  have hgood : smallQ y.procs[i] = true → ∀ (j : Nat) (hj : j < y.procs.length), j < i + 1 → smallQ y.procs[j] = true := fun h j hj' hji => by
   by_cases hjk : j = i
   ·subst hjk; exact h
   ·exact hall j hj' (by omega)
  generalize y.procs[i] = p at *
  refine cK (xT (cS (cB (cS (cR (sV (vF rfl fa27_1 rfl) (sV (vY rfl ld25) ?_)))))))
  refine sV (vM rfl) (sV (vI (k := i) (congrArg some hv2) rfl sl25 rfl hlt rfl) (sV (v_ldn rfl ld77 hus hrd) ?_))
  refine st_alc al77 fun b4 => ?_
  refine st_stoW rfl rfl sz77 rfl rfl ?_
  refine sN (nK [1, 3, 4] rfl (nT (cS (cS (cR (sV (vF rfl fa77_8 rfl) (sV (vY rfl ld62) ?_)))))))
  refine sV (v_len rfl Tryz.underlying62) (sV (v_gtr rfl rfl) (sV (vM rfl) (st_cut (k := 10) (d := 27) (v := .bool (decide (400 < (p.did.length : Int)) || decide (400 < (p.puts.length : Int)))) (fun hcut => bool_want (b := decide (400 < (p.did.length : Int))) false (fun hg => ?_) (fun hg => ?_)) ?_)))
  ·refine st_sk rfl rfl hg ?_
   iterate 3 refine st_sk rfl rfl hg ?_
   refine sV (vQ (bE rfl hg) rfl) ?_
   exact hcut _ (uH (by first | rfl | (rw [hg]; rfl) | simp_all) (uS rfl (uS rfl (uS rfl (uS rfl (uR))))))
  ·skip
   refine sG rfl (bG rfl hg) (vF rfl fa77_1 rfl) (sG rfl (bG rfl hg) (vY rfl ld74) ?_)
   refine sG rfl (bG rfl hg) (v_len rfl Tryz.underlying74) (sG rfl (bG rfl hg) (v_gtr rfl rfl) (sV (vP (bE rfl hg) rfl) ?_))
   exact hcut _ (uH (by first | rfl | (rw [hg]; rfl) | simp_all) (uS rfl (uS rfl (uS rfl (uS rfl (uR))))))
  refine sV (vM rfl) (st_cut (k := 16) (d := 33) (v := .bool (decide (400 < (p.did.length : Int)) || decide (400 < (p.puts.length : Int)) || decide (400 < (p.lines.length : Int)))) (fun hcut => bool_want (b := decide (400 < (p.did.length : Int)) || decide (400 < (p.puts.length : Int))) false (fun hg => ?_) (fun hg => ?_)) ?_)
  ·refine st_sk rfl rfl hg ?_
   iterate 3 refine st_sk rfl rfl hg ?_
   refine sV (vQ (bE rfl hg) rfl) ?_
   exact hcut _ (uH (by first | rfl | (rw [hg]; rfl) | simp_all) (uS rfl (uS rfl (uS rfl (uS rfl (uR))))))
  ·skip
   refine sG rfl (bG rfl hg) (vF rfl fa77_0 rfl) (sG rfl (bG rfl hg) (vY rfl ld73) ?_)
   refine sG rfl (bG rfl hg) (v_len rfl Tryz.underlying73) (sG rfl (bG rfl hg) (v_gtr rfl rfl) (sV (vP (bE rfl hg) rfl) ?_))
   exact hcut _ (uH (by first | rfl | (rw [hg]; rfl) | simp_all) (uS rfl (uS rfl (uS rfl (uS rfl (uR))))))
  refine sV (vM rfl) (st_cut (k := 22) (d := 39) (v := .bool (decide (400 < (p.did.length : Int)) || decide (400 < (p.puts.length : Int)) || decide (400 < (p.lines.length : Int)) || decide (20 < (p.holds.length : Int)))) (fun hcut => bool_want (b := decide (400 < (p.did.length : Int)) || decide (400 < (p.puts.length : Int)) || decide (400 < (p.lines.length : Int))) false (fun hg => ?_) (fun hg => ?_)) ?_)
  ·refine st_sk rfl rfl hg ?_
   iterate 3 refine st_sk rfl rfl hg ?_
   refine sV (vQ (bE rfl hg) rfl) ?_
   exact hcut _ (uH (by first | rfl | (rw [hg]; rfl) | simp_all) (uS rfl (uS rfl (uS rfl (uS rfl (uR))))))
  ·skip
   refine sG rfl (bG rfl hg) (vF rfl fa77_5 rfl) (sG rfl (bG rfl hg) (vY rfl ld75) ?_)
   refine sG rfl (bG rfl hg) (v_len rfl Tryz.underlying75) (sG rfl (bG rfl hg) (v_gtr rfl rfl) (sV (vP (bE rfl hg) rfl) ?_))
   exact hcut _ (uH (by first | rfl | (rw [hg]; rfl) | simp_all) (uS rfl (uS rfl (uS rfl (uS rfl (uR))))))
  refine sN (nK [1, 3, 4, 39] rfl (nT (cC rfl (fun hq => ?_) (fun hq => ?_))))
  ·skip
   have hr := hbad (by unfold smallQ; rw [show bigG p = true from hq]; rfl)
   subst hr
   refine cS (cR (sV (vA rfl) (sN (nK [2] rfl (nT (cT (xR (xW (xR (xR (xW (xR ?_))))))))))))
   exact xt_rt rfl ⟨rfl, rfl⟩ sbq
  ·skip
   refine cK (xT (cS (cR (sV (vA rfl) (sN (nK [1, 3, 4, 5] rfl (nT (cB (cd_lq (σ := Nat) (fun k => [(1, .pointer (some ⟨b1, 0, none⟩)), (3, .int .i64 (i : Nat)), (4, .pointer (some ⟨b4, 0, none⟩)), (5, .int .i64 (k : Nat))]) (fun _ => pt b4 (cl (pC (.slice al p.lines.length cl') (.slice ap' p.puts.length cp') (.slice ah p.holds.length ch') (.slice ad p.did.length cd') p) 77) :: pt b1 (cl [jv, .slice ap y.procs.length cp] 27) :: S :: hr) (fun k => k ≤ p.lines.length ∧ ∀ (j : Nat) (hj : j < p.lines.length), j < k → decide (((p.lines[j]).asks.length : Int) ≤ 400) = true) (fun k => p.lines.length - k) 0 ⟨Nat.zero_le _, fun j _ hj => by omega⟩ ?_)))))))))
   rintro k ⟨hk, hallk⟩
   refine cS (cS (cR (sV (vM rfl) (sV (vF rfl fa77_0 rfl) (sV (vY rfl ld73) ?_)))))
   refine sV (v_len rfl Tryz.underlying73) (sV (v_lss rfl rfl) (sN (nK [1, 3, 4, 5, 44] rfl (nT (cC rfl (fun hd2 => ?_) (fun hd2 => ?_))))))
   ·skip
    have hkt : k < p.lines.length := by simpa using hd2
    obtain ⟨c1, c2, c3, cus, hcv, hcus, hcrd, av, rfl, hA⟩ := hL.at (List.getElem?_eq_getElem hkt)
    obtain ⟨aa, ac, rfl, _⟩ := id hA
    refine cK (xT (cS (cB (cS (cR (sV (vF rfl fa77_0 rfl) (sV (vY rfl ld73) ?_)))))))
    refine sV (vM rfl) (sV (vI (k := k) (congrArg some hcv) rfl sl73 rfl hkt rfl) (sV (vF rfl fa120_1 rfl) (sV (vY rfl ld118) ?_)))
    refine sV (v_len rfl Tryz.underlying118) (sV (v_gtr rfl rfl) (sN (nK [1, 3, 4, 5, 54] rfl (nT (cC rfl (fun hx => ?_) (fun hx => ?_))))))
    ·skip
     have hr := hbad (by
      unfold smallQ
      rw [all_bad (g := fun l : Line => decide ((l.asks.length : Int) ≤ 400)) hkt (by rw [decide_eq_false_iff_not]; simpa using hx), Bool.and_false])
     subst hr
     refine cS (cR (sV (vA rfl) (sN (nK [2] rfl (nT (cT (xW (xR (xR (xW (xW (xR (xR (xW (xR ?_)))))))))))))))
     exact xt_rt rfl ⟨rfl, rfl⟩ sbq
    ·skip
     refine cK (xB (xT (cR (sV (vM rfl) (sV (v_add rfl rfl (by unfold I64 at *; omega)) (sV (vA rfl) (sN (nK [1, 3, 4, 5] rfl (nx_xt (xt_aq (k + 1) ⟨hkt, fun j hj' hji => ?_⟩ (by show _ - _ < _ - _; omega)))))))))))
     by_cases hjk : j = k
     ·subst hjk; simpa using hx
     ·exact hallk j hj' (by omega)
   ·skip
    have hkl : k = p.lines.length := by
     have : ¬ k < p.lines.length := by simpa using hd2
     omega
    refine cd_exit (xE (xE (xY (xB (xT (cR (sV (vM rfl) (sV (v_add rfl rfl (by unfold I64 at *; omega)) (sV (vA rfl) (sN (nK [1, 3] rfl (nx_xt ?_))))))))))))
    refine xt_aq (i + 1) ⟨hlt, hgood (by
     unfold smallQ
     rw [show bigG p = false from hq, all_good (g := fun l : Line => decide ((l.asks.length : Int) ≤ 400)) (fun j hj' => hallk j hj' (by omega))]
     rfl)⟩ (by show _ - _ < _ - _; omega)
 ·skip
  have hin : i = y.procs.length := by
   have : ¬ i < y.procs.length := by simpa using hd
   omega
  rw [all_good (g := smallQ) (fun j hj' => hall j hj' (by omega))] at hr0
  subst hr0
  refine cd_exit (xE (xE (xY (xT (cS (cR (sV (vA rfl) (sN (nK [2] rfl (nT (cT ?_)))))))))))
  exact xt_rt rfl ⟨rfl, rfl⟩ sbq
def stepV (jv : Value) (z : YE) (u : Value) (T : Res) : Prop := ∃ pv, (z.2 = 0 ∧ u = .agg #[jv, pv, .int .i64 0] ∧ Row T 9 (procR T) pv z.1.procs) ∨ (z.2 = 3 ∧ u = .agg #[.slice none 0 0, .slice none 0 0, .int .i64 3])
set_option maxHeartbeats 4000000 in
set_option maxRecDepth 100000 in
theorem rstep_ct {jv pv : Value} {y : Yard} {n B i : Nat} (hy : yardR S [jv, pv] y) (hf : Fit y) (hb : YBd n B y) (hB : B + (n + 3) ≤ 1000000) (hi : i < n) (hok : 0 ≤ (y.pr i).job → JobOk y n i) (hl : (y.pr i).job < 0 → (y.pr i).lines ≠ []) (h20 : (y.step i).full = false → ∀ p ∈ (y.step i).procs, p.holds.length ≤ 20) :
  CtN Tryz.prog 91 #[.agg #[jv, pv], .int .i64 i] [S] (stepV jv (y.stepE i)) := by
 obtain ⟨jv0, pv0, he0, hj, hp⟩ := id hy
 simp only [List.cons.injEq, and_true] at he0
 obtain ⟨rfl, rfl⟩ := he0
 obtain ⟨ja, jc, rfl, _⟩ := id hj
 obtain ⟨pa0, pc0, rfl, _⟩ := id hp
 have hlen := hb.len
 have hn : 0 < n := by omega
 have he : y.stepE i = if (y.step i).full = true then (Yard.nil, 3) else (y.step i, 0) := rfl
 have hst : y.step i = if 0 ≤ (y.pr i).job then y.move i else y.take i := rfl
 have hbs := hb.step hi hok
 have hfs : Fit (y.step i) := fit_of hbs (by omega) (by omega) (by rw [step_jobs]; exact hf.1)
 have hrange : (List.range n).map (y.step i).pr = (y.step i).procs := congrArg Yard.procs (own_range hbs.len)
 have hlf := large_full h20
 have hfc : ∀ (jv' : Value) (pb po pc : Nat) (H' : Nat → PH), jv'.oneCell' = true → Reads Tryz.prog 130 #[.agg #[jv', .slice (some ⟨pb, po, none⟩) n pc]] (YO (.slice (some ⟨pb, po, none⟩) n pc) n H' (y.step i).pr) (.bool (y.step i).full) := fun jv' pb po pc H' hj1 => reads_YO (x := []) fun hok => by
  have h1 := YO_row (S := Res.star (YO (.slice (some ⟨pb, po, none⟩) n pc) n H' (y.step i).pr)) hok fun r hr a u hu => rd_mem hr a u hu
  rw [hrange] at h1
  rw [← hlf]
  exact rlarge_ct (jv := jv') h1 hfs.2.1 hfs.2.2 hj1
 refine ct_of (n := 26) Tryz.func91 rfl rfl (len rfl) fun hr w0 => ?_
 refine cS (cR (st_bx rfl rfl fun b2 => ?_))
 refine st_alc al32 fun b4 => ?_
 refine sN (nK [1, 2, 4] rfl (nT (cS (cR (sV (v_ldn rfl ld27 rfl rds_pt) ?_)))))
 refine st_cl rfl rfl en127 rfl (rcopy_ct hy hf) ?_
 rintro u h' ⟨pv', H, rfl, rfl⟩
 rw [hlen]
 simp only [List.append_assoc, List.cons_append, List.nil_append]
 refine st_row (v := pv') (E := 77) (sz := 9) (rows := (List.range n).map fun k => hpC (H k) (y.pr k)) slq (fun _ h0 => by simp at h0; omega) fun pb po pc hpe _ _ => ?_
 simp only [List.length_map, List.length_range] at hpe
 subst hpe
 refine st_alc al27 fun b5 => ?_
 refine st_stoW rfl rfl sz27 rfl rfl ?_
 refine sN (nK [1, 4, 5] rfl (nT (cS (cS (cd_pv (pv_focus (pv := .slice (some ⟨pb, po, none⟩) n pc) (H := H) (f := y.pr) hi) ?_)))))
 generalize hG : H i = G
 have hself := put_self (y := y) (i := i) (by omega)
 generalize hq : y.pr i = q at *
 refine cR (sV (vF rfl fa27_1 rfl) (sV (vY rfl ld25) ?_))
 refine sV (vM rfl) (sV (vI (k := i) rfl rfl sl25 rfl hi rfl) (sV (vF rfl fa77_2 rfl) (sV (vY rfl ld3) ?_)))
 refine sV (v_geq rfl rfl) (sN (nK [1, 4, 5, 14] rfl (nT (cC rfl (fun hc => ?_) (fun hc => ?_)))))
 ·skip
  have hc2 : 0 ≤ q.job := by simpa using hc
  rw [if_pos hc2] at hst
  refine cd_pv (pv_unfocus (y := y) (G := G) (p := q) hlen hi) ?_
  rw [hself]
  refine cR (sV (v_ldn rfl ld27 rfl rds_pt) ?_)
  refine sV (vM rfl) (st_cl rfl rfl en128 rfl (rmove_ct hb hB hi hj hf.1 (hok hc2)) ?_)
  rintro u h' ⟨rfl, H', rfl⟩
  rw [← hst]
  refine sN (nK [4, 5] rfl (nT (cS (cS ?_))))
  simp only [List.cons_append]
  refine cR (sV (v_ldn rfl ld27 rfl rds_pt) ?_)
  refine st_clr rfl rfl en130 rfl (hfc (.slice ja y.jobs.length jc) pb po pc H' rfl) ?_
  refine sN (nK [4, 5, 22] rfl (nT (cC rfl (fun hfull => ?_) (fun hfull => ?_))))
  ·skip
   rw [if_pos hfull] at he
   rw [he]
   refine cS (cR (sV (v_build (cells := [.slice none 0 0, .slice none 0 0, .int .i64 3]) rfl (fun _ => by kernel_rfl)) ?_))
   refine st_stoW rfl rfl sz32 rfl rfl ?_
   refine sN (nK [4] rfl (nT (cT (xR (xt_vw (vw_pure (φ := True) trivial) ?_)))))
   exact xt_retV (.cellN rfl ld32 rfl slq .nil) ⟨pureR True, rfl, .slice none 0 0, .inr ⟨rfl, rfl⟩⟩ sbr
  ·skip
   rw [if_neg (by simpa using hfull)] at he
   rw [he]
   refine cK (xT (cS (cR (sV (v_ldn rfl ld27 rfl rds_pt) ?_))))
   refine sV (v_build (cells := [.slice ja y.jobs.length jc, .slice (some ⟨pb, po, none⟩) n pc, .int .i64 0]) rfl (fun _ => by kernel_rfl)) ?_
   refine st_stoW rfl rfl sz32 rfl rfl ?_
   refine sN (nK [4] rfl (nT (cT (xt_pv (pv_pack (L := YO (.slice (some ⟨pb, po, none⟩) n pc) n H' (y.step i).pr)) ?_))))
   refine xt_ok .here fun hok2 => ?_
   have hyy := YO_read hok2
   rw [hrange] at hyy
   exact xt_retV (.cellN rfl ld32 rfl slq .nil) ⟨_, rfl, .slice (some ⟨pb, po, none⟩) n pc, .inl ⟨rfl, rfl, hyy⟩⟩ sbr
 ·skip
  have hc2 : q.job < 0 := by
   have : ¬ 0 ≤ q.job := by simpa using hc
   omega
  rw [if_neg (by omega)] at hst
  refine cd_pv (pv_unfocus (y := y) (G := G) (p := q) hlen hi) ?_
  rw [hself]
  refine cR (sV (v_ldn rfl ld27 rfl rds_pt) ?_)
  refine sV (vM rfl) (st_cl rfl rfl en129 rfl (rtake_ct hb hB hi (by rw [hq]; exact hl hc2) rfl) ?_)
  rintro u h' ⟨rfl, H', g0, rfl⟩
  rw [← hst]
  refine sN (nK [4, 5] rfl (nT (cS (cS ?_))))
  simp only [List.cons_append]
  refine cR (sV (v_ldn rfl ld27 rfl rds_pt) ?_)
  refine st_clr rfl rfl en130 rfl (hfc (.slice ja y.jobs.length jc) pb po pc H' rfl) ?_
  refine sN (nK [4, 5, 22] rfl (nT (cC rfl (fun hfull => ?_) (fun hfull => ?_))))
  ·skip
   rw [if_pos hfull] at he
   rw [he]
   refine cS (cR (sV (v_build (cells := [.slice none 0 0, .slice none 0 0, .int .i64 3]) rfl (fun _ => by kernel_rfl)) ?_))
   refine st_stoW rfl rfl sz32 rfl rfl ?_
   refine sN (nK [4] rfl (nT (cT (xR (xt_vw (vw_pure (φ := True) trivial) ?_)))))
   exact xt_retV (.cellN rfl ld32 rfl slq .nil) ⟨pureR True, rfl, .slice none 0 0, .inr ⟨rfl, rfl⟩⟩ sbr
  ·skip
   rw [if_neg (by simpa using hfull)] at he
   rw [he]
   refine cK (xT (cS (cR (sV (v_ldn rfl ld27 rfl rds_pt) ?_))))
   refine sV (v_build (cells := [.slice ja y.jobs.length jc, .slice (some ⟨pb, po, none⟩) n pc, .int .i64 0]) rfl (fun _ => by kernel_rfl)) ?_
   refine st_stoW rfl rfl sz32 rfl rfl ?_
   refine sN (nK [4] rfl (nT (cT (xt_pv (pv_pack (L := YO (.slice (some ⟨pb, po, none⟩) n pc) n H' (y.step i).pr)) ?_))))
   refine xt_ok .here fun hok2 => ?_
   have hyy := YO_read hok2
   rw [hrange] at hyy
   exact xt_retV (.cellN rfl ld32 rfl slq .nil) ⟨_, rfl, .slice (some ⟨pb, po, none⟩) n pc, .inl ⟨rfl, rfl, hyy⟩⟩ sbr
end
end Go.Wt
namespace Go.Wt
open Go Go.Ck Go.Proofs Go.Proofs.YtboepbencndobaaGreat Fx
attribute [local irreducible] Go.Ck.Sub St Cd Xt Nx DrL LsW
def targE (y : Yard) (i : Nat) : Int := if (putsE y i).2 = true then (putsE y i).1 else -1
section
variable {S : Res}
set_option maxHeartbeats 1000000 in
set_option maxRecDepth 100000 in
theorem rtarget_ct {jv pv : Value} {y : Yard} {n i : Nat} (hy : yardR S [jv, pv] y) (hf : Fit y) (hn : y.procs.length = n) (hi : i < n) (hok : 0 ≤ (y.pr i).job → JobOk y n i) :
  Reads Tryz.prog 154 #[.agg #[jv, pv], .int .i64 i] [S] (.int .i64 (targE y i)) := by
 obtain ⟨_, _, he0, hj, hp⟩ := id hy
 simp only [List.cons.injEq, and_true] at he0
 obtain ⟨rfl, rfl⟩ := he0
 subst hn
 obtain ⟨b, off, cp2, us, rfl, hus, hrd, hX⟩ := hp.at (List.getElem?_eq_getElem hi)
 have hfp := hf.2.2 _ (List.getElem_mem hi)
 have hpr := pr_get hi
 have hpe0 : putsE y i = if (decide ((y.pr i).job < 0) || ((y.pr i).pc == (y.jlen (y.pr i).job : Int))) = true then (0, false)
  else ((y.mv (y.pr i).job (y.pr i).pc).2.1, (y.mv (y.pr i).job (y.pr i).pc).1 == 5 || ((y.mv (y.pr i).job (y.pr i).pc).1 == 1 && ((y.mv (y.pr i).job (y.pr i).pc).2.1 != (i : Int)) && !((y.pr i).hold (y.mv (y.pr i).job (y.pr i).pc).2.1).isSome)) := rfl
 rw [← hpr] at hX hfp
 have hte : targE y i = if (putsE y i).2 = true then (putsE y i).1 else -1 := rfl
 generalize targE y i = te at *
 obtain ⟨lv, pv', hv, dv, rfl, hL, hP, hH, hD⟩ := id hX
 obtain ⟨al, cl', rfl, _⟩ := id hL
 obtain ⟨ap', cp', rfl, _⟩ := id hP
 obtain ⟨ah, ch', rfl, _⟩ := id hH
 obtain ⟨ad, cd', rfl, _⟩ := id hD
 generalize hpe : y.pr i = p at *
 refine ct_of (n := 61) Tryz.func154 rfl rfl (len rfl) fun hr w0 => ?_
 refine cS (cR (st_bx rfl rfl fun b2 => ?_))
 refine sV (vA rfl) (sN (nK [1, 2, 4] rfl (nT (cS (cR (sV (vF rfl fa27_1 rfl) (sV (vY rfl ld25) ?_)))))))
 refine sV (vM rfl) (sV (vI (k := i) rfl rfl sl25 rfl hi rfl) (sV (v_ldn rfl ld77 rfl hrd) ?_))
 refine st_alc al77 fun b5 => ?_
 refine st_stoW rfl rfl sz77 rfl rfl ?_
 refine sN (nK [1, 2, 4, 5] rfl (nT (cS (cS (cd_drawh (ork [(0, 2), (1, 1), (2, 2), (3, 2), (4, 2), (5, 1), (6, 2), (7, 1), (8, 2), (9, 1), (10, 2), (11, 2), (12, 1), (13, 2), (14, 2), (15, 2)] .nil) (fun _ => true) mixed (by kernel_rfl) ?_)))))
 refine dV rfl (vF rfl fa77_2 rfl) (dr_v rfl (vY rfl ld3) ?_)
 refine dV rfl (v_lss rfl rfl) (dV rfl (vM rfl) (dr_cut (k := 12) (d := 27) (v := .bool (decide (p.job < 0) || (p.pc == (y.jlen p.job : Int)))) (fun hcut => bool_want (b := decide (p.job < 0)) false (fun hg => ?_) (fun hg => ?_)) ?_))
 ·refine dp_sk rfl rfl rfl hg ?_
  refine dr_sk rfl rfl rfl hg ?_
  refine dp_sk rfl rfl rfl hg ?_
  refine dr_sk rfl rfl rfl hg ?_
  refine dp_sk rfl rfl rfl hg ?_
  refine dr_sk rfl rfl rfl hg ?_
  iterate 2 refine dp_sk rfl rfl rfl hg ?_
  refine dr_sk rfl rfl rfl hg ?_
  iterate 2 refine dp_sk rfl rfl rfl hg ?_
  refine dV rfl (vQ (bE rfl hg) rfl) ?_
  exact hcut _ (uH (by first | rfl | (rw [hg]; rfl) | simp_all) (uS rfl (uS rfl (uS rfl (uS rfl (uS rfl (uS rfl (uS rfl (uS rfl (uS rfl (uS rfl (uS rfl (uR)))))))))))))
 ·skip
  have hj0 : 0 ≤ p.job := by have := of_decide_eq_false hg; omega
  have hk := hok hj0
  obtain ⟨⟨_, hj1⟩, hpc, hmv⟩ := hk
  rw [hpe] at hj1
  obtain ⟨bj, oj, cj, uj, uja, ujc, hjv, hrdj, huj, hrj⟩ := jobs_at hj hj1
  subst huj
  have hjl : y.jlen p.job = (y.jobs[p.job.toNat]).length := by unfold Yard.jlen; rw [List.getD_eq_getElem?_getD, List.getElem?_eq_getElem hj1]; rfl
  rw [← hjl] at hrdj
  refine dp_vg rfl rfl (bG rfl hg) (vF rfl fa77_3 rfl) (dr_vg rfl rfl (bG rfl hg) (vY rfl ld3) ?_)
  refine dp_vg rfl rfl (bG rfl hg) (vF rfl fa27_0 rfl) (dr_vg rfl rfl (bG rfl hg) (vY rfl ld22) ?_)
  refine dp_vg rfl rfl (bG rfl hg) (vF rfl fa77_2 rfl) (dr_vg rfl rfl (bG rfl hg) (vY rfl ld3) ?_)
  refine dp_vg rfl rfl (bG rfl hg) (v_max rfl rfl hj0) (dp_vg rfl rfl (bG rfl hg) (vI (k := p.job.toNat) (congrArg some hjv) rfl sl22 (by omega) hj1 rfl) (dr_vg rfl rfl (bG rfl hg) (vY rfl ld108) ?_))
  refine dp_vg rfl rfl (bG rfl hg) (v_len rfl Tryz.underlying108) (dp_vg rfl rfl (bG rfl hg) (v_eql rfl rfl) (dV rfl (vP (bE rfl hg) rfl) ?_))
  exact hcut _ (uH (by first | rfl | (rw [hg]; rfl) | simp_all) (uS rfl (uS rfl (uS rfl (uS rfl (uS rfl (uS rfl (uS rfl (uS rfl (uS rfl (uS rfl (uS rfl (uR)))))))))))))
 refine dr_nil (nK [1, 2, 4, 5, 27] rfl (nT (cC rfl (fun hc => ?_) (fun hc => ?_))))
 ·skip
  rw [if_pos hc] at hpe0
  rw [hpe0, if_neg (by decide)] at hte
  subst hte
  refine cS (cR (sV (vA rfl) (sN (nK [4] rfl (nT (cT (xR ?_)))))))
  exact xt_rt rfl ⟨rfl, rfl⟩ sbq
 ·skip
  rw [if_neg (by simpa using hc)] at hpe0
  have hc2 : 0 ≤ p.job ∧ p.pc ≠ (y.jlen p.job : Int) := by
   simp only [Bool.or_eq_false_iff, decide_eq_false_iff_not, beq_eq_false_iff_ne] at hc
   exact ⟨by omega, hc.2⟩
  obtain ⟨⟨_, hj1⟩, ⟨hpc0, hpc1⟩, hmv⟩ := hok hc2.1
  rw [hpe] at hj1 hpc0 hpc1 hmv
  obtain ⟨bj, oj, cj, uj, uja, ujc, hjv, hrdj, huj, hrj⟩ := jobs_at hj hj1
  subst huj
  have hjl : y.jlen p.job = (y.jobs[p.job.toNat]).length := by unfold Yard.jlen; rw [List.getD_eq_getElem?_getD, List.getElem?_eq_getElem hj1]; rfl
  obtain ⟨q, hq⟩ := Int.eq_ofNat_of_zero_le hpc0
  have hq1 : q < (y.jobs[p.job.toNat]).length := by omega
  have hmve : y.mv p.job p.pc = (y.jobs[p.job.toNat])[q] := by
   unfold Yard.mv
   rw [List.getD_eq_getElem?_getD (l := y.jobs), List.getElem?_eq_getElem hj1, Option.getD_some, hq, Int.toNat_natCast, List.getD_eq_getElem?_getD, List.getElem?_eq_getElem hq1]; rfl
  obtain ⟨bm, om, cm, um, hvm, hum, hrdm, rfl⟩ := hrj.at (List.getElem?_eq_getElem hq1)
  rw [hmve] at hpe0
  generalize (y.jobs[p.job.toNat])[q] = m at *
  rw [hpe0] at hte
  simp only at hte
  refine cK (xT (cS (cd_drawh (ork [(0, 2), (1, 1), (2, 2), (3, 1), (4, 2), (5, 1), (6, 2), (7, 1), (8, 2), (9, 1), (10, 0), (11, 0)] .nil) (fun i => !(Nat.beq i 11)) mixed (by kernel_rfl) ?_)))
  refine dV rfl (vF rfl fa27_0 rfl) (dr_v rfl (vY rfl ld22) ?_)
  refine dV rfl (vF rfl fa77_2 rfl) (dr_v rfl (vY rfl ld3) ?_)
  refine dV rfl (vI (k := p.job.toNat) (congrArg some hjv) rfl sl22 (by omega) hj1 rfl) (dr_v rfl (vY rfl ld108) ?_)
  refine dV rfl (vF rfl fa77_3 rfl) (dr_v rfl (vY rfl ld3) ?_)
  refine dV rfl (vI (k := q) (congrArg some hvm) rfl sl108 hq hq1 rfl) (dr_v rfl (v_ldn rfl ld110 hum hrdm) ?_)
  refine dr_eff rfl (st_alc al110 fun b6 => dr_nx ?_)
  refine dr_eff rfl (st_stoW rfl rfl sz110 rfl rfl (dr_nx ?_))
  refine dr_nil (nK [1, 4, 5, 6] rfl (nT (cS (cS (cR (sV (vF rfl fa110_0 rfl) (sV (vY rfl ld3) ?_)))))))
  refine sV (v_eql rfl rfl) (sN (nK [1, 4, 5, 6, 40] rfl (nT (cC rfl (fun h5 => ?_) (fun h5 => ?_)))))
  ·skip
   rw [show (m.1 == 5) = true from h5, Bool.true_or, if_pos rfl] at hte
   subst hte
   refine cS (cR (sV (vF rfl fa110_1 rfl) (sV (vY rfl ld3) ?_)))
   refine sV (vA rfl) (sN (nK [4] rfl (nT (cT (xR ?_)))))
   exact xt_rt rfl ⟨rfl, rfl⟩ sbq
  ·skip
   rw [show (m.1 == 5) = false from h5, Bool.false_or] at hte
   refine cK (xT (cS (cS (cR (sV (vF rfl fa110_0 rfl) (sV (vY rfl ld3) ?_))))))
   refine sV (v_eql rfl rfl) (sV (vM rfl) (st_cut (k := 9) (d := 51) (v := .bool (m.1 == 1 && (m.2.1 != (i : Int)))) (fun hcut => bool_want (b := (m.1 == 1)) true (fun hg => ?_) (fun hg => ?_)) ?_))
   ·refine st_sk rfl rfl hg ?_
    iterate 3 refine st_sk rfl rfl hg ?_
    refine sV (vP (bE rfl hg) rfl) ?_
    exact hcut _ (uH (by first | rfl | (rw [hg]; rfl) | simp_all) (uS rfl (uS rfl (uS rfl (uS rfl (uR))))))
   ·skip
    refine sG rfl (bG rfl hg) (vF rfl fa110_1 rfl) (sG rfl (bG rfl hg) (vY rfl ld3) ?_)
    refine sG rfl (bG rfl hg) (vM rfl) (sG rfl (bG rfl hg) (v_neq rfl rfl) (sV (vQ (bE rfl hg) rfl) ?_))
    exact hcut _ (uH (by first | rfl | (rw [hg]; rfl) | simp_all) (uS rfl (uS rfl (uS rfl (uS rfl (uR))))))
   refine sV (vM rfl) (st_cut (k := 16) (d := 58) (v := .bool (m.1 == 1 && (m.2.1 != (i : Int)) && decide (holdI p.holds m.2.1 p.holds.length < 0))) (fun hcut => bool_want (b := (m.1 == 1 && (m.2.1 != (i : Int)))) true (fun hg => ?_) (fun hg => ?_)) ?_)
   ·refine st_sk rfl rfl hg ?_
    iterate 4 refine st_sk rfl rfl hg ?_
    refine sV (vP (bE rfl hg) rfl) ?_
    exact hcut _ (uH (by first | rfl | (rw [hg]; rfl) | simp_all) (uS rfl (uS rfl (uS rfl (uS rfl (uS rfl (uR)))))))
   ·skip
    refine sG rfl (bG rfl hg) (v_ldn rfl ld77 rfl rds_pt) ?_
    refine sG rfl (bG rfl hg) (vF rfl fa110_1 rfl) (sG rfl (bG rfl hg) (vY rfl ld3) ?_)
    refine st_clrg rfl (bG rfl hg) rfl rfl en157 rfl (rhold_ct hX hfp.2.2.1 m.2.1) ?_
    refine sG rfl (bG rfl hg) (v_lss rfl rfl) (sV (vQ (bE rfl hg) rfl) ?_)
    exact hcut _ (uH (by first | rfl | (rw [hg]; rfl) | simp_all) (uS rfl (uS rfl (uS rfl (uS rfl (uS rfl (uR)))))))
   refine sN (nK [4, 6, 58] rfl (nT ?_))
   have hh : decide (holdI p.holds m.2.1 p.holds.length < 0) = !(p.hold m.2.1).isSome := by
    rcases holdI_cases p m.2.1 with ⟨h1, h2⟩ | ⟨j, x, _, h1, h2⟩
    ·rw [h1, h2]; rfl
    ·rw [h1, h2]; simp
   rw [← hh] at hte
   refine cC rfl (fun h6 => ?_) (fun h6 => ?_)
   ·skip
    rw [if_pos h6] at hte
    subst hte
    refine cS (cR (sV (vF rfl fa110_1 rfl) (sV (vY rfl ld3) ?_)))
    refine sV (vA rfl) (sN (nK [4] rfl (nT (cT (xR ?_)))))
    exact xt_rt rfl ⟨rfl, rfl⟩ sbq
   ·skip
    rw [if_neg (by rw [h6]; decide)] at hte
    subst hte
    refine cK (xT (cS (cR (sV (vA rfl) (sN (nK [4] rfl (nT (cT ?_))))))))
    exact xt_rt rfl ⟨rfl, rfl⟩ sbq
set_option maxHeartbeats 1000000 in
set_option maxRecDepth 100000 in
theorem rmay_ct {jv pv ov : Value} {y : Yard} {n i : Nat} {orders : List (List Key)} (hy : yardR S [jv, pv] y) (hf : Fit y) (hn : y.procs.length = n) (hi : i < n) (hok : 0 ≤ (y.pr i).job → JobOk y n i) (ho : Row S 1 (nR S 2 kC) ov orders) (hol : orders.length = n) (hol2 : ∀ l ∈ orders, l.length ≤ 1000000) :
  Reads Tryz.prog 126 #[.agg #[jv, pv], .int .i64 i, ov] [S] (.bool (mayE orders y i)) := by
 obtain ⟨jv0, pv0, he0, hj, hp⟩ := id hy
 simp only [List.cons.injEq, and_true] at he0
 obtain ⟨rfl, rfl⟩ := he0
 obtain ⟨ja, jc, rfl, _⟩ := id hj
 obtain ⟨pa, pc, rfl, _⟩ := id hp
 have htg := rtarget_ct hy hf hn hi hok
 have hsp := putsE_spot hn (by omega) hok
 generalize hr0 : mayE orders y i = r0
 unfold mayE at hr0
 unfold targE at htg
 generalize putsE y i = pe at *
 obtain ⟨sp, is⟩ := pe
 simp only at hr0 htg hsp
 obtain ⟨t, rfl⟩ := Int.eq_ofNat_of_zero_le hsp.1
 have htn : t < n := by omega
 have htl : t < y.procs.length := by omega
 have hto : t < orders.length := by omega
 rw [Int.toNat_natCast, pr_get htl, pr_get (show i < y.procs.length by omega), List.getD_eq_getElem?_getD (l := orders), List.getElem?_eq_getElem hto, Option.getD_some] at hr0
 refine ct_of (n := 46) Tryz.func126 rfl rfl (len rfl) fun hr w0 => ?_
 refine cS (cR (st_bx rfl rfl fun b3 => ?_))
 refine sV (vA rfl) (sN (nK [1, 2, 3, 6] rfl (nT (cS (cR (sV (v_ldn rfl ld27 rfl rds_pt) ?_))))))
 refine sV (vM rfl) (st_clr rfl rfl en154 rfl (htg) ?_)
 refine sV (vA rfl) (sN (nK [1, 2, 3, 6, 7] rfl (nT (cS (cS (cR (sV (vM rfl) (sV (v_lss rfl rfl) (sN (nK [1, 2, 3, 6, 7, 13] rfl (nT ?_)))))))))))
 cases is with
 | false =>
  rw [if_neg (by decide)]
  obtain rfl : r0 = true := by rw [← hr0]; rfl
  refine cC rfl (fun hd => ?_) (fun hd => ?_)
  ·skip
   refine cS (cR (sV (vA rfl) (sN (nK [6] rfl (nT (cT (xR ?_)))))))
   exact xt_rt rfl ⟨rfl, rfl⟩ sbq
  ·skip
   exact absurd (of_decide_eq_false hd) (by decide)
 | true =>
  rw [if_pos rfl]
  rw [Bool.not_true, Bool.false_or] at hr0
  refine cC rfl (fun hd => ?_) (fun hd => ?_)
  ·skip
   exact absurd (of_decide_eq_true hd) (by omega)
  ·skip
   obtain ⟨bt, ot, ct, ust, hvt, hust, hrdt, lv, qv, hv, dv, rfl, hL, hP, hH, hD⟩ := hp.at (List.getElem?_eq_getElem htl)
   obtain ⟨qa, qc, rfl, _⟩ := id hP
   obtain ⟨bi, oi, ci, usi, hvi, husi, hrdi, lv2, qv2, hv2, dv2, rfl, _⟩ := hp.at (List.getElem?_eq_getElem (show i < y.procs.length by omega))
   obtain ⟨bo, oo, co, uo, hov, hrdo, uo2, huo, hO⟩ := ho.at1 (List.getElem?_eq_getElem hto)
   simp only [List.cons.injEq, and_true] at huo
   subst huo
   obtain ⟨oa, oc, rfl, _⟩ := id hO
   have hol3 := hol2 _ (List.getElem_mem hto)
   generalize orders[t] = ol at *
   refine cK (xT (cS (cR (sV (vF rfl fa27_1 rfl) (sV (vY rfl ld25) ?_)))))
   refine sV (vM rfl) (sV (vI (k := t) (congrArg some hvt) rfl sl25 rfl htl rfl) (sV (vF rfl fa77_1 rfl) (sV (vY rfl ld74) ?_)))
   refine sV (v_len rfl Tryz.underlying74) (sV (vA rfl) (sN (nK [1, 2, 3, 6, 7, 8] rfl (nT (cS (cd_drawh (ork [(0, 2), (1, 2), (2, 2), (3, 2), (4, 1), (5, 2), (6, 2), (7, 2), (8, 2), (9, 2), (10, 2), (11, 1), (12, 2), (13, 2), (14, 1), (15, 2), (16, 2), (17, 1), (18, 2), (19, 2), (20, 2), (21, 1), (22, 2), (23, 1), (24, 2), (25, 2)] .nil) (fun _ => true) mixed (by kernel_rfl) ?_))))))
   refine dV rfl (vM rfl) (dV rfl (vM rfl) (dV rfl (vM rfl) (dV rfl (vI (k := t) (congrArg some hov) rfl sl92 rfl hto rfl) (dr_v rfl (vY rfl ld74) ?_))))
   refine dV rfl (v_len rfl Tryz.underlying74) (dV rfl (v_lss rfl rfl) (dV rfl (vM rfl) ?_))
   generalize heb : (ol.getD (y.procs[t]).puts.length (0, 0) == ((i : Int), (y.procs[i]).made)) = eb at hr0
   refine dr_cut (k := 17) (d := 45) (v := .bool (decide (((y.procs[t]).puts.length : Int) < (ol.length : Int)) && eb)) (fun hcut => bool_want (b := decide (((y.procs[t]).puts.length : Int) < (ol.length : Int))) true (fun hg => ?_) (fun hg => ?_)) ?_
   ·refine dp_sk rfl rfl rfl hg ?_
    iterate 2 refine dp_sk rfl rfl rfl hg ?_
    refine dr_sk rfl rfl rfl hg ?_
    iterate 2 refine dp_sk rfl rfl rfl hg ?_
    refine dr_sk rfl rfl rfl hg ?_
    iterate 2 refine dp_sk rfl rfl rfl hg ?_
    refine dr_sk rfl rfl rfl hg ?_
    iterate 3 refine dp_sk rfl rfl rfl hg ?_
    refine dr_sk rfl rfl rfl hg ?_
    refine dp_sk rfl rfl rfl hg ?_
    refine dr_sk rfl rfl rfl hg ?_
    refine dV rfl (vP (bE rfl hg) rfl) ?_
    exact hcut _ (uH (by first | rfl | (rw [hg]; rfl) | simp_all) (uS rfl (uS rfl (uS rfl (uS rfl (uS rfl (uS rfl (uS rfl (uS rfl (uS rfl (uS rfl (uS rfl (uS rfl (uS rfl (uS rfl (uS rfl (uS rfl (uR))))))))))))))))))
   ·skip
    have hlt : (y.procs[t]).puts.length < ol.length := by have := of_decide_eq_true hg; omega
    rw [List.getD_eq_getElem?_getD, List.getElem?_eq_getElem hlt, Option.getD_some] at heb
    obtain ⟨bk, ok, ck, uk, hkv, huk, hrdk, rfl⟩ := hO.at (List.getElem?_eq_getElem hlt)
    generalize ol[(y.procs[t]).puts.length] = kk at *
    refine dp_vg rfl rfl (bG rfl hg) (vM rfl) (dp_vg rfl rfl (bG rfl hg) (vM rfl) (dp_vg rfl rfl (bG rfl hg) (vI (k := t) (congrArg some hov) rfl sl92 rfl hto rfl) (dr_vg rfl rfl (bG rfl hg) (vY rfl ld74) ?_)))
    refine dp_vg rfl rfl (bG rfl hg) (vM rfl) (dp_vg rfl rfl (bG rfl hg) (vI (k := (y.procs[t]).puts.length) (congrArg some hkv) rfl sl74 rfl hlt rfl) (dr_vg rfl rfl (bG rfl hg) (v_ldn rfl ld79 huk hrdk) ?_))
    refine dp_vg rfl rfl (bG rfl hg) (vM rfl) (dp_vg rfl rfl (bG rfl hg) (vF rfl fa27_1 rfl) (dr_vg rfl rfl (bG rfl hg) (vY rfl ld25) ?_))
    refine dp_vg rfl rfl (bG rfl hg) (vM rfl) (dp_vg rfl rfl (bG rfl hg) (vI (k := i) (congrArg some hvi) rfl sl25 rfl (by omega) rfl) (dp_vg rfl rfl (bG rfl hg) (vF rfl fa77_7 rfl) (dr_vg rfl rfl (bG rfl hg) (vY rfl ld3) ?_)))
    refine dp_vg rfl rfl (bG rfl hg) (v_build (cells := kC ((i : Int), (y.procs[i]).made)) rfl (fun _ => by kernel_rfl)) ?_
    refine dr_vg rfl rfl (bG rfl hg) (v_eql_T eq79 rfl rfl) ?_
    rw [heb]
    refine dV rfl (vQ (bE rfl hg) rfl) ?_
    exact hcut _ (uH (by first | rfl | (rw [hg]; rfl) | simp_all) (uS rfl (uS rfl (uS rfl (uS rfl (uS rfl (uS rfl (uS rfl (uS rfl (uS rfl (uS rfl (uS rfl (uS rfl (uS rfl (uS rfl (uS rfl (uS rfl (uR))))))))))))))))))
   rw [hr0]
   refine dV rfl (vA rfl) (dr_nil (nK [6] rfl (nT (cT ?_))))
   exact xt_rt rfl ⟨rfl, rfl⟩ sbq
set_option maxHeartbeats 1000000 in
set_option maxRecDepth 100000 in
theorem rfirst_ct {jv pv ov : Value} {y : Yard} {n : Nat} {orders : List (List Key)} (hy : yardR S [jv, pv] y) (hf : Fit y) (hn : y.procs.length = n) (hyr : y.right = true) (ho : Row S 1 (nR S 2 kC) ov orders) (hol : orders.length = n) (hol2 : ∀ l ∈ orders, l.length ≤ 1000000) :
  CtN Tryz.prog 90 #[.agg #[jv, pv], ov] [S] fun u _ => u = .int .i64 (optI (y.ready.find? (mayE orders y))) := by
 obtain ⟨jv0, pv0, he0, hj, hp⟩ := id hy
 simp only [List.cons.injEq, and_true] at he0
 obtain ⟨rfl, rfl⟩ := he0
 obtain ⟨ja, jc, rfl, _⟩ := id hj
 obtain ⟨pa, pc, rfl, _⟩ := id hp
 have hrdy := ready_rdy y
 have hmem : ∀ k ∈ y.ready, k < n := fun k hk => by
  have h2 : k ∈ (List.range y.procs.length).filter fun i => (y.pr i).goes := hk
  rw [List.mem_filter] at h2
  have := List.mem_range.1 h2.1
  omega
 have hrl : y.ready.length ≤ 1000000 := by
  have h1 := rdy_len y.procs y.procs.length
  rw [← hrdy, List.length_map] at h1
  have := hf.2.1; omega
 generalize hr0 : y.ready.find? (mayE orders y) = r0
 refine ct_of (n := 28) Tryz.func90 rfl rfl (len rfl) fun hr w0 => ?_
 refine cS (cR (st_bx rfl rfl fun b2 => ?_))
 refine sV (vA rfl) (sN (nK [1, 2, 4] rfl (nT (cS (cR (sV (v_ldn rfl ld27 rfl rds_pt) ?_))))))
 refine st_cl rfl rfl en74 rfl (rready_ct hp hf.2.1 (fun i hi => right_waits hyr hi) rfl) ?_
 rintro v h' ⟨T, rfl, rfl, hv1⟩
 rw [← hrdy]
 generalize y.ready = l at *
 refine st_rowf (v := v) slq (fun va vc hve _ _ => ?_)
 simp only [List.length_map] at hve
 subst hve
 refine sV (vA rfl) (sN (nK [1, 2, 4, 5] rfl (nT (cS (cS (cR (sV (vA rfl) (sN (nT (cB (cd_lq (σ := Nat) (fun i => [(1, ov), (2, .pointer (some ⟨b2, 0, none⟩)), (5, .slice va l.length vc), (6, .int .i64 (i : Nat))]) (fun _ => VR (.slice va l.length vc) 3 1 ((l.map fun (k : Nat) => (k : Int)).map iC) :: pt b2 (cl [.slice ja y.jobs.length jc, .slice pa y.procs.length pc] 27) :: S :: hr) (fun i => i ≤ l.length ∧ ∀ (j : Nat) (hj : j < l.length), j < i → mayE orders y l[j] = false) (fun i => l.length - i) 0 ⟨Nat.zero_le _, fun j _ hj => by omega⟩ ?_)))))))))))
 rintro i ⟨hi, hall⟩
 refine cS (cS (cR (sV (vM rfl) (sV (vM rfl) (sV (v_len rfl Tryz.underlying43) (sV (v_lss rfl rfl) (sN (nK [1, 2, 5, 6, 13] rfl (nT (cC rfl (fun hd => ?_) (fun hd => ?_)))))))))))
 ·skip
  have hlt : i < l.length := by simpa using hd
  have hkn := hmem _ (List.getElem_mem hlt)
  refine cd_row (v := .slice va l.length vc) slq (fun _ h0 => by simp at h0; subst h0; simp at hlt) (fun vb vo vc2 hve _ _ => ?_)
  simp only [List.length_map, Value.slice.injEq, true_and] at hve
  obtain ⟨rfl, rfl⟩ := hve
  have hrow : ((l.map fun (k : Nat) => (k : Int)).map iC)[i]? = some [.int .i64 ((l[i] : Nat) : Int)] := by simp [List.getElem?_map, List.getElem?_eq_getElem hlt, iC]
  have hRd : Rd (VR (.slice (some ⟨vb, vo, none⟩) l.length vc) 3 1 ((l.map fun (k : Nat) => (k : Int)).map iC)) ⟨vb, vo + i * 1, none⟩ (.int .i64 ((l[i] : Nat) : Int)) := by
   have := rd_vrk (E := 3) (b := vb) (o := vo) (n := l.length) (cp := vc) (sz := 1) (k := 0) hrow rfl
   exact this
  have hfs : mayE orders y l[i] = true → r0 = some l[i] := fun h => by
   rw [← hr0, List.find?_eq_some_iff_getElem]
   exact ⟨h, i, hlt, rfl, fun j hj => by rw [hall j (by omega) hj]; rfl⟩
  refine cK (xT (cS (cB (cS (cd_drawh (ork [(0, 1), (1, 2), (2, 2), (3, 2), (4, 1), (5, 2), (6, 1), (7, 2)] .nil) (fun _ => true) mixed (by kernel_rfl) ?_)))))
  refine dr_v rfl (v_ldn rfl ld27 rfl rds_pt) ?_
  refine dV rfl (vM rfl) (dV rfl (vM rfl) (dV rfl (vI (k := i) rfl rfl sl43 rfl hlt rfl) (dr_v rfl (vY rfl ld3) ?_)))
  refine dV rfl (vM rfl) (dr_clr rfl rfl rfl en126 rfl (rmay_ct hy hf hn hkn (fun h => right_job hyr hn hkn h) ho hol hol2) ?_)
  refine dV rfl (vA rfl) (dr_nil (nK [1, 2, 5, 6, 7] rfl (nT (cS (cR (sV (vM rfl) (sN (nK [1, 2, 5, 6, 23] rfl (nT (cC rfl (fun hq => ?_) (fun hq => ?_)))))))))))
  ·skip
   have hr1 := hfs hq
   subst hr1
   refine cS (cR (sV (vM rfl) (sV (vM rfl) (sV (vI (k := i) rfl rfl sl43 rfl hlt rfl) (sV (vY rfl ld3) ?_)))))
   refine sV (vA rfl) (sN (nK [4] rfl (nT (cT (xW (xR (xR (xW (xR ?_)))))))))
   exact xt_rt rfl ⟨_, rfl, rfl⟩ sbq
  ·skip
   refine cK (xB (xT (cR (sV (vM rfl) (sV (v_add rfl rfl (by unfold I64 at *; omega)) (sV (vA rfl) (sN (nK [1, 2, 5, 6] rfl (nx_xt (xt_aq (i + 1) ⟨hlt, fun j hj' hji => ?_⟩ (by show _ - _ < _ - _; omega)))))))))))
   by_cases hjk : j = i
   ·subst hjk; exact hq
   ·exact hall j hj' (by omega)
 ·skip
  have hil : i = l.length := by
   have : ¬ i < l.length := by simpa using hd
   omega
  have hr1 : r0 = none := by
   rw [← hr0, List.find?_eq_none]
   intro x hx
   obtain ⟨j, hj, rfl⟩ := List.getElem_of_mem hx
   rw [hall j hj (by omega)]; simp
  subst hr1
  refine cd_exit (xE (xE (xY (xT (cS (cR (sV (vA rfl) (sN (nK [4] rfl (nT (cT ?_)))))))))))
  exact xt_rt rfl ⟨_, rfl, rfl⟩ sbq
end
end Go.Wt
