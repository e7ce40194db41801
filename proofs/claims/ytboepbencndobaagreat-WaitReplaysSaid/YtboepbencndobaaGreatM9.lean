/-
  Package wait: enter, ask, out, spawn, fail. Conditions: what is owned, bounds.
  Package wait: ask. Conditions: what is owned, bounds.
  Package wait: take. Conditions: what is owned, bounds, that there is a queue.
  Package wait: deeds, move. Conditions: what is owned, what is read of the jobs, bounds.
  Package wait: full, step, Step. Conditions: what is read, bounds.
  Package wait: full, step, Step. Conditions: what is read, bounds.
  Yards that have come about by steps: what bounds them, that they are right. No condition.
  Yards that have come about by steps are right. No condition.
  Package wait: Step, Run. Conditions: what is read, bounds; of Run that the yard has come about by steps.
  Package wait: Run. Conditions: what is read, that the yard has come about by steps.
-/
import Derived.Test.YtboepbencndobaaGreatM8
set_option linter.unusedVariables false
set_option linter.unusedSimpArgs false
namespace Go.Wt
open Go Go.Ck Go.Proofs Go.Proofs.YtboepbencndobaaGreat Fx
attribute [local irreducible] St Cd Xt Nx DrL LsW
theorem end_all : ∀ m, EndC m
 | 0 => fun _ _ _ _ _ h => absurd h (Nat.not_lt_zero _)
 | m + 1 => end_ct (end_all m)
theorem W_lt {n B : Nat} {y : Yard} (hy : YBd n B y) : y.W < n + 1 := by
 have : y.W ≤ y.procs.length := List.countP_le_length
 have := hy.len; omega
set_option maxRecDepth 100000 in
theorem fin_ct {b pb po pc n B i : Nat} {jv : Value} {H : Nat → PH} {y : Yard} (failed : Bool) (hy : YBd n B y) (hB : B + (n + 1) ≤ 1000000) (hn : n ≤ 1000000) (hi : i < n) :
  Ct Tryz.prog 146 #[yv b, .int .i64 i, .bool failed] (pt b (cl [jv, .slice (some ⟨pb, po, none⟩) n pc] 27) :: YO (.slice (some ⟨pb, po, none⟩) n pc) n H y.pr)
   fun u h' => u = .tuple #[] ∧ ∃ H', h' = pt b (cl [jv, .slice (some ⟨pb, po, none⟩) n pc] 27) :: YO (.slice (some ⟨pb, po, none⟩) n pc) n H' (y.fin i failed).pr := by
 have := end_all (n + 1) (b := b) (pb := pb) (po := po) (pc := pc) (jv := jv) (H := H) failed hy hB hn hi (W_lt hy)
 unfold Yard.fin
 rw [hy.len]; exact this
def DeedC (k : FuncId) (D : Yard → Nat → Move → Yard) : Prop := ∀ {b pb po pc n B i : Nat} {jv : Value} {H : Nat → PH} {y : Yard} (m : Move), YBd n B y → B + (n + 3) ≤ 1000000 → i < n → 0 ≤ m.2.1 → m.2.1 < n →
  Ct Tryz.prog k #[yv b, .int .i64 i, .agg (mC m).toArray] (pt b (cl [jv, .slice (some ⟨pb, po, none⟩) n pc] 27) :: YO (.slice (some ⟨pb, po, none⟩) n pc) n H y.pr)
   fun u h' => u = .tuple #[] ∧ ∃ H', h' = pt b (cl [jv, .slice (some ⟨pb, po, none⟩) n pc] 27) :: YO (.slice (some ⟨pb, po, none⟩) n pc) n H' (D y i m).pr
set_option maxRecDepth 100000 in
theorem out_ct : DeedC 175 fun y i _ => y.leave i := by
 intro b pb po pc n B i jv H y m hy hB hi _ _
 unfold yv
 refine ct_of (n := 9) Tryz.func175 rfl rfl (len rfl) fun hr w0 => ?_
 simp only [List.cons_append]
 refine cS (cR (st_bx rfl rfl fun b3 => ?_))
 refine st_bx rfl rfl fun b5 => ?_
 refine sN (nK [1, 3] rfl (nT (cR (sV (v_ldn rfl ld179 rfl rds_pt) ?_))))
 refine sV (vM rfl) (st_cl rfl rfl en173 rfl (leave_ct hy (by omega) (by omega) hi) ?_)
 rintro u h' ⟨rfl, H', rfl⟩
 refine sN (nK [] rfl (nx_xt ?_))
 exact xt_en rfl ⟨rfl, _, rfl⟩
set_option maxRecDepth 100000 in
theorem fail_ct : DeedC 178 fun y i _ => y.fin i true := by
 intro b pb po pc n B i jv H y m hy hB hi _ _
 unfold yv
 refine ct_of (n := 9) Tryz.func178 rfl rfl (len rfl) fun hr w0 => ?_
 simp only [List.cons_append]
 refine cS (cR (st_bx rfl rfl fun b3 => ?_))
 refine st_bx rfl rfl fun b5 => ?_
 refine sN (nK [1, 3] rfl (nT (cR (sV (v_ldn rfl ld179 rfl rds_pt) ?_))))
 refine sV (vM rfl) (st_cl rfl rfl en146 rfl (fin_ct true hy (by omega) (by omega) hi) ?_)
 rintro u h' ⟨rfl, H', rfl⟩
 refine sN (nK [] rfl (nx_xt ?_))
 exact xt_en rfl ⟨rfl, _, rfl⟩
set_option maxRecDepth 100000 in
theorem spawn_ct : DeedC 177 fun y i m => y.lay i m.2.1.toNat true [(m.2.2, false)] := by
 intro b pb po pc n B i jv H y m hy hB hi hm1 hm2
 obtain ⟨mk, ms, mj⟩ := m
 simp only at hm1 hm2
 obtain ⟨j, rfl⟩ := Int.eq_ofNat_of_zero_le hm1
 unfold yv
 refine ct_of (n := 15) Tryz.func177 rfl rfl (len rfl) fun hr w0 => ?_
 simp only [List.cons_append]
 refine cS (cR (st_bx rfl rfl fun b3 => ?_))
 refine st_bx rfl rfl fun b5 => ?_
 refine sN (nK [1, 3, 5] rfl (nT (cR (sV (v_ldn rfl ld179 rfl rds_pt) ?_))))
 refine sV (vM rfl) (sV (vF rfl fa110_1 rfl) (sV (vY rfl ld3) ?_))
 refine sV (vF rfl fa110_2 rfl) (sV (vY rfl ld3) ?_)
 refine sV (v_build (cells := aC (mj, false)) rfl (fun _ => by kernel_rfl)) ?_
 refine st_buildSlice (cells := aC (mj, false)) rfl Tryz.underlying118 inf117 rfl rfl (by kernel_rfl) (ltn rfl) fun b13 => ?_
 refine st_pv (pv_of (E := 117) (sz := 2) [aC (mj, false)] (cells := aC (mj, false)) (b := b13) (n := 1) (by simp) (by simp [aC]) rfl (by decide)) ?_
 refine st_cl rfl rfl en189 rfl (put_ct (asks := [(mj, false)]) (asv := .slice (some ⟨b13, 0, none⟩) 1 1) hy (by omega) hi (show j < n by omega) true) ?_
 rintro u h' ⟨rfl, H', rfl⟩
 refine sN (nK [] rfl (nx_xt ?_))
 exact xt_en rfl ⟨rfl, _, rfl⟩
theorem YBd.lay {n B : Nat} {y : Yard} (hy : YBd n B y) {i j : Nat} (hi : i < n) (hj : j < n) (closed : Bool) {asks : List Ask} (ha : asks.length ≤ B + 1) : YBd n (B + 1) (y.lay i j closed asks) := by
 unfold Yard.lay
 have hp := hy.pb i hi
 have h1 : YBd n (B + 1) (y.put i { y.pr i with made := (y.pr i).made + 1 }) := (hy.le (Nat.le_succ B)).put ⟨by have := hp.lines; simp; omega, by have := hp.puts; simp; omega, by have := hp.holds; simp; omega, by have := hp.did; simp; omega, fun l hl => by have := hp.asks l hl; omega, by have := hp.made; simp; omega, hp.hs, hp.ks⟩
 have hq : PB n B ((y.put i { y.pr i with made := (y.pr i).made + 1 }).pr j) ∨ j = i := by
  by_cases hji : j = i
  ·exact .inr hji
  ·left; rw [put_ne _ hji]; exact hy.pb j hj
 refine h1.put ?_
 have hl0 : ((y.put i { y.pr i with made := (y.pr i).made + 1 }).pr j).lines.length ≤ B ∧ ((y.put i { y.pr i with made := (y.pr i).made + 1 }).pr j).puts.length ≤ B := by
  rcases hq with h | rfl
  ·exact ⟨h.lines, h.puts⟩
  ·rw [put_same (by rw [hy.len]; exact hi)]; exact ⟨hp.lines, hp.puts⟩
 have hq1 := h1.pb j hj
 exact ⟨by rw [List.length_append, List.length_singleton]; exact Nat.succ_le_succ hl0.1, by rw [List.length_append, List.length_singleton]; exact Nat.succ_le_succ hl0.2, hq1.holds, hq1.did, fun l hl => by
  rcases List.mem_append.1 hl with hl | hl
  ·exact hq1.asks l hl
  ·simp at hl; subst hl; exact ha, hq1.made, hq1.hs, fun l hl => by
  rcases List.mem_append.1 hl with hl | hl
  ·exact hq1.ks l hl
  ·simp at hl; subst hl; simp; omega⟩
set_option maxHeartbeats 1000000 in
set_option maxRecDepth 100000 in
theorem enter_ct : DeedC 174 fun y i m => y.enter i m.2.1 := by
 intro b pb po pc n B i jv H y m hy hB hi hm1 hm2
 obtain ⟨mk, ms, mj⟩ := m
 simp only at hm1 hm2
 obtain ⟨j, rfl⟩ := Int.eq_ofNat_of_zero_le hm1
 have hj : j < n := by omega
 have he : y.enter i ((j : Nat) : Int) = if ((y.pr i).hold ((j : Nat) : Int)).isSome ∨ ((j : Nat) : Int) = (i : Int) then y.put i { y.pr i with holds := (y.pr i).holds ++ [(((j : Nat) : Int), (0, 0), true)] } else (y.lay i j false []).put i { (y.lay i j false []).pr i with holds := ((y.lay i j false []).pr i).holds ++ [(((j : Nat) : Int), ((i : Int), (y.pr i).made), false)] } := rfl
 unfold yv
 refine ct_of (n := 54) Tryz.func174 rfl rfl (len rfl) fun hr w0 => ?_
 simp only [List.cons_append]
 refine cS (cR (st_bx rfl rfl fun b3 => ?_))
 refine st_bx rfl rfl fun b5 => ?_
 refine sN (nK [1, 3, 5] rfl (nT (cS (cR (sV (vF rfl fa110_1 rfl) (sV (vY rfl ld3) ?_))))))
 refine sV (v_build (cells := holdC (((j : Nat) : Int), (0, 0), false)) rfl (fun _ => by kernel_rfl)) ?_
 refine st_alc al161 fun b6 => ?_
 refine st_stoW rfl rfl sz161 rfl rfl ?_
 refine sN (nK [1, 3, 5, 6] rfl (nT (cS (cS (cR (sV (v_ldn rfl ld179 rfl rds_pt) ?_))))))
 refine sV (vM rfl) (sV (vF rfl fa110_1 rfl) (sV (vY rfl ld3) ?_))
 refine st_clr rfl rfl en125 rfl (holdO_ct hy (by omega) hi ((j : Nat) : Int)) ?_
 have hif : ((y.pr i).hold ((j : Nat) : Int)).isSome = true ∨ ((j : Nat) : Int) = (i : Int) ↔ (((y.pr i).hold ((j : Nat) : Int)).isSome || (((j : Nat) : Int) == (i : Int))) = true := by simp
 obtain ⟨hb, hvb, hve⟩ : ∃ x, ∃ hh : Hold, holdV ((y.pr i).hold ((j : Nat) : Int)) = .tuple #[.agg (holdC hh).toArray, .bool x] ∧ x = ((y.pr i).hold ((j : Nat) : Int)).isSome := by
  cases (y.pr i).hold ((j : Nat) : Int) with
  | none => exact ⟨false, _, rfl, rfl⟩
  | some h => exact ⟨true, h, rfl, rfl⟩
 rw [hve.1]
 rw [← hve.2] at hif he
 clear hve
 refine sV (vM rfl) (sV (v_extract rfl rfl) (sV (v_extract rfl rfl) (st_alc al161 fun b7 => ?_)))
 refine st_stoW rfl rfl sz161 rfl rfl ?_
 refine sV (vA rfl) (sN (nK [1, 3, 5, 6, 8] rfl (nT (cS (cR (sV (vM rfl) (sV (vM rfl) (st_cut (k := 7) (d := 26) (v := .bool (hb || (((j : Nat) : Int) == (i : Int)))) (fun hcut => bool_want (b := hb) false (fun hg => ?_) (fun hg => ?_)) ?_))))))))
 ·refine st_sk rfl rfl hg ?_
  iterate 3 refine st_sk rfl rfl hg ?_
  refine sV (vQ (bE rfl hg) rfl) ?_
  exact hcut _ (uH (by first | rfl | (rw [hg]; rfl) | simp_all) (uS rfl (uS rfl (uS rfl (uS rfl (uR))))))
 ·skip
  refine sG rfl (bG rfl hg) (vF rfl fa110_1 rfl) (sG rfl (bG rfl hg) (vY rfl ld3) ?_)
  refine sG rfl (bG rfl hg) (vM rfl) (sG rfl (bG rfl hg) (v_eql rfl rfl) (sV (vP (bE rfl hg) rfl) ?_))
  exact hcut _ (uH (by first | rfl | (rw [hg]; rfl) | simp_all) (uS rfl (uS rfl (uS rfl (uS rfl (uR))))))
 refine sN (nK [1, 3, 5, 6, 26] rfl (nT (cC rfl (fun hc => ?_) (fun hc => ?_))))
 ·skip
  rw [if_pos (hif.2 hc)] at he
  rw [he]
  refine cR (sV (vF rfl fa161_2 rfl) (st_sto rfl rfl sz4 ?_))
  refine sN (nK [1, 3, 6] rfl (nT ?_))
  simp only [List.cons_append]
  have hy1len := hy.len
  refine cd_pv (pv_focus hi) ?_
  have hp1 := (hy.pb i hi).holds
  generalize hG2 : H i = G2
  obtain ⟨lv, pv, hv, dv, av⟩ := G2
  generalize hp2 : (y).pr i = q at hp1 ⊢
  refine cd_draw (ork [(0, 2), (1, 1), (2, 2), (3, 2), (4, 1), (5, 2), (6, 2), (7, 1), (8, 2), (9, 2), (10, 1), (11, 2), (12, 2), (13, 2), (14, 1), (15, 1), (16, 0), (17, 0), (18, 2), (19, 2), (20, 0)] .nil) (fun i => !(Nat.beq i 20)) [pt b3 (cl [.pointer (some ⟨b, 0, none⟩)] 179), pt b (cl [jv, .slice (some ⟨pb, po, none⟩) n pc] 27), pt b6 (cl (holdC (((j : Nat) : Int), (0, 0), true)) 161), FP (.slice (some ⟨pb, po, none⟩) n pc) n i H (y).pr (hpC ⟨lv, pv, hv, dv, av⟩ q)] mixed (by kernel_rfl) ?_
  refine dV rfl (vF rfl fa179_0 rfl) (dr_v rfl (vY rfl ld177) ?_)
  refine dV rfl (vN rfl) (dV rfl (vF rfl fa27_1 rfl) (dr_v rfl (vY rfl ld25) ?_))
  refine dV rfl (vM rfl) (dV rfl (vF rfl fa179_0 rfl) (dr_v rfl (vY rfl ld177) ?_))
  refine dV rfl (vN rfl) (dV rfl (vF rfl fa27_1 rfl) (dr_v rfl (vY rfl ld25) ?_))
  refine dV rfl (vM rfl) (dV rfl (vI (k := i) rfl rfl sl25 rfl hi rfl) (dV rfl (vF rfl fa77_5 rfl) (dr_v rfl (vY rfl ld75) ?_)))
  refine dr_v rfl (v_ldn rfl ld161 rfl rds_pt) ?_
  refine dr_eff rfl (st_buildSlice (cells := holdC (((j : Nat) : Int), (0, 0), true)) rfl Tryz.underlying75 inf161 rfl rfl (by kernel_rfl) (ltn rfl) fun b50 => dr_nx ?_)
  refine dr_eff rfl (st_app (v := hv) [holdC (((j : Nat) : Int), (0, 0), true)] rfl rfl Tryz.underlying75 inf161 rfl (by decide) slq (by simp [holdC]) rfl (fun j u2 hu2 => at_here (rd_cl (by simpa using hu2))) (by simp [holdC, Value.oneCell']) (by simp; omega) (by simp; omega) (ltn rfl) fun v' hv' _ => dr_nx ?_)
  refine dV rfl (vI (k := i) rfl rfl sl25 rfl hi rfl) (dV rfl (vF rfl fa77_5 rfl) (dr_eff rfl (st_fp (k := 5) (cells' := pC lv pv v' dv q) rfl rfl sz75 hv' hi (by decide) rfl slq (dr_nx ?_))))
  refine dr_nil (nK [] rfl (nx_xt ?_))
  rw [map_snoc]
  refine xt_pv (pv_unfocus (y := y) (G := ⟨lv, pv, v', dv, av⟩) (p := { q with holds := q.holds ++ [(((j : Nat) : Int), (0, 0), true)] }) hy1len hi) ?_
  exact xt_en rfl ⟨rfl, _, rfl⟩
 ·skip
  rw [if_neg (fun h => by rw [hif.1 h] at hc; cases hc)] at he
  rw [he]
  refine cR (sV (v_ldn rfl ld179 rfl rds_pt) ?_)
  refine sV (vM rfl) (sV (vF rfl fa110_1 rfl) (sV (vY rfl ld3) ?_))
  refine st_pv (pv_add (triv_nil 117 2)) ?_
  refine st_cl rfl rfl en189 rfl (put_ct (asv := .slice none 0 0) (asks := []) hy (by omega) hi hj false) ?_
  rintro u h' ⟨rfl, H', rfl⟩
  refine sV (vF rfl fa161_1 rfl) ?_
  have hy2 := hy.lay hi hj false (asks := []) (Nat.zero_le _)
  refine st_storeN (vs := kC ((i : Int), (y.pr i).made)) rfl rfl sz79 rfl (ones rfl) slq (by simp [kC, holdC]) ?_
  refine sN (nK [1, 3, 6] rfl (nT ?_))
  simp only [List.cons_append]
  have hy1len := hy2.len
  refine cd_pv (pv_focus hi) ?_
  have hp1 := (hy2.pb i hi).holds
  generalize hG2 : H' i = G2
  obtain ⟨lv, pv, hv, dv, av⟩ := G2
  generalize hp2 : (y.lay i j false []).pr i = q at hp1 ⊢
  refine cd_draw (ork [(0, 2), (1, 1), (2, 2), (3, 2), (4, 1), (5, 2), (6, 2), (7, 1), (8, 2), (9, 2), (10, 1), (11, 2), (12, 2), (13, 2), (14, 1), (15, 1), (16, 0), (17, 0), (18, 2), (19, 2), (20, 0)] .nil) (fun i => !(Nat.beq i 20)) [pt b3 (cl [.pointer (some ⟨b, 0, none⟩)] 179), pt b (cl [jv, .slice (some ⟨pb, po, none⟩) n pc] 27), pt b6 (cl (holdC (((j : Nat) : Int), ((i : Int), (y.pr i).made), false)) 161), FP (.slice (some ⟨pb, po, none⟩) n pc) n i H' (y.lay i j false []).pr (hpC ⟨lv, pv, hv, dv, av⟩ q)] mixed (by kernel_rfl) ?_
  refine dV rfl (vF rfl fa179_0 rfl) (dr_v rfl (vY rfl ld177) ?_)
  refine dV rfl (vN rfl) (dV rfl (vF rfl fa27_1 rfl) (dr_v rfl (vY rfl ld25) ?_))
  refine dV rfl (vM rfl) (dV rfl (vF rfl fa179_0 rfl) (dr_v rfl (vY rfl ld177) ?_))
  refine dV rfl (vN rfl) (dV rfl (vF rfl fa27_1 rfl) (dr_v rfl (vY rfl ld25) ?_))
  refine dV rfl (vM rfl) (dV rfl (vI (k := i) rfl rfl sl25 rfl hi rfl) (dV rfl (vF rfl fa77_5 rfl) (dr_v rfl (vY rfl ld75) ?_)))
  refine dr_v rfl (v_ldn rfl ld161 rfl rds_pt) ?_
  refine dr_eff rfl (st_buildSlice (cells := holdC (((j : Nat) : Int), ((i : Int), (y.pr i).made), false)) rfl Tryz.underlying75 inf161 rfl rfl (by kernel_rfl) (ltn rfl) fun b50 => dr_nx ?_)
  refine dr_eff rfl (st_app (v := hv) [holdC (((j : Nat) : Int), ((i : Int), (y.pr i).made), false)] rfl rfl Tryz.underlying75 inf161 rfl (by decide) slq (by simp [holdC]) rfl (fun j u2 hu2 => at_here (rd_cl (by simpa using hu2))) (by simp [holdC, Value.oneCell']) (by simp; omega) (by simp; omega) (ltn rfl) fun v' hv' _ => dr_nx ?_)
  refine dV rfl (vI (k := i) rfl rfl sl25 rfl hi rfl) (dV rfl (vF rfl fa77_5 rfl) (dr_eff rfl (st_fp (k := 5) (cells' := pC lv pv v' dv q) rfl rfl sz75 hv' hi (by decide) rfl slq (dr_nx ?_))))
  refine dr_nil (nK [] rfl (nx_xt ?_))
  rw [map_snoc]
  refine xt_pv (pv_unfocus (y := y.lay i j false []) (G := ⟨lv, pv, v', dv, av⟩) (p := { q with holds := q.holds ++ [(((j : Nat) : Int), ((i : Int), (y.pr i).made), false)] }) hy1len hi) ?_
  exact xt_en rfl ⟨rfl, _, rfl⟩
end Go.Wt
namespace Go.Wt
open Go Go.Ck Go.Proofs Go.Proofs.YtboepbencndobaaGreat Fx
attribute [local irreducible] St Cd Xt Nx DrL LsW
set_option maxHeartbeats 1000000 in
set_option maxRecDepth 100000 in
theorem ask_ct : DeedC 176 fun y i m => y.ask i m := by
 intro b pb po pc n B i jv H y m hy hB hi hm1 hm2
 obtain ⟨mk, ms, mj⟩ := m
 simp only at hm1 hm2
 obtain ⟨sp, rfl⟩ := Int.eq_ofNat_of_zero_le hm1
 have hsp : sp < n := by omega
 have he : y.ask i (mk, ((sp : Nat) : Int), mj) = if ((sp : Nat) : Int) = (i : Int) then y else match (y.pr i).hold ((sp : Nat) : Int) with
  | none => y.fin i true
  | some h => match (y.pr sp).line h.2.1 with
   | none => y.fin i true
   | some j => if mk = 4 then (y.put sp ((y.pr sp).setl j { (y.pr sp).lines.getD j Line.none with asks := ((y.pr sp).lines.getD j Line.none).asks ++ [(mj, mk == 4)] })).put i { (y.put sp ((y.pr sp).setl j { (y.pr sp).lines.getD j Line.none with asks := ((y.pr sp).lines.getD j Line.none).asks ++ [(mj, mk == 4)] })).pr i with waits := ((sp : Nat) : Int) } else y.put sp ((y.pr sp).setl j { (y.pr sp).lines.getD j Line.none with asks := ((y.pr sp).lines.getD j Line.none).asks ++ [(mj, mk == 4)] }) := rfl
 unfold yv
 refine ct_of (n := 64) Tryz.func176 rfl rfl (len rfl) fun hr w0 => ?_
 simp only [List.cons_append]
 refine cS (cR (st_bx rfl rfl fun b3 => ?_))
 refine st_bx rfl rfl fun b5 => ?_
 refine sN (nK [1, 3, 5] rfl (nT (cS (cS (cR (sV (vF rfl fa110_1 rfl) (sV (vY rfl ld3) ?_)))))))
 refine sV (vM rfl) (sV (v_eql rfl rfl) (sN (nK [1, 3, 5, 12] rfl (nT (cC rfl (fun hc => ?_) (fun hc => ?_))))))
 ·skip
  rw [if_pos (by simpa using hc)] at he
  rw [he]
  refine cT (xR ?_)
  exact xt_rt rfl ⟨rfl, _, rfl⟩
 ·skip
  rw [if_neg (by simpa using hc)] at he
  refine cK (xT (cS (cR (sV (v_ldn rfl ld179 rfl rds_pt) ?_))))
  refine sV (vM rfl) (sV (vF rfl fa110_1 rfl) (sV (vY rfl ld3) ?_))
  refine st_clr rfl rfl en125 rfl (holdO_ct hy (by omega) hi ((sp : Nat) : Int)) ?_
  cases hho : (y.pr i).hold ((sp : Nat) : Int) with
  | none =>
   rw [hho] at he
   simp only at he
   rw [he]
   refine sV (vM rfl) (sV (v_extract rfl rfl) (sV (v_extract rfl rfl) (st_alc al161 fun b6 => ?_)))
   refine st_stoW rfl rfl sz161 rfl rfl ?_
   refine sV (vA rfl) (sN (nK [1, 3, 5, 6, 7] rfl (nT (cS (cR (sV (v_ldn rfl ld179 rfl rds_pt) ?_))))))
   refine sV (vF rfl fa110_1 rfl) (sV (vY rfl ld3) ?_)
   refine sV (vF rfl fa161_1 rfl) (sV (v_ldn (vs := kC (0, 0)) rfl ld79 rfl (rds_sub rds_pt rfl)) ?_)
   refine st_clr rfl rfl en188 rfl (lineO_ct hy (by omega) hsp (0, 0)) ?_
   refine sV (vA rfl) (sN (nK [1, 3, 5, 7, 8] rfl (nT (cS (cS (cR (sV (vM rfl) (sV (v_not rfl) (sV (vM rfl) (st_sk rfl rfl rfl ?_))))))))))
   refine st_sk rfl rfl rfl ?_
   refine sV (vQ rfl rfl) (sN (nK [1, 3, 5, 8, 32] rfl (nT (cd_true rfl ?_))))
   refine cS (cR (sV (v_ldn rfl ld179 rfl rds_pt) ?_))
   refine sV (vM rfl) (st_cl rfl rfl en146 rfl (fin_ct true hy (by omega) (by omega) hi) ?_)
   rintro u h' ⟨rfl, H', rfl⟩
   refine sN (nK [1, 3, 5, 8] rfl (nT (cT (xR ?_))))
   exact xt_rt rfl ⟨rfl, _, rfl⟩
  | some h =>
   obtain ⟨hs2, hk2, ho2⟩ := h
   rw [hho] at he
   simp only at he
   refine sV (vM rfl) (sV (v_extract rfl rfl) (sV (v_extract rfl rfl) (st_alc al161 fun b6 => ?_)))
   refine st_stoW rfl rfl sz161 rfl rfl ?_
   refine sV (vA rfl) (sN (nK [1, 3, 5, 6, 7] rfl (nT (cS (cR (sV (v_ldn rfl ld179 rfl rds_pt) ?_))))))
   refine sV (vF rfl fa110_1 rfl) (sV (vY rfl ld3) ?_)
   refine sV (vF rfl fa161_1 rfl) (sV (v_ldn (vs := kC hk2) rfl ld79 rfl (rds_sub rds_pt rfl)) ?_)
   refine st_clr rfl rfl en188 rfl (lineO_ct hy (by omega) hsp hk2) ?_
   cases hln : (y.pr sp).line hk2 with
   | none =>
    rw [hln] at he
    simp only at he
    rw [he]
    refine sV (vA rfl) (sN (nK [1, 3, 5, 7, 8] rfl (nT (cS (cS (cR (sV (vM rfl) (sV (v_not rfl) (sV (vM rfl) (sG rfl rfl (vM rfl) (sG rfl rfl (v_eql_ptr_nil rfl rfl pt202) (sV (vP rfl rfl) (sN (nK [1, 3, 5, 8, 32] rfl (nT (cd_true rfl ?_))))))))))))))))
    refine cS (cR (sV (v_ldn rfl ld179 rfl rds_pt) ?_))
    refine sV (vM rfl) (st_cl rfl rfl en146 rfl (fin_ct true hy (by omega) (by omega) hi) ?_)
    rintro u h' ⟨rfl, H', rfl⟩
    refine sN (nK [1, 3, 5, 8] rfl (nT (cT (xR ?_))))
    exact xt_rt rfl ⟨rfl, _, rfl⟩
   | some j =>
    rw [hln] at he
    simp only at he
    have hjl : j < (y.pr sp).lines.length := by
     unfold Proc.line at hln
     exact (List.findIdx?_eq_some_iff_getElem.1 hln).1
    have hp1 := hy.pb sp hsp
    have hylen := hy.len
    refine sV (vA rfl) (sN (nK [1, 3, 5, 7, 8] rfl (nT (cS (cS (cd_pv (pv_focus hsp) ?_))))))
    generalize hG1 : H sp = G1
    generalize hq : y.pr sp = q at hjl hp1 he ⊢
    obtain ⟨lv1, pv1, hv1, dv1, av1⟩ := G1
    refine cd_ok (r := pureR (av1.length = q.lines.length)) slq fun hpu => ?_
    have hal := pureR_ok hpu
    have hlr : (lrows av1 q.lines).length = q.lines.length := by simp [lrows, hal]
    refine cd_row (v := lv1) slq (fun _ h0 => by rw [h0] at hlr; simp at hlr; omega) (fun lb lo lc hve _ _ => ?_)
    rw [hlr] at hve
    subst hve
    have hlj : q.lines[j]? = some q.lines[j] := List.getElem?_eq_getElem hjl
    have haj : av1[j]? = some av1[j] := List.getElem?_eq_getElem (by omega)
    have hgd : q.lines.getD j Line.none = q.lines[j] := by rw [List.getD_eq_getElem?_getD, hlj]; rfl
    rw [hgd] at he
    have hasl := hp1.asks _ (List.getElem_mem hjl)
    generalize q.lines[j] = l at *
    generalize ha1 : av1[j] = a1 at *
    obtain ⟨lk, lasks, lcl, lbr⟩ := l
    simp only at he hasl
    have f2 := rd_vrk (E := 120) (b := lb) (o := lo) (n := q.lines.length) (cp := lc) (sz := 5) (m := j) (k := 2) (lrows_at haj hlj) rfl
    refine cR (sV (vM rfl) (sV (v_not rfl) (sV (vM rfl) (sG rfl rfl (vM rfl) (sG rfl rfl (v_eql_ptr_nil rfl rfl pt202) (sV (vP rfl rfl) (sN (nK [1, 3, 5, 8, 32] rfl (nT (cd_false rfl ?_))))))))))
    refine cd_pv (pv_lfoc (arows_at haj hlj)) ?_
    refine cK (xT (cS (cd_drawh (ork [(0, 2), (1, 2), (2, 2), (3, 2), (4, 1), (5, 2), (6, 1), (7, 2), (8, 1), (9, 2), (10, 2), (11, 0), (12, 0), (13, 2), (14, 2), (15, 0)] .nil) (fun i => !(Nat.beq i 12 || Nat.beq i 15)) mixed (by kernel_rfl) ?_)))
    refine dV rfl (vM rfl) (dV rfl (vM rfl) (dV rfl (vN rfl) (dV rfl (vF rfl fa120_1 rfl) (dr_v rfl (vY rfl ld118) ?_))))
    refine dV rfl (vF rfl fa110_2 rfl) (dr_v rfl (vY rfl ld3) ?_)
    refine dV rfl (vF rfl fa110_0 rfl) (dr_v rfl (vY rfl ld3) ?_)
    refine dV rfl (v_eql rfl rfl) (dV rfl (v_build (cells := aC (mj, mk == 4)) rfl (fun _ => by kernel_rfl)) ?_)
    refine dr_eff rfl (st_buildSlice (cells := aC (mj, mk == 4)) rfl Tryz.underlying118 inf117 rfl rfl (by kernel_rfl) (ltn rfl) fun b47 => dr_nx ?_)
    refine dr_eff rfl (st_app (v := a1) [aC (mj, mk == 4)] rfl rfl Tryz.underlying118 inf117 rfl (by decide) slq (by simp [aC]) rfl (fun j u2 hu2 => at_here (rd_cl (by simpa using hu2))) (by simp [aC, Value.oneCell']) (by simp; omega) (by simp; omega) (ltn rfl) fun v' hv' _ => dr_nx ?_)
    refine dV rfl (vN rfl) (dV rfl (vF rfl fa120_1 rfl) (dr_eff rfl (st_vr (sz := 5) (m := j) (k := 2) rfl rfl sz118 hv' (lrows_at haj hlj) (by decide) (show _ = lrows (av1.set j v') (q.lines.set j ⟨lk, lasks ++ [(mj, mk == 4)], lcl, lbr⟩) from lrows_setl (l := ⟨lk, lasks ++ [(mj, mk == 4)], lcl, lbr⟩) hjl hal) slq (dr_nx ?_))))
    rw [map_snoc]
    refine dr_nil (nK [1, 3, 5] rfl (nT (cS (cd_pv (pv_lunf (L := arows av1 q.lines) (j := j) (r := VR v' 117 2 ((lasks ++ [(mj, mk == 4)]).map aC)) (by simp [arows, hal]; omega)) ?_))))
    have e1 : (arows av1 q.lines).set j (VR v' 117 2 ((lasks ++ [(mj, mk == 4)]).map aC)) = arows (av1.set j v') (q.lines.set j ⟨lk, lasks ++ [(mj, mk == 4)], lcl, lbr⟩) := arows_setl (l := ⟨lk, lasks ++ [(mj, mk == 4)], lcl, lbr⟩) hjl hal
    rw [e1]
    refine cd_pv (pv_add (triv_pure (φ := (av1.set j v').length = (q.lines.set j ⟨lk, lasks ++ [(mj, mk == 4)], lcl, lbr⟩).length) (by simp [hal]))) ?_
    refine cd_pv (pv_unfocus (y := y) (G := ⟨.slice (some ⟨lb, lo, none⟩) q.lines.length lc, pv1, hv1, dv1, av1.set j v'⟩) (p := q.setl j ⟨lk, lasks ++ [(mj, mk == 4)], lcl, lbr⟩) hylen hsp) ?_
    have hy1 : (y.put sp (q.setl j ⟨lk, lasks ++ [(mj, mk == 4)], lcl, lbr⟩)).procs.length = n := by rw [put_len, hylen]
    refine cR (sV (vF rfl fa110_0 rfl) (sV (vY rfl ld3) ?_))
    refine sV (v_eql rfl rfl) (sN (nK [1, 3, 5, 53] rfl (nT (cC rfl (fun h4 => ?_) (fun h4 => ?_)))))
    ·skip
     rw [if_pos (by simpa using h4)] at he
     rw [he]
     generalize y.put sp (q.setl j ⟨lk, lasks ++ [(mj, mk == 4)], lcl, lbr⟩) = y1 at hy1 ⊢
     refine cd_pv (pv_focus hi) ?_
     refine cd_drawh (ork [(0, 2), (1, 1), (2, 2), (3, 2), (4, 1), (5, 2), (6, 2), (7, 1), (8, 2), (9, 2), (10, 0)] .nil) (fun i => !(Nat.beq i 10)) mixed (by kernel_rfl) ?_
     refine dV rfl (vF rfl fa179_0 rfl) (dr_v rfl (vY rfl ld177) ?_)
     refine dV rfl (vN rfl) (dV rfl (vF rfl fa27_1 rfl) (dr_v rfl (vY rfl ld25) ?_))
     refine dV rfl (vM rfl) (dV rfl (vF rfl fa110_1 rfl) (dr_v rfl (vY rfl ld3) ?_))
     refine dV rfl (vI (k := i) rfl rfl sl25 rfl hi rfl) (dV rfl (vF rfl fa77_6 rfl) ?_)
     generalize hG2 : upd H sp _ i = G2
     generalize hq2 : y1.pr i = q2
     refine dr_eff rfl (st_fp (k := 6) (cells' := hpC G2 { q2 with waits := ((sp : Nat) : Int) }) rfl rfl sz3 rfl hi (by decide) rfl slq (dr_nx ?_))
     refine dr_nil (nK [] rfl (nx_xt (xt_pv (pv_unfocus (y := y1) (G := G2) (p := { q2 with waits := ((sp : Nat) : Int) }) hy1 hi) ?_)))
     exact xt_en rfl ⟨rfl, _, rfl⟩
    ·skip
     rw [if_neg (by simpa using h4)] at he
     rw [he]
     refine cK ?_
     exact xt_en rfl ⟨rfl, _, rfl⟩
end Go.Wt
namespace Go.Wt
open Go Go.Ck Go.Proofs Go.Proofs.YtboepbencndobaaGreat Fx
attribute [local irreducible] St Cd Xt Nx DrL LsW
theorem pv_tail {E : TypeId} {sz b o n cp m : Nat} {rows rows' : List (List Value)} (hm : m ≤ rows.length) (hr : rows.drop m = rows') : ∀ t, Vw ([VR (.slice (some ⟨b, o, none⟩) n cp) E sz rows] ++ t) ([VR (.slice (some ⟨b, if cp = m then o else o + m * sz, none⟩) (n - m) (cp - m)) E sz rows'] ++ t) := fun t => by subst hr; exact vw_tail hm
theorem pv_drop {r : Res} : ∀ t, Vw ([r] ++ t) ([] ++ t) := fun t w hh => hh.2.2
theorem take_eq {y : Yard} {i : Nat} {l : Line} {t : List Line} (h : (y.pr i).lines = l :: t) : y.take i = match l.asks with
  | [] => y.put i { y.pr i with lines := t }
  | a :: r => if l.broken = true then (if a.2 = true then (y.put i { y.pr i with lines := { l with asks := r } :: t, did := (y.pr i).did ++ [(l.key, a.1, true, false)] }).answer (y.procs.length + 1) l.key.1.toNat i true else y.put i { y.pr i with lines := { l with asks := r } :: t, did := (y.pr i).did ++ [(l.key, a.1, true, false)] })
   else y.put i { y.pr i with lines := { l with asks := r } :: t, job := a.1, pc := 0, waited := a.2 } := by
 unfold Yard.take
 simp only [h]
 cases l.asks with
 | nil => rfl
 | cons a r =>
  simp only [put_len]
set_option maxHeartbeats 1000000 in
set_option maxRecDepth 100000 in
theorem take_ct {b pb po pc n B i : Nat} {jv : Value} {H : Nat → PH} {y : Yard} (hy : YBd n B y) (hB : B + (n + 3) ≤ 1000000) (hi : i < n) (hne : (y.pr i).lines ≠ []) :
  Ct Tryz.prog 121 #[yv b, .int .i64 i] (pt b (cl [jv, .slice (some ⟨pb, po, none⟩) n pc] 27) :: YO (.slice (some ⟨pb, po, none⟩) n pc) n H y.pr)
   fun u h' => u = .tuple #[] ∧ ∃ H', h' = pt b (cl [jv, .slice (some ⟨pb, po, none⟩) n pc] 27) :: YO (.slice (some ⟨pb, po, none⟩) n pc) n H' (y.take i).pr := by
 have hylen := hy.len
 have hpi := hy.pb i hi
 have hW := W_lt hy
 obtain ⟨l, t, hlt⟩ : ∃ l t, (y.pr i).lines = l :: t := by
  cases h : (y.pr i).lines with
  | nil => exact absurd h hne
  | cons l t => exact ⟨l, t, rfl⟩
 have he := take_eq hlt
 have hWp : ∀ p : Proc, p.waits = (y.pr i).waits → (y.put i p).W = y.W := fun p h => W_put h
 clear hne
 unfold yv
 refine ct_of (n := 90) Tryz.func121 rfl rfl (len rfl) fun hr w0 => ?_
 simp only [List.cons_append]
 refine cS (cR (st_bx rfl rfl fun b2 => ?_))
 refine sN (nK [1, 2] rfl (nT (cS (cR (sV (vF rfl fa179_0 rfl) (sV (vY rfl ld177) ?_))))))
 refine sV (vN rfl) (sV (vF rfl fa27_1 rfl) (sV (vY rfl ld25) ?_))
 refine sV (vM rfl) (sV (vI (k := i) rfl rfl sl25 rfl hi rfl) (sV (vA rfl) (sN (nK [1, 2, 4] rfl (nT (cS (cd_pv (pv_focus hi) ?_)))))))
 generalize hG : H i = G
 generalize hp : y.pr i = p at hpi hlt he hWp ⊢
 obtain ⟨lines, puts, job, at_, waited, holds, waits, made, did⟩ := p
 simp only at hlt
 subst hlt
 obtain ⟨lv, pv, hv, dv, av⟩ := G
 refine cd_ok (r := pureR (av.length = (l :: t).length)) slq fun hpu => ?_
 have hal := pureR_ok hpu
 cases av with
 | nil => exact absurd hal (by simp)
 | cons a1 avs =>
  have hal2 : avs.length = t.length := by simpa using hal
  have hlr : (lrows (a1 :: avs) (l :: t)).length = (l :: t).length := by simp [lrows, hal2]
  refine cd_row (v := lv) slq (fun _ h0 => by rw [h0] at hlr; simp at hlr) (fun lb lo lc hve hlc _ => ?_)
  rw [hlr] at hve hlc
  subst hve
  have hlc2 : t.length + 1 ≤ lc := by simpa using hlc
  refine cd_pv (pv_lfoc (L := arows (a1 :: avs) (l :: t)) (j := 0) (r := VR a1 117 2 (l.asks.map aC)) rfl) ?_
  obtain ⟨lk, lasks, lcl, lbr⟩ := l
  have f2 := rd_vrk (E := 120) (b := lb) (o := lo) (n := ((⟨lk, lasks, lcl, lbr⟩ : Line) :: t).length) (cp := lc) (sz := 5) (m := 0) (k := 2) (rows := lrows (a1 :: avs) (⟨lk, lasks, lcl, lbr⟩ :: t)) (r := lC a1 ⟨lk, lasks, lcl, lbr⟩) rfl rfl
  refine cd_rowf (v := a1) slq fun aa ac hae _ _ => ?_
  simp only [List.length_map] at hae
  subst hae
  refine cR (sV (vM rfl) (sV (vN rfl) (sV (vF rfl fa77_0 rfl) (sV (vY rfl ld73) ?_))))
  refine sV (vI (k := 0) rfl rfl sl73 rfl (by simp) rfl) ?_
  refine sV (vA rfl) (sN (nK [1, 2, 4, 5] rfl (nT (cS (cS (cR (sV (vM rfl) (sV (vN rfl) (sV (vF rfl fa120_1 rfl) (sV (vY rfl ld118) ?_))))))))))
  refine sV (v_len rfl Tryz.underlying118) (sV (v_eql rfl rfl) (sN (nK [1, 2, 4, 5, 24] rfl (nT ?_))))
  cases lasks with
  | nil =>
   simp only at he
   rw [he]
   refine cC rfl (fun hx => ?_) (fun hx => ?_)
   ·skip
    refine cS (cR (sV (vM rfl) (sV (vM rfl) (sV (vN rfl) (sV (vF rfl fa77_0 rfl) (sV (vY rfl ld73) ?_))))))
    refine sV (v_sliceTail (lo := 1) rfl rfl sl73 rfl (by simp) hlc) ?_
    refine sV (vN rfl) (sV (vF rfl fa77_0 rfl) ?_)
    generalize hf0 : (if lc = 1 then lo else lo + 1 * 5) = lo2
    refine st_fp (k := 0) (cells := hpC ⟨.slice (some ⟨lb, lo, none⟩) (⟨lk, [], lcl, lbr⟩ :: t : List Line).length lc, pv, hv, dv, .slice aa ([] : List Ask).length ac :: avs⟩ ⟨⟨lk, [], lcl, lbr⟩ :: t, puts, job, at_, waited, holds, waits, made, did⟩) (cells' := pC (.slice (some ⟨lb, lo2, none⟩) t.length (lc - 1)) pv hv dv ⟨t, puts, job, at_, waited, holds, waits, made, did⟩) rfl rfl sz73 rfl hi (by decide) (by rw [← hf0]; rfl) slq ?_
    refine sN (nK [1, 2, 4, 5] rfl (nT (cT (xR (xt_pv (pv_tail (E := 120) (sz := 5) (b := lb) (o := lo) (n := (⟨lk, [], lcl, lbr⟩ :: t : List Line).length) (cp := lc) (m := 1) (rows := lrows (.slice aa ([] : List Ask).length ac :: avs) (⟨lk, [], lcl, lbr⟩ :: t)) (rows' := lrows avs t) (by rw [hlr]; simp) rfl) ?_)))))
    rw [hf0]
    refine xt_pv (pv_add (triv_pure (φ := avs.length = t.length) hal2)) ?_
    refine xt_pv (pv_unfocus (y := y) (G := ⟨.slice (some ⟨lb, lo2, none⟩) t.length (lc - 1), pv, hv, dv, avs⟩) (p := ⟨t, puts, job, at_, waited, holds, waits, made, did⟩) hylen hi) ?_
    exact xt_rt rfl ⟨rfl, _, rfl⟩
   ·skip
    exact absurd hx (by simp)
  | cons a r =>
   simp only at he
   refine cd_row (v := .slice aa (a :: r).length ac) slq (fun _ h0 => by simp at h0) (fun ab ao ac2 hve2 hac _ => ?_)
   simp only [List.length_map, Value.slice.injEq] at hve2 hac
   obtain ⟨rfl, _, rfl⟩ := hve2
   refine cC rfl (fun hx => ?_) (fun hx => ?_)
   ·skip
    exfalso
    simp at hx
    omega
   ·skip
    refine cK (xT (cS (cR (sV (vM rfl) (sV (vN rfl) (sV (vF rfl fa120_1 rfl) (sV (vY rfl ld118) ?_)))))))
    refine sV (vI (k := 0) rfl rfl sl118 rfl (by simp) rfl) ?_
    refine sV (v_ldn (vs := aC a) rfl ld117 rfl (rds_vr (m := 0) rfl)) ?_
    refine st_alc al117 fun b6 => ?_
    refine st_stoW rfl rfl sz117 rfl rfl ?_
    refine sN (nK [1, 2, 4, 5, 6] rfl (nT (cS (cR (sV (vM rfl) (sV (vM rfl) (sV (vN rfl) (sV (vF rfl fa120_1 rfl) (sV (vY rfl ld118) ?_)))))))))
    refine sV (v_sliceTail (lo := 1) rfl rfl sl118 rfl (by simp) hac) ?_
    refine sV (vN rfl) (sV (vF rfl fa120_1 rfl) ?_)
    generalize hf0 : (if ac = 1 then ao else ao + 1 * 2) = ao2
    refine st_vr (sz := 5) (m := 0) (k := 2) (rows := lrows (.slice (some ⟨ab, ao, none⟩) (a :: r).length ac :: avs) (⟨lk, a :: r, lcl, lbr⟩ :: t)) (r := lC (.slice (some ⟨ab, ao, none⟩) (a :: r).length ac) ⟨lk, a :: r, lcl, lbr⟩) rfl rfl sz118 rfl rfl (by decide) (show _ = lrows (.slice (some ⟨ab, ao2, none⟩) r.length (ac - 1) :: avs) (⟨lk, r, lcl, lbr⟩ :: t) by rw [← hf0]; rfl) slq ?_
    refine sN (nK [1, 2, 4, 5, 6] rfl (nT (cS (cS (cd_pv (pv_tail (E := 117) (sz := 2) (b := ab) (o := ao) (n := (a :: r).length) (cp := ac) (m := 1) (rows := (a :: r).map aC) (rows' := r.map aC) (by simp) rfl) ?_)))))
    rw [hf0]
    refine cd_pv (pv_lunf (L := arows (.slice (some ⟨ab, ao, none⟩) (a :: r).length ac :: avs) (⟨lk, a :: r, lcl, lbr⟩ :: t)) (j := 0) (r := VR (.slice (some ⟨ab, ao2, none⟩) r.length (ac - 1)) 117 2 (r.map aC)) (by simp [arows])) ?_
    have e1 : (arows (.slice (some ⟨ab, ao, none⟩) (a :: r).length ac :: avs) (⟨lk, a :: r, lcl, lbr⟩ :: t)).set 0 (VR (.slice (some ⟨ab, ao2, none⟩) r.length (ac - 1)) 117 2 (r.map aC)) = arows (.slice (some ⟨ab, ao2, none⟩) r.length (ac - 1) :: avs) (⟨lk, r, lcl, lbr⟩ :: t) := rfl
    rw [e1]
    have f4 := rd_vrk (E := 120) (b := lb) (o := lo) (n := ((⟨lk, a :: r, lcl, lbr⟩ : Line) :: t).length) (cp := lc) (sz := 5) (m := 0) (k := 4) (rows := lrows (.slice (some ⟨ab, ao2, none⟩) r.length (ac - 1) :: avs) (⟨lk, r, lcl, lbr⟩ :: t)) (r := lC (.slice (some ⟨ab, ao2, none⟩) r.length (ac - 1)) ⟨lk, r, lcl, lbr⟩) rfl rfl
    have hk := hpi.ks ⟨lk, a :: r, lcl, lbr⟩ (by simp)
    have hdl := hpi.did
    simp only at hdl hk
    refine cR (sV (vM rfl) (sV (vN rfl) (sV (vF rfl fa120_3 rfl) (sV (vY rfl ld4) ?_))))
    refine sN (nK [1, 2, 4, 5, 6, 50] rfl (nT (cC rfl (fun hb => ?_) (fun hb => ?_))))
    ·skip
     rw [if_pos hb] at he
     refine cS (cd_drawh (ork [(0, 2), (1, 2), (2, 2), (3, 2), (4, 1), (5, 2), (6, 2), (7, 2), (8, 1), (9, 2), (10, 1), (11, 2), (12, 0), (13, 0), (14, 2), (15, 2), (16, 0)] .nil) (fun i => !(Nat.beq i 13 || Nat.beq i 16)) mixed (by kernel_rfl) ?_)
     refine dV rfl (vM rfl) (dV rfl (vM rfl) (dV rfl (vN rfl) (dV rfl (vF rfl fa77_8 rfl) (dr_v rfl (vY rfl ld62) ?_))))
     refine dV rfl (vM rfl) (dV rfl (vN rfl) (dV rfl (vF rfl fa120_0 rfl) (dr_v rfl (v_ldn (vs := kC lk) rfl ld79 rfl (rds_sub (rds_vr (m := 0) (r := lC (.slice (some ⟨ab, ao2, none⟩) r.length (ac - 1)) ⟨lk, r, lcl, lbr⟩) rfl) rfl)) ?_)))
     refine dV rfl (vF rfl fa117_0 rfl) (dr_v rfl (vY rfl ld3) ?_)
     refine dV rfl (v_build (cells := dC (lk, a.1, true, false)) rfl (fun _ => by kernel_rfl)) ?_
     refine dr_eff rfl (st_buildSlice (cells := dC (lk, a.1, true, false)) rfl Tryz.underlying62 inf81 rfl rfl (by kernel_rfl) (ltn rfl) fun b63 => dr_nx ?_)
     refine dr_eff rfl (st_app (v := dv) [dC (lk, a.1, true, false)] rfl rfl Tryz.underlying62 inf81 rfl (by decide) slq (by simp [dC]) rfl (fun j u2 hu2 => at_here (rd_cl (by simpa using hu2))) (by simp [dC, Value.oneCell']) (by simp; omega) (by simp; omega) (ltn rfl) fun v' hv' _ => dr_nx ?_)
     refine dV rfl (vN rfl) (dV rfl (vF rfl fa77_8 rfl) (dr_eff rfl (st_fp (k := 8) (cells := hpC ⟨.slice (some ⟨lb, lo, none⟩) (⟨lk, a :: r, lcl, lbr⟩ :: t : List Line).length lc, pv, hv, dv, avs⟩ ⟨⟨lk, r, lcl, lbr⟩ :: t, puts, job, at_, waited, holds, waits, made, did⟩) (cells' := pC (.slice (some ⟨lb, lo, none⟩) (⟨lk, a :: r, lcl, lbr⟩ :: t : List Line).length lc) pv hv v' ⟨⟨lk, r, lcl, lbr⟩ :: t, puts, job, at_, waited, holds, waits, made, did⟩) rfl rfl sz62 hv' hi (by decide) rfl slq (dr_nx ?_))))
     refine dr_nil (nK [1, 2, 4, 5, 6] rfl (nT (cS (cS ?_))))
     rw [map_snoc]
     refine cd_pv (pv_add (triv_pure (φ := ((.slice (some ⟨ab, ao2, none⟩) r.length (ac - 1) : Value) :: avs).length = ((⟨lk, r, lcl, lbr⟩ : Line) :: t).length) (by simp [hal2]))) ?_
     refine cd_pv (pv_unfocus (y := y) (G := ⟨.slice (some ⟨lb, lo, none⟩) (⟨lk, a :: r, lcl, lbr⟩ :: t : List Line).length lc, pv, hv, v', .slice (some ⟨ab, ao2, none⟩) r.length (ac - 1) :: avs⟩) (p := ⟨⟨lk, r, lcl, lbr⟩ :: t, puts, job, at_, waited, holds, waits, made, did ++ [(lk, a.1, true, false)]⟩) hylen hi) ?_
     have hasr := hpi.asks ⟨lk, a :: r, lcl, lbr⟩ (by simp)
     simp only [List.length_cons] at hasr
     have hy2 : YBd n (B + 1) (y.put i ⟨⟨lk, r, lcl, lbr⟩ :: t, puts, job, at_, waited, holds, waits, made, did ++ [(lk, a.1, true, false)]⟩) := (hy.le (Nat.le_succ B)).put ⟨by have := hpi.lines; simp at this ⊢; omega, by have := hpi.puts; simp at this ⊢; omega, by have := hpi.holds; simp at this ⊢; omega, by simp; omega, fun x hx => by
      rcases List.mem_cons.1 hx with rfl | hx
      ·simp; omega
      ·have := hpi.asks x (by simp [hx]); omega, by have := hpi.made; simp at this ⊢; omega, hpi.hs, fun x hx => by
      rcases List.mem_cons.1 hx with rfl | hx
      ·exact hk
      ·exact hpi.ks x (by simp [hx])⟩
     have hW2 := hWp ⟨⟨lk, r, lcl, lbr⟩ :: t, puts, job, at_, waited, holds, waits, made, did ++ [(lk, a.1, true, false)]⟩ rfl
     refine cR (sV (vF rfl fa117_1 rfl) (sV (vY rfl ld4) ?_))
     refine sN (nK [1, 2, 4, 5, 6, 68] rfl (nT (cC rfl (fun hwt => ?_) (fun hwt => ?_))))
     ·skip
      rw [if_pos hwt] at he
      rw [he]
      have f0 : Rd (RS n fun k => PR (upd H i ⟨.slice (some ⟨lb, lo, none⟩) (⟨lk, a :: r, lcl, lbr⟩ :: t : List Line).length lc, pv, hv, v', .slice (some ⟨ab, ao2, none⟩) r.length (ac - 1) :: avs⟩ k) ((y.put i ⟨⟨lk, r, lcl, lbr⟩ :: t, puts, job, at_, waited, holds, waits, made, did ++ [(lk, a.1, true, false)]⟩).pr k)) ⟨lb, lo + 0 * 5 + 0 + 0, none⟩ (.int .i64 lk.1) := by
       refine RS_in (R := fun k => PR (upd H i _ k) ((y.put i _).pr k)) hi _ _ ?_
       simp only [upd_same]
       rw [put_same (by omega)]
       exact rd_mem (r := VR (.slice (some ⟨lb, lo, none⟩) (⟨lk, a :: r, lcl, lbr⟩ :: t : List Line).length lc) 120 5 (lrows (.slice (some ⟨ab, ao2, none⟩) r.length (ac - 1) :: avs) (⟨lk, r, lcl, lbr⟩ :: t))) (by simp [prl]) _ _ (rd_vrk (m := 0) (k := 0) (r := lC (.slice (some ⟨ab, ao2, none⟩) r.length (ac - 1)) ⟨lk, r, lcl, lbr⟩) rfl rfl)
      refine cd_drawh (ork [(0, 1), (1, 2), (2, 2), (3, 2), (4, 2), (5, 1), (6, 2), (7, 0)] .nil) (fun i => !(Nat.beq i 7)) mixed (by kernel_rfl) ?_
      refine dr_v rfl (v_ldn rfl ld179 rfl rds_pt) ?_
      refine dV rfl (vM rfl) (dV rfl (vN rfl) (dV rfl (vF rfl fa120_0 rfl) (dV rfl (vF rfl fa79_0 rfl) (dr_v rfl (vY rfl ld3) ?_))))
      refine dV rfl (vM rfl) ?_
      obtain ⟨s, hs⟩ := Int.eq_ofNat_of_zero_le hk.1
      have hs2 : lk.1.toNat = s := by omega
      rw [hs2, hylen]
      refine dr_eff rfl (st_cl rfl rfl en148 rfl ((hs ▸ answer_ct (end_all (n + 1)) (b := b) (pb := pb) (po := po) (pc := pc) (i := i) (s := s) (jv := jv) true hy2 (by omega) (by omega) (show s < n by omega) (by omega))) ?_)
      rintro u h' ⟨rfl, H', rfl⟩
      refine dr_nx ?_
      refine dr_nil (nK [4, 6] rfl (nT (cT (xR ?_))))
      exact xt_rt rfl ⟨rfl, _, rfl⟩
     ·skip
      rw [if_neg (by simpa using hwt)] at he
      rw [he]
      refine cK (xT (cT (xR ?_)))
      exact xt_rt rfl ⟨rfl, _, rfl⟩
    ·skip
     rw [if_neg (by simpa using hb)] at he
     rw [he]
     refine cK (xT (cd_draw (ork [(0, 2), (1, 2), (2, 2), (3, 2), (4, 1), (5, 2), (6, 1), (7, 2), (8, 2), (9, 0), (10, 2), (11, 2), (12, 0), (13, 2), (14, 2), (15, 0)] .nil) (fun i => !(Nat.beq i 15)) [pt b6 (cl (aC a) 117)] mixed (by kernel_rfl) ?_))
     refine dV rfl (vM rfl) (dV rfl (vM rfl) (dV rfl (vM rfl) (dV rfl (vF rfl fa117_0 rfl) (dr_v rfl (vY rfl ld3) ?_))))
     refine dV rfl (vF rfl fa117_1 rfl) (dr_v rfl (vY rfl ld4) ?_)
     refine dV rfl (vN rfl) (dV rfl (vF rfl fa77_2 rfl) (dr_eff rfl (st_fp (k := 2) (cells := hpC ⟨.slice (some ⟨lb, lo, none⟩) (⟨lk, a :: r, lcl, lbr⟩ :: t : List Line).length lc, pv, hv, dv, avs⟩ ⟨⟨lk, r, lcl, lbr⟩ :: t, puts, job, at_, waited, holds, waits, made, did⟩) (cells' := hpC ⟨.slice (some ⟨lb, lo, none⟩) (⟨lk, a :: r, lcl, lbr⟩ :: t : List Line).length lc, pv, hv, dv, avs⟩ ⟨⟨lk, r, lcl, lbr⟩ :: t, puts, a.1, at_, waited, holds, waits, made, did⟩) rfl rfl sz3 rfl hi (by decide) rfl slq (dr_nx ?_))))
     refine dV rfl (vN rfl) (dV rfl (vF rfl fa77_3 rfl) (dr_eff rfl (st_fp (k := 3) (cells' := hpC ⟨.slice (some ⟨lb, lo, none⟩) (⟨lk, a :: r, lcl, lbr⟩ :: t : List Line).length lc, pv, hv, dv, avs⟩ ⟨⟨lk, r, lcl, lbr⟩ :: t, puts, a.1, 0, waited, holds, waits, made, did⟩) rfl rfl sz3 rfl hi (by decide) rfl slq (dr_nx ?_))))
     refine dV rfl (vN rfl) (dV rfl (vF rfl fa77_4 rfl) (dr_eff rfl (st_fp (k := 4) (cells' := hpC ⟨.slice (some ⟨lb, lo, none⟩) (⟨lk, a :: r, lcl, lbr⟩ :: t : List Line).length lc, pv, hv, dv, avs⟩ ⟨⟨lk, r, lcl, lbr⟩ :: t, puts, a.1, 0, a.2, holds, waits, made, did⟩) rfl rfl sz4 rfl hi (by decide) rfl slq (dr_nx ?_))))
     refine dr_nil (nK [] rfl (nx_xt (xt_pv (pv_add (triv_pure (φ := ((.slice (some ⟨ab, ao2, none⟩) r.length (ac - 1) : Value) :: avs).length = ((⟨lk, r, lcl, lbr⟩ : Line) :: t).length) (by simp [hal2]))) ?_)))
     refine xt_pv (pv_unfocus (y := y) (G := ⟨.slice (some ⟨lb, lo, none⟩) (⟨lk, a :: r, lcl, lbr⟩ :: t : List Line).length lc, pv, hv, dv, .slice (some ⟨ab, ao2, none⟩) r.length (ac - 1) :: avs⟩) (p := ⟨⟨lk, r, lcl, lbr⟩ :: t, puts, a.1, 0, a.2, holds, waits, made, did⟩) hylen hi) ?_
     exact xt_en rfl ⟨rfl, _, rfl⟩
end Go.Wt
namespace Go.Ck
open Go
section
variable {c : Cx} {ops : Array Oper} {K : Act → World → Prop} {rest : List Oper} {e : Env} {h h' : SH}
theorem st_ins {T ty : TypeId} {x y v : Operand} {pos : String} {after : Array Edge} (hn : St c ops K (⟨none, .mapUpdate T x y v, ty, pos, after, none⟩ :: rest) e h) : St c ops K (⟨none, .insert T x y v, ty, pos, after, none⟩ :: rest) e h := fun a w hk hh hw => by
 have h1 := hn a w hk hh hw
 unfold LsW at h1 ⊢
 have e1 : Region.wanted (⟨none, .insert T x y v, ty, pos, after, none⟩ : Oper) (yielded ops a.tmps) = true := by simp [Region.wanted]
 have e2 : Region.wanted (⟨none, .mapUpdate T x y v, ty, pos, after, none⟩ : Oper) (yielded ops a.tmps) = true := by simp [Region.wanted]
 rw [if_pos e2] at h1
 rw [if_pos e1]
 unfold OpW OpV at h1 ⊢
 rw [Oper.semAt_eq _ _ _ (by simp)] at h1 ⊢
 exact h1
end
end Go.Ck
namespace Go.Wt
open Go Go.Ck Go.Proofs Go.Proofs.YtboepbencndobaaGreat Fx
attribute [local irreducible] St Cd Xt Nx DrL LsW
theorem inf199 : Inf Tryz.prog 199 .nilFunc 1 8 := by unfold Inf; kernel_rfl
def deedsM : List (Int × Value) := [(1, .func (.func 174) #[] #[]), (2, .func (.func 175) #[] #[]), (3, .func (.func 176) #[] #[]), (4, .func (.func 176) #[] #[]), (5, .func (.func 177) #[] #[]), (6, .func (.func 178) #[] #[])]
set_option maxRecDepth 100000 in
theorem deeds_ct : Ct Tryz.prog 147 #[] [] fun u h' => ∃ mb, u = .map (some mb) ∧ h' = [mpr mb deedsM] := by
 refine ct_of (n := 3) Tryz.func147 rfl rfl (len rfl) fun hr w0 => ?_
 refine cS (cR (sV (vA rfl) (sN (nT (cS (cR (st_makeMap (ltn rfl) fun mb => ?_)))))))
 refine st_ins (st_mapUpdate rfl rfl rfl mp200 slq ?_)
 refine st_ins (st_mapUpdate rfl rfl rfl mp200 slq ?_)
 refine st_ins (st_mapUpdate rfl rfl rfl mp200 slq ?_)
 refine st_ins (st_mapUpdate rfl rfl rfl mp200 slq ?_)
 refine st_ins (st_mapUpdate rfl rfl rfl mp200 slq ?_)
 refine st_ins (st_mapUpdate rfl rfl rfl mp200 slq ?_)
 refine sV (vM rfl) (sV (vA rfl) (sN (nK [0] rfl (nT (cT ?_)))))
 exact xt_rt rfl ⟨mb, rfl, rfl⟩
theorem moved_kind {m : Move} {nj n : Int} (h : moved m nj n = true) (hn : 0 < n) : (m.1 = 1 ∨ m.1 = 2 ∨ m.1 = 3 ∨ m.1 = 4 ∨ m.1 = 5 ∨ m.1 = 6) ∧ 0 ≤ m.2.1 ∧ m.2.1 < n := by
 unfold moved within at h
 split at h
 ·simp only [Bool.and_eq_true, decide_eq_true_eq] at h; omega
 ·split at h
  ·simp only [Bool.and_eq_true, decide_eq_true_eq] at h; omega
  ·split at h
   ·simp only [Bool.and_eq_true, decide_eq_true_eq] at h; omega
   ·cases h
structure JobOk (y : Yard) (n i : Nat) : Prop where
 job : 0 ≤ (y.pr i).job ∧ (y.pr i).job.toNat < y.jobs.length
 pc : 0 ≤ (y.pr i).pc ∧ (y.pr i).pc ≤ y.jlen (y.pr i).job
 mv : ∀ m ∈ y.jobs.getD (y.pr i).job.toNat [], moved m y.jobs.length n = true
set_option maxHeartbeats 1000000 in
set_option maxRecDepth 100000 in
theorem move_ct {S : Res} {b pb po pc n B i : Nat} {jv : Value} {H : Nat → PH} {y : Yard} (hy : YBd n B y) (hB : B + (n + 3) ≤ 1000000) (hi : i < n) (hj : Row S 1 (jobR S) jv y.jobs) (hfj : Fits y.jobs) (hok : JobOk y n i) :
  Ct Tryz.prog 120 #[yv b, .int .i64 i] (S :: pt b (cl [jv, .slice (some ⟨pb, po, none⟩) n pc] 27) :: YO (.slice (some ⟨pb, po, none⟩) n pc) n H y.pr)
   fun u h' => u = .tuple #[] ∧ ∃ H', h' = S :: pt b (cl [jv, .slice (some ⟨pb, po, none⟩) n pc] 27) :: YO (.slice (some ⟨pb, po, none⟩) n pc) n H' (y.move i).pr := by
 have hylen := hy.len
 have hpi := hy.pb i hi
 have hself := put_self (y := y) (i := i) (by omega)
 have he : y.move i = if (y.pr i).pc = (y.jlen (y.pr i).job : Int) then y.fin i false else (y.put i { y.pr i with pc := (y.pr i).pc + 1 }).deed i (y.mv (y.pr i).job (y.pr i).pc) := rfl
 obtain ⟨⟨hj0, hj1⟩, ⟨hp0, hp1⟩, hmv⟩ := hok
 obtain ⟨bj, oj, cj, uj, rfl, hrdj, vj, hvj, hrj⟩ := hj.at1 (List.getElem?_eq_getElem hj1)
 simp only [List.cons.injEq, and_true] at hvj
 subst hvj
 have hll := hfj.2 _ (List.getElem_mem hj1)
 have hgd : y.jobs.getD (y.pr i).job.toNat [] = y.jobs[(y.pr i).job.toNat] := by rw [List.getD_eq_getElem?_getD, List.getElem?_eq_getElem hj1]; rfl
 have hjl : y.jlen (y.pr i).job = (y.jobs[(y.pr i).job.toNat]).length := by unfold Yard.jlen; rw [hgd]
 have hmve : y.mv (y.pr i).job (y.pr i).pc = (y.jobs[(y.pr i).job.toNat]).getD (y.pr i).pc.toNat (0, 0, 0) := by unfold Yard.mv; rw [hgd]
 rw [hgd] at hmv
 rw [hmve, hjl] at he
 rw [hjl] at hp1
 generalize hje : y.jobs[(y.pr i).job.toNat] = job at *
 obtain ⟨aj, cj2, rfl, _⟩ := id hrj
 unfold yv
 refine ct_of (n := 57) Tryz.func120 rfl rfl (len rfl) fun hr w0 => ?_
 simp only [List.cons_append]
 refine cS (cR (st_bx rfl rfl fun b2 => ?_))
 refine sN (nK [1, 2] rfl (nT (cS (cR (sV (vF rfl fa179_0 rfl) (sV (vY rfl ld177) ?_))))))
 refine sV (vN rfl) (sV (vF rfl fa27_1 rfl) (sV (vY rfl ld25) ?_))
 refine sV (vM rfl) (sV (vI (k := i) rfl rfl sl25 rfl hi rfl) (sV (vA rfl) (sN (nK [1, 2, 4] rfl (nT (cS (cd_pv (pv_focus hi) ?_)))))))
 generalize hG : H i = G
 generalize hp : y.pr i = p at *
 refine cd_drawh (ork [(0, 2), (1, 1), (2, 2), (3, 2), (4, 1), (5, 2), (6, 2), (7, 2), (8, 1), (9, 2), (10, 1), (11, 2)] .nil) (fun _ => true) mixed (by kernel_rfl) ?_
 refine dV rfl (vF rfl fa179_0 rfl) (dr_v rfl (vY rfl ld177) ?_)
 refine dV rfl (vN rfl) (dV rfl (vF rfl fa27_0 rfl) (dr_v rfl (vY rfl ld22) ?_))
 refine dV rfl (vM rfl) (dV rfl (vN rfl) (dV rfl (vF rfl fa77_2 rfl) (dr_v rfl (vY rfl ld3) ?_)))
 refine dV rfl (vI (k := p.job.toNat) rfl rfl sl22 (by omega) hj1 rfl) (dr_v rfl (vY rfl ld108) ?_)
 refine dV rfl (vA rfl) (dr_nil (nK [1, 2, 4, 5] rfl (nT (cS (cS (cR (sV (vM rfl) (sV (vN rfl) (sV (vF rfl fa77_3 rfl) (sV (vY rfl ld3) ?_))))))))))
 refine sV (vM rfl) (sV (v_len rfl Tryz.underlying108) (sV (v_eql rfl rfl) (sN (nK [1, 2, 4, 5, 31] rfl (nT (cC rfl (fun hc => ?_) (fun hc => ?_)))))))
 ·skip
  rw [if_pos (by simpa using hc)] at he
  rw [he]
  refine cd_pv (pv_unfocus (y := y) (G := G) (p := p) hylen hi) ?_
  rw [hself]
  refine cS (cR (sV (v_ldn rfl ld179 rfl rds_pt) ?_))
  refine sV (vM rfl) (st_cl rfl rfl en146 rfl (fin_ct false hy (by omega) (by omega) hi) ?_)
  rintro u h' ⟨rfl, H', rfl⟩
  refine sN (nK [1, 2, 4, 5] rfl (nT (cT (xR ?_))))
  exact xt_rt rfl ⟨rfl, _, rfl⟩
 ·skip
  have hne : p.pc ≠ (job.length : Int) := by simpa using hc
  rw [if_neg hne] at he
  rw [he]
  obtain ⟨q, hq⟩ := Int.eq_ofNat_of_zero_le hp0
  have hq1 : q < job.length := by omega
  have hmq : job.getD p.pc.toNat (0, 0, 0) = job[q] := by rw [hq, Int.toNat_natCast, List.getD_eq_getElem?_getD, List.getElem?_eq_getElem hq1]; rfl
  rw [hmq]
  obtain ⟨hkind, hs1, hs2⟩ := moved_kind (hmv _ (List.getElem_mem hq1)) (by omega)
  obtain ⟨bm, om, cm, um, hvm, hum, hrdm, rfl⟩ := hrj.at (List.getElem?_eq_getElem hq1)
  have hy2 : YBd n B (y.put i { p with pc := p.pc + 1 }) := hy.put ⟨hpi.lines, hpi.puts, hpi.holds, hpi.did, hpi.asks, hpi.made, hpi.hs, hpi.ks⟩
  generalize job[q] = m at *
  refine cK (xT (cS (cR (sV (vM rfl) (sV (vM rfl) (sV (vN rfl) (sV (vF rfl fa77_3 rfl) (sV (vY rfl ld3) ?_))))))))
  refine sV (vI (k := q) (congrArg some hvm) rfl sl108 hq hq1 rfl) (sV (v_ldn rfl ld110 hum hrdm) ?_)
  refine st_alc al110 fun b6 => ?_
  refine st_stoW rfl rfl sz110 rfl rfl ?_
  refine sN (nK [1, 2, 4, 6] rfl (nT (cS (cR (sV (vM rfl) (sV (vN rfl) (sV (vF rfl fa77_3 rfl) (sV (vY rfl ld3) ?_))))))))
  refine sV (v_add rfl rfl (by unfold I64 at *; omega)) (sV (vN rfl) (sV (vF rfl fa77_3 rfl) (st_fp (k := 3) (cells' := hpC G { p with pc := p.pc + 1 }) rfl rfl sz3 rfl hi (by decide) rfl slq ?_)))
  refine sN (nK [1, 2, 6] rfl (nT (cd_pv (pv_unfocus (y := y) (G := G) (p := { p with pc := p.pc + 1 }) hylen hi) ?_)))
  generalize upd H i G = H1
  generalize y.put i { p with pc := p.pc + 1 } = y1 at hy2 ⊢
  refine cd_drawh (ork [(1, 2), (2, 1), (4, 1), (5, 2), (6, 1), (0, 0), (3, 0), (7, 0)] .nil) (fun i => !(Nat.beq i 7)) mixed (by kernel_rfl) ?_
  refine dV rfl (vF rfl fa110_0 rfl) (dr_v rfl (vY rfl ld3) ?_)
  refine dr_v rfl (v_ldn rfl ld179 rfl rds_pt) ?_
  refine dV rfl (vM rfl) (dr_v rfl (v_ldn rfl ld110 rfl rds_pt) ?_)
  refine dr_eff rfl (st_cl rfl rfl en147 rfl (deeds_ct) ?_)
  rintro u h' ⟨mb, rfl, rfl⟩
  refine dr_nx ?_
  simp only [List.cons_append, List.nil_append]
  obtain ⟨m1, m2, m3⟩ := m
  simp only at hkind hs1 hs2
  rcases hkind with rfl | rfl | rfl | rfl | rfl | rfl
  ·skip
   refine dr_eff rfl (sV (v_lookup rfl rfl mp200 inf199 slq) (dr_nx ?_))
   refine dr_eff rfl (st_cl rfl rfl en174 rfl (enter_ct (1, m2, m3) hy2 (by omega) hi hs1 hs2) ?_)
   rintro u h' ⟨rfl, H', rfl⟩
   refine dr_nx ?_
   refine dr_nil (nK [] rfl (nx_xt ?_))
   exact xt_en rfl ⟨rfl, _, rfl⟩
  ·skip
   refine dr_eff rfl (sV (v_lookup rfl rfl mp200 inf199 slq) (dr_nx ?_))
   refine dr_eff rfl (st_cl rfl rfl en175 rfl (out_ct (2, m2, m3) hy2 (by omega) hi hs1 hs2) ?_)
   rintro u h' ⟨rfl, H', rfl⟩
   refine dr_nx ?_
   refine dr_nil (nK [] rfl (nx_xt ?_))
   exact xt_en rfl ⟨rfl, _, rfl⟩
  ·skip
   refine dr_eff rfl (sV (v_lookup rfl rfl mp200 inf199 slq) (dr_nx ?_))
   refine dr_eff rfl (st_cl rfl rfl en176 rfl (ask_ct (3, m2, m3) hy2 (by omega) hi hs1 hs2) ?_)
   rintro u h' ⟨rfl, H', rfl⟩
   refine dr_nx ?_
   refine dr_nil (nK [] rfl (nx_xt ?_))
   exact xt_en rfl ⟨rfl, _, rfl⟩
  ·skip
   refine dr_eff rfl (sV (v_lookup rfl rfl mp200 inf199 slq) (dr_nx ?_))
   refine dr_eff rfl (st_cl rfl rfl en176 rfl (ask_ct (4, m2, m3) hy2 (by omega) hi hs1 hs2) ?_)
   rintro u h' ⟨rfl, H', rfl⟩
   refine dr_nx ?_
   refine dr_nil (nK [] rfl (nx_xt ?_))
   exact xt_en rfl ⟨rfl, _, rfl⟩
  ·skip
   refine dr_eff rfl (sV (v_lookup rfl rfl mp200 inf199 slq) (dr_nx ?_))
   refine dr_eff rfl (st_cl rfl rfl en177 rfl (spawn_ct (5, m2, m3) hy2 (by omega) hi hs1 hs2) ?_)
   rintro u h' ⟨rfl, H', rfl⟩
   refine dr_nx ?_
   refine dr_nil (nK [] rfl (nx_xt ?_))
   exact xt_en rfl ⟨rfl, _, rfl⟩
  ·skip
   refine dr_eff rfl (sV (v_lookup rfl rfl mp200 inf199 slq) (dr_nx ?_))
   refine dr_eff rfl (st_cl rfl rfl en178 rfl (fail_ct (6, m2, m3) hy2 (by omega) hi hs1 hs2) ?_)
   rintro u h' ⟨rfl, H', rfl⟩
   refine dr_nx ?_
   refine dr_nil (nK [] rfl (nx_xt ?_))
   exact xt_en rfl ⟨rfl, _, rfl⟩
end Go.Wt
namespace Go.Wt
open Go Go.Ck Go.Proofs Go.Proofs.YtboepbencndobaaGreat Fx
attribute [local irreducible] St Cd Xt Nx DrL LsW
/-! ## Which jobs there are -/
theorem close_jobs (y : Yard) (h : Hold) : (y.close h).jobs = y.jobs := by rcases close_cases y h with e | ⟨_, _, _, e⟩ <;> rw [e] <;> rfl
theorem leave_jobs (y : Yard) (i : Nat) : (y.leave i).jobs = y.jobs := by
 unfold Yard.leave; split
 ·rfl
 ·rw [close_jobs]; rfl
theorem leaves_jobs (i : Nat) : ∀ (k : Nat) (y : Yard), (y.leaves i k).jobs = y.jobs
 | 0, _ => rfl
 | k + 1, y => (leaves_jobs i k _).trans (leave_jobs y i)
theorem ends_jobs : ∀ (m : Nat) (y : Yard) (i : Nat) (failed : Bool), (Yard.ends m y i failed).jobs = y.jobs
 | 0, y, i, failed => rfl
 | m + 1, y, i, failed => by
  unfold Yard.ends
  simp only
  split
  ·exact leaves_jobs ..
  ·split
   ·split
    ·split
     ·rw [ends_jobs]; exact leaves_jobs ..
     ·exact leaves_jobs ..
    ·exact leaves_jobs ..
   ·exact leaves_jobs ..
theorem answer_jobs (m : Nat) (y : Yard) (s i : Nat) (failed : Bool) : (y.answer m s i failed).jobs = y.jobs := by
 unfold Yard.answer
 split
 ·simp only
  split
  ·rw [ends_jobs]; rfl
  ·rfl
 ·rfl
theorem take_jobs (y : Yard) (i : Nat) : (y.take i).jobs = y.jobs := by
 unfold Yard.take
 simp only
 split
 ·rfl
 ·split
  ·rfl
  ·split
   ·split
    ·rw [answer_jobs]; rfl
    ·rfl
   ·rfl
theorem enter_jobs (y : Yard) (i : Nat) (to : Int) : (y.enter i to).jobs = y.jobs := by unfold Yard.enter; split <;> rfl
theorem ask_jobs (y : Yard) (i : Nat) (m : Move) : (y.ask i m).jobs = y.jobs := by
 unfold Yard.ask
 split
 ·rfl
 ·split
  ·exact ends_jobs ..
  ·split
   ·exact ends_jobs ..
   ·simp only; split <;> rfl
theorem deed_jobs (y : Yard) (i : Nat) (m : Move) : (y.deed i m).jobs = y.jobs := by
 unfold Yard.deed
 split
 ·exact enter_jobs ..
 ·split
  ·exact leave_jobs ..
  ·split
   ·exact ask_jobs ..
   ·split
    ·rfl
    ·exact ends_jobs ..
theorem move_jobs (y : Yard) (i : Nat) : (y.move i).jobs = y.jobs := by
 unfold Yard.move
 simp only
 split
 ·exact ends_jobs ..
 ·rw [deed_jobs]; rfl
theorem step_jobs (y : Yard) (i : Nat) : (y.step i).jobs = y.jobs := by
 unfold Yard.step
 split
 ·exact move_jobs ..
 ·exact take_jobs ..
/-! ## Bounds behind a step -/
theorem PB.job {n B : Nat} {p : Proc} (h : PB n B p) (j pc w : Int) (wt : Bool) : PB n B { p with job := j, pc := pc, waited := wt, waits := w } := ⟨h.lines, h.puts, h.holds, h.did, h.asks, h.made, h.hs, h.ks⟩
theorem YBd.take {n B : Nat} {y : Yard} (hy : YBd n B y) {i : Nat} (hi : i < n) : YBd n (B + (n + 2)) (y.take i) := by
 have hp := hy.pb i hi
 cases hl : (y.pr i).lines with
 | nil =>
  have : y.take i = y := by unfold Yard.take; simp only [hl]
  rw [this]; exact hy.le (by omega)
 | cons l t =>
  rw [take_eq hl]
  have hlm : l ∈ (y.pr i).lines := by rw [hl]; simp
  have htl : ∀ x ∈ t, x ∈ (y.pr i).lines := fun x hx => by rw [hl]; simp [hx]
  have hll := hp.lines
  rw [hl] at hll
  simp only [List.length_cons] at hll
  cases ha : l.asks with
  | nil =>
   refine YBd.le (B := B) (hy.put ⟨by show t.length ≤ B; omega, hp.puts, hp.holds, hp.did, fun x hx => hp.asks x (htl x hx), hp.made, hp.hs, fun x hx => hp.ks x (htl x hx)⟩) (by omega)
  | cons a r =>
   have hal := hp.asks l hlm
   rw [ha] at hal
   simp only [List.length_cons] at hal
   have key : ∀ d : List Did, d.length ≤ B + 1 → ∀ j pc w wt, PB n (B + 1) { y.pr i with lines := { l with asks := r } :: t, did := d, job := j, pc := pc, waited := wt, waits := w } := fun d hd j pc w wt =>
    ⟨by simp only [List.length_cons]; omega, by have := hp.puts; simp; omega, by have := hp.holds; simp; omega, hd, fun x hx => by
     rcases List.mem_cons.1 hx with rfl | hx
     ·simp; omega
     ·have := hp.asks x (htl x hx); omega, by have := hp.made; simp; omega, hp.hs, fun x hx => by
     rcases List.mem_cons.1 hx with rfl | hx
     ·exact hp.ks l hlm
     ·exact hp.ks x (htl x hx)⟩
   have hd1 : ((y.pr i).did ++ [(l.key, a.1, true, false)]).length ≤ B + 1 := by have := hp.did; simp; omega
   have h1 : YBd n (B + 1) (y.put i { y.pr i with lines := { l with asks := r } :: t, did := (y.pr i).did ++ [(l.key, a.1, true, false)] }) := (hy.le (Nat.le_succ B)).put (key _ hd1 _ _ _ _)
   simp only
   split
   ·split
    ·have := YBd.answer (y.procs.length + 1) (B + 1) (i := i) (failed := true) h1 (s := l.key.1.toNat) (by have := hp.ks l hlm; omega)
     rw [hy.len] at this ⊢
     exact this.le (by omega)
    ·exact h1.le (by omega)
   ·exact YBd.le (B := B + 1) ((hy.le (Nat.le_succ B)).put (key (y.pr i).did (by have := hp.did; omega) _ _ _ _)) (by omega)
theorem YBd.fin {n B : Nat} {y : Yard} (hy : YBd n B y) {i : Nat} (hi : i < n) (f : Bool) : YBd n (B + (n + 1)) (y.fin i f) := by
 unfold Yard.fin; rw [hy.len]; exact YBd.ends (n + 1) B hy hi
theorem YBd.enter {n B : Nat} {y : Yard} (hy : YBd n B y) {i : Nat} (hi : i < n) {to : Int} (h0 : 0 ≤ to) (h1 : to < n) : YBd n (B + 1) (y.enter i to) := by
 unfold Yard.enter
 have hp := hy.pb i hi
 split
 ·exact (hy.le (Nat.le_succ B)).put ⟨by have := hp.lines; simp; omega, by have := hp.puts; simp; omega, by have := hp.holds; simp; omega, by have := hp.did; simp; omega, fun l hl => by have := hp.asks l hl; omega, by have := hp.made; simp; omega, fun h hh => by
   rcases List.mem_append.1 hh with hh | hh
   ·exact hp.hs h hh
   ·simp at hh; subst hh; exact ⟨h0, h1⟩, hp.ks⟩
 ·have hl := hy.lay hi (j := to.toNat) (by omega) false (asks := []) (Nat.zero_le _)
  have hq := hl.pb i hi
  have hh0 : ((y.lay i to.toNat false []).pr i).holds = (y.pr i).holds := by
   unfold Yard.lay
   simp only
   by_cases hit : i = to.toNat
   ·rw [← hit, put_same (by rw [put_len, hy.len]; exact hi), put_same (by rw [hy.len]; exact hi)]
   ·rw [put_ne _ hit, put_same (by rw [hy.len]; exact hi)]
  refine hl.put ⟨hq.lines, hq.puts, by simp only [hh0]; have := hp.holds; simp; omega, hq.did, hq.asks, hq.made, fun h hh => ?_, hq.ks⟩
  rcases List.mem_append.1 hh with hh | hh
  ·exact hq.hs h hh
  ·simp at hh; subst hh; exact ⟨h0, h1⟩
theorem YBd.ask {n B : Nat} {y : Yard} (hy : YBd n B y) {i : Nat} (hi : i < n) {m : Move} (h0 : 0 ≤ m.2.1) (h1 : m.2.1 < n) : YBd n (B + (n + 1)) (y.ask i m) := by
 unfold Yard.ask
 split
 ·exact hy.le (by omega)
 ·split
  ·exact hy.fin hi true
  ·split
   ·exact hy.fin hi true
   ·rename_i j hj
    unfold Proc.line at hj
    have hjl := (List.findIdx?_eq_some_iff_getElem.1 hj).1
    have hq := hy.pb m.2.1.toNat (by omega)
    have hgd : (y.pr m.2.1.toNat).lines.getD j Line.none = (y.pr m.2.1.toNat).lines[j] := by rw [List.getD_eq_getElem?_getD, List.getElem?_eq_getElem hjl]; rfl
    simp only [hgd]
    have ha := hq.asks _ (List.getElem_mem hjl)
    have hy1 : YBd n (B + 1) (y.put m.2.1.toNat ((y.pr m.2.1.toNat).setl j { (y.pr m.2.1.toNat).lines[j] with asks := (y.pr m.2.1.toNat).lines[j].asks ++ [(m.2.2, m.1 == 4)] })) :=
     (hy.le (Nat.le_succ B)).put ((hq.le (Nat.le_succ B)).setl (List.getElem?_eq_getElem hjl) (by simp; omega) rfl)
    split
    ·exact (hy1.put ((hy1.pb i hi).job _ _ _ _)).le (by omega)
    ·exact hy1.le (by omega)
theorem YBd.deed {n B : Nat} {y : Yard} (hy : YBd n B y) {i : Nat} (hi : i < n) {m : Move} (h0 : 0 ≤ m.2.1) (h1 : m.2.1 < n) : YBd n (B + (n + 1)) (y.deed i m) := by
 unfold Yard.deed
 split
 ·exact (hy.enter hi h0 h1).le (by omega)
 ·split
  ·exact (hy.leave hi).le (by omega)
  ·split
   ·exact hy.ask hi h0 h1
   ·split
    ·exact (hy.lay hi (j := m.2.1.toNat) (by omega) true (asks := [(m.2.2, false)]) (by simp)).le (by omega)
    ·exact hy.fin hi true
theorem YBd.move {n B : Nat} {y : Yard} (hy : YBd n B y) {i : Nat} (hi : i < n) (hok : JobOk y n i) : YBd n (B + (n + 2)) (y.move i) := by
 unfold Yard.move
 simp only
 split
 ·exact (hy.fin hi false).le (by omega)
 ·rename_i hne
  have hy1 : YBd n B (y.put i { y.pr i with pc := (y.pr i).pc + 1 }) := hy.put ((hy.pb i hi).job _ _ _ _)
  have hm : y.mv (y.pr i).job (y.pr i).pc ∈ y.jobs.getD (y.pr i).job.toNat [] := by
   unfold Yard.mv
   have h1 : (y.pr i).pc.toNat < (y.jobs.getD (y.pr i).job.toNat []).length := by
    have := hok.pc; unfold Yard.jlen at this hne; omega
   rw [List.getD_eq_getElem?_getD (l := y.jobs.getD (y.pr i).job.toNat []), List.getElem?_eq_getElem h1]
   exact List.getElem_mem h1
  have := moved_kind (hok.mv _ hm) (by omega)
  exact (hy1.deed hi this.2.1 this.2.2).le (by omega)
theorem YBd.step {n B : Nat} {y : Yard} (hy : YBd n B y) {i : Nat} (hi : i < n) (hok : 0 ≤ (y.pr i).job → JobOk y n i) : YBd n (B + (n + 2)) (y.step i) := by
 unfold Yard.step
 split
 ·rename_i h; exact hy.move hi (hok h)
 ·exact hy.take hi
theorem own_range {y : Yard} {n : Nat} (h : y.procs.length = n) : (⟨y.jobs, (List.range n).map y.pr⟩ : Yard) = y := by
 apply Yard.ext'
 ·rfl
 ·subst h
  apply List.ext_getElem
  ·simp
  ·intro i h1 h2
   simp at h1
   rw [List.getElem_map, List.getElem_range, pr_get h1]
end Go.Wt
namespace Go.Wt
open Go Go.Ck Go.Proofs Go.Proofs.YtboepbencndobaaGreat Fx
attribute [local irreducible] St Cd Xt Nx DrL LsW
section
variable {S : Res}
def notFull (p : Proc) : Bool := decide ((p.did.length : Int) ≤ 400) && decide ((p.puts.length : Int) ≤ 400) && decide ((p.lines.length : Int) ≤ 400) && p.lines.all fun l => decide ((l.asks.length : Int) ≤ 400)
set_option maxRecDepth 100000 in
theorem full1_ct {us : List Value} {l : Line} (hl : lineR S us l) : Reads Tryz.prog 151 #[.agg us.toArray] [S] (.bool (decide ((l.asks.length : Int) ≤ 400))) := by
 obtain ⟨av, rfl, hA⟩ := hl
 obtain ⟨aa, ca, rfl, _⟩ := id hA
 refine ct_of (n := 7) Tryz.func151 rfl rfl (len rfl) fun hr w0 => ?_
 refine cS (cR (st_bx rfl rfl fun b1 => ?_))
 refine sV (vA rfl) (sN (nK [1, 2] rfl (nT (cS (cR (sV (vF rfl fa120_1 rfl) (sV (vY rfl ld118) ?_)))))))
 refine sV (v_len rfl Tryz.underlying118) (sV (v_leq rfl rfl) (sV (vA rfl) (sN (nK [2] rfl (nT (cT ?_))))))
 exact xt_rt rfl ⟨rfl, rfl⟩
set_option maxRecDepth 100000 in
theorem full2_ct {us : List Value} {p : Proc} (hp : procR S us p) (hf : FitP p) : Reads Tryz.prog 150 #[.agg us.toArray] [S] (.bool (notFull p)) := by
 obtain ⟨lv, pv, hv, dv, rfl, hL, hP, hH, hD⟩ := hp
 obtain ⟨al, cl', rfl, _⟩ := id hL
 obtain ⟨ap', cp', rfl, _⟩ := id hP
 obtain ⟨ah, ch', rfl, _⟩ := id hH
 obtain ⟨ad, cd', rfl, _⟩ := id hD
 unfold notFull
 refine ct_of (n := 24) Tryz.func150 rfl rfl (len rfl) fun hr w0 => ?_
 refine cS (cR (st_bx rfl rfl fun b1 => ?_))
 refine sV (vA rfl) (sN (nK [1, 2] rfl (nT (cS (cR (sV (vF rfl fa77_8 rfl) (sV (vY rfl ld62) ?_)))))))
 refine sV (v_len rfl Tryz.underlying62) (sV (v_leq rfl rfl) (sV (vM rfl) (st_cut (k := 10) (d := 12) (v := .bool (decide ((p.did.length : Int) ≤ 400) && decide ((p.puts.length : Int) ≤ 400))) (fun hcut => bool_want (b := decide ((p.did.length : Int) ≤ 400)) true (fun hg => ?_) (fun hg => ?_)) ?_)))
 ·refine st_sk rfl rfl hg ?_
  iterate 3 refine st_sk rfl rfl hg ?_
  refine sV (vP (bE rfl hg) rfl) ?_
  exact hcut _ (uH (by first | rfl | (rw [hg]; rfl) | simp_all) (uS rfl (uS rfl (uS rfl (uS rfl (uR))))))
 ·skip
  refine sG rfl (bG rfl hg) (vF rfl fa77_1 rfl) (sG rfl (bG rfl hg) (vY rfl ld74) ?_)
  refine sG rfl (bG rfl hg) (v_len rfl Tryz.underlying74) (sG rfl (bG rfl hg) (v_leq rfl rfl) (sV (vQ (bE rfl hg) rfl) ?_))
  exact hcut _ (uH (by first | rfl | (rw [hg]; rfl) | simp_all) (uS rfl (uS rfl (uS rfl (uS rfl (uR))))))
 refine sV (vM rfl) (st_cut (k := 16) (d := 18) (v := .bool (decide ((p.did.length : Int) ≤ 400) && decide ((p.puts.length : Int) ≤ 400) && decide ((p.lines.length : Int) ≤ 400))) (fun hcut => bool_want (b := (decide ((p.did.length : Int) ≤ 400) && decide ((p.puts.length : Int) ≤ 400))) true (fun hg => ?_) (fun hg => ?_)) ?_)
 ·refine st_sk rfl rfl hg ?_
  iterate 3 refine st_sk rfl rfl hg ?_
  refine sV (vP (bE rfl hg) rfl) ?_
  exact hcut _ (uH (by first | rfl | (rw [hg]; rfl) | simp_all) (uS rfl (uS rfl (uS rfl (uS rfl (uR))))))
 ·skip
  refine sG rfl (bG rfl hg) (vF rfl fa77_0 rfl) (sG rfl (bG rfl hg) (vY rfl ld73) ?_)
  refine sG rfl (bG rfl hg) (v_len rfl Tryz.underlying73) (sG rfl (bG rfl hg) (v_leq rfl rfl) (sV (vQ (bE rfl hg) rfl) ?_))
  exact hcut _ (uH (by first | rfl | (rw [hg]; rfl) | simp_all) (uS rfl (uS rfl (uS rfl (uS rfl (uR))))))
 refine sV (vM rfl) (st_cut (k := 21) (d := 23) (v := .bool (decide ((p.did.length : Int) ≤ 400) && decide ((p.puts.length : Int) ≤ 400) && decide ((p.lines.length : Int) ≤ 400) && p.lines.all fun l => decide ((l.asks.length : Int) ≤ 400))) (fun hcut => bool_want (b := (decide ((p.did.length : Int) ≤ 400) && decide ((p.puts.length : Int) ≤ 400) && decide ((p.lines.length : Int) ≤ 400))) true (fun hg => ?_) (fun hg => ?_)) ?_)
 ·refine st_sk rfl rfl hg ?_
  iterate 2 refine st_sk rfl rfl hg ?_
  refine sV (vP (bE rfl hg) rfl) ?_
  exact hcut _ (uH (by first | rfl | (rw [hg]; rfl) | simp_all) (uS rfl (uS rfl (uS rfl (uR)))))
 ·skip
  refine sG rfl (bG rfl hg) (vF rfl fa77_0 rfl) (sG rfl (bG rfl hg) (vY rfl ld73) ?_)
  refine st_clrg rfl (bG rfl hg) rfl rfl en139 rfl (al139_ct (g := fun l : Line => decide ((l.asks.length : Int) ≤ 400)) hL hf.1 en151 fun x hx us hus hX => full1_ct hX) ?_
  refine sV (vQ (bE rfl hg) rfl) ?_
  exact hcut _ (uH (by first | rfl | (rw [hg]; rfl) | simp_all) (uS rfl (uS rfl (uS rfl (uR)))))
 refine sV (vA rfl) (sN (nK [2] rfl (nT (cT ?_))))
 exact xt_rt rfl ⟨rfl, rfl⟩
set_option maxRecDepth 100000 in
theorem full_ct {jv pv : Value} {y : Yard} (hp : Row S 9 (procR S) pv y.procs) (hl : y.procs.length ≤ 1000000) (hf : ∀ p ∈ y.procs, FitP p) : Reads Tryz.prog 122 #[.agg #[jv, pv]] [S] (.bool y.full) := by
 have he : y.full = !y.procs.all notFull := rfl
 rw [he]
 refine ct_of (n := 7) Tryz.func122 rfl rfl (len rfl) fun hr w0 => ?_
 refine cS (cR (st_bx rfl rfl fun b1 => ?_))
 refine sV (vA rfl) (sN (nK [1, 2] rfl (nT (cS (cR (sV (vF rfl fa27_1 rfl) (sV (vY rfl ld25) ?_)))))))
 refine st_clr rfl rfl en149 rfl (al149_ct (g := notFull) hp hl en150 fun x hx us hus hX => full2_ct hX (hf x hx)) ?_
 refine sV (v_not rfl) (sV (vA rfl) (sN (nK [2] rfl (nT (cT ?_)))))
 exact xt_rt rfl ⟨rfl, rfl⟩
theorem fit_of {n B : Nat} {y : Yard} (hy : YBd n B y) (hB : B ≤ 1000000) (hn : n ≤ 1000000) (hj : Fits y.jobs) : Fit y := ⟨hj, by rw [hy.len]; exact hn, fun p hp => by
 obtain ⟨i, hi, rfl⟩ := List.mem_iff_getElem.1 hp
 have := hy.pb i (by rw [← hy.len]; exact hi)
 rw [pr_get hi] at this
 exact ⟨by have := this.lines; omega, by have := this.puts; omega, by have := this.holds; omega, by have := this.did; omega, fun l hl => by have := this.asks l hl; omega⟩⟩
set_option maxHeartbeats 1000000 in
set_option maxRecDepth 100000 in
theorem step_ct {ys : List Value} {y : Yard} {n B i : Nat} (hy : yardR S ys y) (hf : Fit y) (hb : YBd n B y) (hB : B + (n + 3) ≤ 1000000) (hi : i < n) (hok : 0 ≤ (y.pr i).job → JobOk y n i) (hl : (y.pr i).job < 0 → (y.pr i).lines ≠ []) :
  CtN Tryz.prog 76 #[.agg ys.toArray, .int .i64 i] [S] fun u T => ∃ ys', u = .tuple #[.agg ys'.toArray, .int .i64 (y.stepE i).2] ∧ yardR T ys' (y.stepE i).1 := by
 obtain ⟨jv, pv, rfl, hj, hp⟩ := id hy
 have hlen := hb.len
 have hn : 0 < n := by omega
 have he : y.stepE i = if (y.step i).full = true then (Yard.nil, 3) else (y.step i, 0) := rfl
 have hst : y.step i = if 0 ≤ (y.pr i).job then y.move i else y.take i := rfl
 have hbs := hb.step hi hok
 have hfs : Fit (y.step i) := fit_of hbs (by omega) (by omega) (by rw [step_jobs]; exact hf.1)
 have hrange : (List.range n).map (y.step i).pr = (y.step i).procs := congrArg Yard.procs (own_range hbs.len)
 have hfc : ∀ (jv' : Value) (pb po pc : Nat) (H' : Nat → PH), Reads Tryz.prog 122 #[.agg #[jv', .slice (some ⟨pb, po, none⟩) n pc]] (YO (.slice (some ⟨pb, po, none⟩) n pc) n H' (y.step i).pr) (.bool (y.step i).full) := fun jv' pb po pc H' => reads_YO (x := []) fun hok => by
  have h1 := YO_row (S := Res.star (YO (.slice (some ⟨pb, po, none⟩) n pc) n H' (y.step i).pr)) hok fun r hr a u hu => rd_mem hr a u hu
  rw [hrange] at h1
  exact full_ct (jv := jv') h1 hfs.2.1 hfs.2.2
 have hown : (⟨y.jobs, (List.range n).map (y.step i).pr⟩ : Yard) = y.step i := by rw [← step_jobs y i]; exact own_range hbs.len
 refine ct_of (n := 26) Tryz.func76 rfl rfl (len rfl) fun hr w0 => ?_
 refine cS (cR (st_bx rfl rfl fun b2 => ?_))
 refine st_alc al27 fun b4 => ?_
 refine sV (vA rfl) (sN (nK [1, 2, 4, 5] rfl (nT (cS (cR (sV (v_ldn rfl ld27 rfl rds_pt) ?_))))))
 refine st_cl rfl rfl en75 rfl (copied_ct hy hf) ?_
 rintro u h' ⟨jv', pv', H, hs, rfl, rfl⟩
 rw [hlen]
 simp only [List.append_assoc, List.cons_append, List.nil_append]
 refine st_rowf (v := jv') (E := 108) (sz := 1) (rows := hs.map fun h => [h]) slq fun ja jc hje _ _ => ?_
 subst hje
 refine st_row (v := pv') (E := 77) (sz := 9) (rows := (List.range n).map fun k => hpC (H k) (y.pr k)) slq (fun _ h0 => by simp at h0; omega) fun pb po pc hpe _ _ => ?_
 simp only [List.length_map, List.length_range] at hpe
 subst hpe
 generalize hjv : Value.slice ja (hs.map fun h => [h]).length jc = jv'
 have hj1 : jv'.oneCell' = true := by rw [← hjv]; rfl
 clear hjv
 refine st_pv (pv_pack (L := JO jv' hs y.jobs)) ?_
 refine st_ok (r := Res.star (JO jv' hs y.jobs)) slq fun hok1 => ?_
 have hJ : Row (Res.star (JO jv' hs y.jobs)) 1 (jobR (Res.star (JO jv' hs y.jobs))) jv' y.jobs := JO_row hok1 fun r hr a u hu => rd_mem hr a u hu
 refine st_alc al27 fun b6 => ?_
 refine st_stoW rfl rfl sz27 rfl (by rw [List.all_cons, hj1]; rfl) ?_
 refine sN (nK [1, 4, 5, 6] rfl (nT (cS (cS (cd_pv (pv_focus (pv := .slice (some ⟨pb, po, none⟩) n pc) (H := H) (f := y.pr) hi) ?_)))))
 generalize hG : H i = G
 have hself := put_self (y := y) (i := i) (by omega)
 generalize hq : y.pr i = q at *
 refine cR (sV (vF rfl fa27_1 rfl) (sV (vY rfl ld25) ?_))
 refine sV (vM rfl) (sV (vI (k := i) rfl rfl sl25 rfl hi rfl) (sV (vF rfl fa77_2 rfl) (sV (vY rfl ld3) ?_)))
 refine sV (v_geq rfl rfl) (sN (nK [1, 4, 5, 6, 15] rfl (nT (cC rfl (fun hc => ?_) (fun hc => ?_)))))
 ·skip
  have hc2 : 0 ≤ q.job := by simpa using hc
  rw [if_pos hc2] at hst
  refine cd_pv (pv_unfocus (y := y) (G := G) (p := q) hlen hi) ?_
  rw [hself]
  refine cR (sV (v_build (cells := [.pointer (some ⟨b6, 0, none⟩)]) rfl (fun _ => by kernel_rfl)) ?_)
  refine sV (vM rfl) (st_cl rfl rfl en120 rfl (move_ct hb hB hi hJ hf.1 (hok hc2)) ?_)
  rintro u h' ⟨rfl, H', rfl⟩
  rw [← hst]
  refine sN (nK [4, 5, 6] rfl (nT (cS (cS (cR (sV (v_ldn rfl ld27 rfl rds_pt) ?_))))))
  refine st_clr rfl rfl en122 rfl (hfc jv' pb po pc H') ?_
  refine sN (nK [4, 5, 6, 23] rfl (nT (cC rfl (fun hfull => ?_) (fun hfull => ?_))))
  ·skip
   rw [if_pos hfull] at he
   rw [he]
   refine cS (cR (sV (v_build (cells := [.slice none 0 0, .slice none 0 0]) rfl (fun _ => by kernel_rfl)) ?_))
   refine st_stoW rfl rfl sz27 rfl rfl ?_
   refine sV (vA rfl) (sN (nK [4, 5, 6] rfl (nT (cT (xR (xt_vw (vw_pure (φ := True) trivial) ?_))))))
   exact xt_retV (.cellN rfl ld27 rfl slq (.tmp rfl .nil)) ⟨pureR True, rfl, _, rfl, nil_yard _⟩ sbr
  ·skip
   rw [if_neg (by simpa using hfull)] at he
   rw [he]
   refine cK (xT (cS (cR (sV (v_ldn rfl ld27 rfl rds_pt) ?_))))
   refine st_stoW rfl rfl sz27 rfl (by rw [List.all_cons, hj1]; rfl) ?_
   refine sV (vA rfl) (sN (nK [4, 5] rfl (nT (cT (xt_pv (pv_unpack (L := JO jv' hs y.jobs)) ?_)))))
   refine xt_pv (pv_pack (L := JO jv' hs y.jobs ++ YO (.slice (some ⟨pb, po, none⟩) n pc) n H' (y.step i).pr)) ?_
   refine xt_ok .here fun hok2 => ?_
   have hyy := own_yard (jv := jv') (pv := .slice (some ⟨pb, po, none⟩) n pc) hok2 (fun r h => h) (fun g hg => (HoldsF.append.1 hg).1) (fun g hg => (HoldsF.append.1 hg).2.1)
   rw [hown] at hyy
   exact xt_retV (.cellN rfl ld27 rfl slq (.tmp rfl .nil)) ⟨_, rfl, _, rfl, hyy⟩ sbr
 ·skip
  have hc2 : q.job < 0 := by
   have : ¬ 0 ≤ q.job := by simpa using hc
   omega
  rw [if_neg (by omega)] at hst
  refine cd_pv (pv_unfocus (y := y) (G := G) (p := q) hlen hi) ?_
  rw [hself]
  refine cR (sV (v_build (cells := [.pointer (some ⟨b6, 0, none⟩)]) rfl (fun _ => by kernel_rfl)) ?_)
  refine sV (vM rfl) (st_cl rfl rfl en121 rfl (take_ct hb hB hi (by rw [hq]; exact hl hc2)) ?_)
  rintro u h' ⟨rfl, H', rfl⟩
  rw [← hst]
  refine sN (nK [4, 5, 6] rfl (nT (cS (cS (cR (sV (v_ldn rfl ld27 rfl rds_pt) ?_))))))
  refine st_clr rfl rfl en122 rfl (hfc jv' pb po pc H') ?_
  refine sN (nK [4, 5, 6, 23] rfl (nT (cC rfl (fun hfull => ?_) (fun hfull => ?_))))
  ·skip
   rw [if_pos hfull] at he
   rw [he]
   refine cS (cR (sV (v_build (cells := [.slice none 0 0, .slice none 0 0]) rfl (fun _ => by kernel_rfl)) ?_))
   refine st_stoW rfl rfl sz27 rfl rfl ?_
   refine sV (vA rfl) (sN (nK [4, 5, 6] rfl (nT (cT (xR (xt_vw (vw_pure (φ := True) trivial) ?_))))))
   exact xt_retV (.cellN rfl ld27 rfl slq (.tmp rfl .nil)) ⟨pureR True, rfl, _, rfl, nil_yard _⟩ sbr
  ·skip
   rw [if_neg (by simpa using hfull)] at he
   rw [he]
   refine cK (xT (cS (cR (sV (v_ldn rfl ld27 rfl rds_pt) ?_))))
   refine st_stoW rfl rfl sz27 rfl (by rw [List.all_cons, hj1]; rfl) ?_
   refine sV (vA rfl) (sN (nK [4, 5] rfl (nT (cT (xt_pv (pv_unpack (L := JO jv' hs y.jobs)) ?_)))))
   refine xt_pv (pv_pack (L := JO jv' hs y.jobs ++ YO (.slice (some ⟨pb, po, none⟩) n pc) n H' (y.step i).pr)) ?_
   refine xt_ok .here fun hok2 => ?_
   have hyy := own_yard (jv := jv') (pv := .slice (some ⟨pb, po, none⟩) n pc) hok2 (fun r h => h) (fun g hg => (HoldsF.append.1 hg).1) (fun g hg => (HoldsF.append.1 hg).2.1)
   rw [hown] at hyy
   exact xt_retV (.cellN rfl ld27 rfl slq (.tmp rfl .nil)) ⟨_, rfl, _, rfl, hyy⟩ sbr
end
end Go.Wt
namespace Go.Wt
theorem put_cases (y : Yard) (i : Nat) (p : Proc) (k : Nat) : (y.put i p).pr k = y.pr k ∨ (k = i ∧ (y.put i p).pr k = p) := by
 by_cases hk : k = i
 ·by_cases hi : i < y.procs.length
  ·subst hk; exact .inr ⟨rfl, put_same hi p⟩
  ·left
   have : y.put i p = y := by
    apply Yard.ext'
    ·rfl
    ·exact List.set_eq_of_length_le (by omega)
   rw [this]
 ·exact .inl (put_ne p hk)
structure HM (M : Nat) (y : Yard) : Prop where
 all : ∀ i, ((y.pr i).holds.length : Int) ≤ (y.pr i).pc ∧ (y.pr i).made ≤ M
instance {M : Nat} {y : Yard} : CoeFun (HM M y) fun _ => ∀ i, ((y.pr i).holds.length : Int) ≤ (y.pr i).pc ∧ (y.pr i).made ≤ M := ⟨HM.all⟩
theorem HM.put {M : Nat} {y : Yard} (h : HM M y) {i : Nat} {p : Proc} (h1 : (p.holds.length : Int) ≤ p.pc) (h2 : p.made ≤ M) : HM M (y.put i p) := ⟨fun k => by
 rcases put_cases y i p k with e | ⟨_, e⟩
 ·rw [e]; exact h k
 ·rw [e]; exact ⟨h1, h2⟩⟩
theorem HM.le {M M' : Nat} {y : Yard} (h : HM M y) (hm : M ≤ M') : HM M' y := ⟨fun k => ⟨(h k).1, by have := (h k).2; omega⟩⟩
theorem HM.close {M : Nat} {y : Yard} (h : HM M y) (x : Hold) : HM M (y.close x) := by
 rcases close_cases y x with e | ⟨j, l, _, e⟩
 ·rw [e]; exact h
 ·rw [e]; exact h.put (h _).1 (h _).2
theorem HM.leave {M : Nat} {y : Yard} (h : HM M y) (i : Nat) : HM M (y.leave i) := by
 unfold Yard.leave
 split
 ·exact h
 ·refine (h.put (i := i) (p := { y.pr i with holds := (y.pr i).holds.dropLast }) ?_ (h i).2).close _
  have := (h i).1
  simp only [List.length_dropLast]
  omega
theorem HM.leaves {M : Nat} (i : Nat) : ∀ (k : Nat) {y : Yard}, HM M y → HM M (y.leaves i k)
 | 0, _, h => h
 | k + 1, _, h => HM.leaves i k (h.leave i)
theorem leaves_nil {i : Nat} : ∀ (k : Nat) {y : Yard}, (y.pr i).holds.length = k → ((y.leaves i k).pr i).holds = []
 | 0, y, h => List.eq_nil_of_length_eq_zero h
 | k + 1, y, h => by
  have hi : i < y.procs.length := by
   rcases Nat.lt_or_ge i y.procs.length with hi | hi
   ·exact hi
   ·have : y.pr i = Proc.empty := by unfold Yard.pr; rw [List.getD_eq_getElem?_getD, List.getElem?_eq_none hi]; rfl
    rw [this] at h; cases h
  exact leaves_nil k (y := y.leave i) (by rw [leave_holds hi, List.length_dropLast]; omega)
theorem HM.ends {M : Nat} : ∀ (m : Nat) {y : Yard} {i : Nat} {f : Bool}, HM M y → HM M (Yard.ends m y i f)
 | 0, _, _, _, h => h
 | m + 1, y, i, f, h => by
  unfold Yard.ends
  simp only
  have hz := HM.leaves i (y.pr i).holds.length h
  have hn := leaves_nil (i := i) (y.pr i).holds.length (y := y) rfl
  generalize y.leaves i (y.pr i).holds.length = z at hz hn ⊢
  have hp : HM M ((z.put i { z.pr i with job := -1, pc := 0, waited := false })) := hz.put (by simp [hn]) (hz i).2
  have hz0 : ∀ (q : Proc), q = (z.put i { z.pr i with job := -1, pc := 0, waited := false }).pr i → ((q.holds.length : Int) ≤ q.pc) ∧ q.made ≤ M := fun q hq => hq ▸ hp i
  split
  ·exact hp
  ·rename_i l t _
   have hp2 := hp.put (i := i) (p := { (z.put i { z.pr i with job := -1, pc := 0, waited := false }).pr i with did := (z.pr i).did ++ [(l.key, (z.pr i).job, false, f)], lines := { l with broken := l.broken || f } :: t }) (hp i).1 (hp i).2
   generalize (z.put i { z.pr i with job := -1, pc := 0, waited := false }).put i _ = w at hp2 ⊢
   split
   ·split
    ·have hp3 := hp2.put (i := l.key.1.toNat) (p := { w.pr l.key.1.toNat with waits := -1 }) (hp2 _).1 (hp2 _).2
     split
     ·exact HM.ends m hp3
     ·exact hp3
    ·exact hp2
   ·exact hp2
theorem HM.answer {M : Nat} {m : Nat} {y : Yard} (h : HM M y) (s i : Nat) (f : Bool) : HM M (y.answer m s i f) := by
 unfold Yard.answer
 split
 ·have h2 := h.put (i := s) (p := { y.pr s with waits := -1 }) (h s).1 (h s).2
  simp only
  split
  ·exact HM.ends m h2
  ·exact h2
 ·exact h
theorem HM.take {M : Nat} {y : Yard} (h : HM M y) {i : Nat} (hj : (y.pr i).holds = []) : HM M (y.take i) := by
 unfold Yard.take
 simp only
 split
 ·exact h
 ·split
  ·exact h.put (h i).1 (h i).2
  ·split
   ·have h2 := fun p (hp : p.holds = (y.pr i).holds ∧ p.pc = (y.pr i).pc ∧ p.made = (y.pr i).made) => h.put (i := i) (p := p) (by rw [hp.1, hp.2.1]; exact (h i).1) (by rw [hp.2.2]; exact (h i).2)
    split
    ·refine HM.answer (h2 _ ⟨?_, ?_, ?_⟩) _ _ _ <;> rfl
    ·refine h2 _ ⟨?_, ?_, ?_⟩ <;> rfl
   ·exact h.put (by simp [hj]) (h i).2
theorem HM.lay {M : Nat} {y : Yard} (h : HM M y) (i j : Nat) (c : Bool) (l : List Ask) : HM (M + 1) (y.lay i j c l) := by
 unfold Yard.lay
 simp only
 have h1 := (h.le (Nat.le_succ M)).put (i := i) (p := { y.pr i with made := (y.pr i).made + 1 }) (h i).1 (by have := (h i).2; simp; omega)
 exact h1.put (h1 j).1 (h1 j).2
theorem lay_holds (y : Yard) (i j k : Nat) (c : Bool) (l : List Ask) : ((y.lay i j c l).pr k).holds = (y.pr k).holds ∧ ((y.lay i j c l).pr k).pc = (y.pr k).pc := by
 unfold Yard.lay
 simp only
 have h1 : ∀ k, ((y.put i { y.pr i with made := (y.pr i).made + 1 }).pr k).holds = (y.pr k).holds ∧ ((y.put i { y.pr i with made := (y.pr i).made + 1 }).pr k).pc = (y.pr k).pc := fun k => by
  rcases put_cases y i { y.pr i with made := (y.pr i).made + 1 } k with e | ⟨rfl, e⟩
  ·rw [e]; exact ⟨rfl, rfl⟩
  ·rw [e]; exact ⟨rfl, rfl⟩
 generalize y.put i { y.pr i with made := (y.pr i).made + 1 } = z at h1 ⊢
 rcases put_cases z j { z.pr j with lines := (z.pr j).lines ++ [⟨((i : Int), (y.pr i).made), l, c, false⟩], puts := (z.pr j).puts ++ [((i : Int), (y.pr i).made)] } k with e | ⟨rfl, e⟩
 ·rw [e]; exact h1 k
 ·rw [e]; exact h1 k
theorem HM.deed {M : Nat} {y : Yard} (h : HM M y) {i : Nat} (hs : ((y.pr i).holds.length : Int) + 1 ≤ (y.pr i).pc) (m : Move) : HM (M + 1) (y.deed i m) := by
 have hM := h.le (Nat.le_succ M)
 unfold Yard.deed
 split
 ·unfold Yard.enter
  split
  ·exact hM.put (by simp; omega) (hM i).2
  ·have h1 := h.lay i m.2.1.toNat false []
   have h2 := lay_holds y i m.2.1.toNat i false []
   simp only
   exact h1.put (by simp only [h2.1, h2.2]; simp; omega) (h1 i).2
 ·split
  ·exact hM.leave i
  ·split
   ·unfold Yard.ask
    split
    ·exact hM
    ·split
     ·exact HM.ends _ hM
     ·split
      ·exact HM.ends _ hM
      ·simp only
       have h1 := fun j l => hM.put (i := m.2.1.toNat) (p := (y.pr m.2.1.toNat).setl j l) (hM _).1 (hM _).2
       split
       ·exact (h1 _ _).put (h1 _ _ i).1 (h1 _ _ i).2
       ·exact h1 _ _
   ·split
    ·exact h.lay i _ _ _
    ·exact HM.ends _ hM
theorem HM.step {M : Nat} {y : Yard} (h : HM M y) {i : Nat} (hi : i < y.procs.length) (hj : (y.pr i).job < 0 → (y.pr i).holds = []) : HM (M + 1) (y.step i) := by
 unfold Yard.step
 split
 ·unfold Yard.move
  simp only
  split
  ·exact (HM.ends _ h).le (Nat.le_succ M)
  ·have h1 := h.put (i := i) (p := { y.pr i with pc := (y.pr i).pc + 1 }) (by have := (h i).1; simp; omega) (h i).2
   exact h1.deed (by rw [put_same hi]; have := (h i).1; simp; omega) _
 ·rename_i hn
  exact (h.take (hj (by omega))).le (Nat.le_succ M)
end Go.Wt
namespace Go.Wt
structure Live (y : Yard) (M : Nat) : Prop where
 hist : ∃ h : HYard, HInv h ∧ h.now = y
 nf : y.full = false
 hm : HM M y
theorem full_false {y : Yard} (h : y.full = false) {i : Nat} (hi : i < y.procs.length) : (y.pr i).did.length ≤ 400 ∧ (y.pr i).puts.length ≤ 400 ∧ (y.pr i).lines.length ≤ 400 ∧ ∀ l ∈ (y.pr i).lines, l.asks.length ≤ 400 := by
 unfold Yard.full at h
 simp only [Bool.not_eq_false', List.all_eq_true, Bool.and_eq_true, decide_eq_true_eq] at h
 have := h (y.pr i) (by rw [pr_get hi]; exact List.getElem_mem hi)
 exact ⟨by omega, by omega, by omega, fun l hl => by have := this.2 l hl; omega⟩
theorem keyed_of {k : Key} {n : Nat} (h : 0 ≤ k.1 ∧ k.1 < n ∧ 0 ≤ k.2) : keyed k n = true := by unfold keyed within; simp; omega
theorem dids_mem {l : HLine} {d : Did} (h : d ∈ l.dids) : d.1 = l.key ∧ ∃ a ∈ l.all, d.2.1 = a.1 := by
 unfold HLine.dids at h
 obtain ⟨⟨a, r⟩, hx, rfl⟩ := List.mem_map.1 h
 exact ⟨rfl, a, (List.of_mem_zip hx).1, rfl⟩
section
variable {y : Yard} {M : Nat}
theorem Live.right (H : Live y M) : y.right = true := by
 obtain ⟨⟨h, hI, rfl⟩, hnf, hhm⟩ := H
 have hchk := check_ok hI.chk
 have hn := hI.pos
 have hl : h.now.procs.length = h.procs.length := HYard.now_len h
 have hjb : h.now.jobs = h.jobs := rfl
 unfold Yard.right
 rw [hl, hjb, hI.chk]
 simp only [decide_true, Bool.true_and, List.all_eq_true, List.mem_range]
 intro i hi
 have ok := hI.ok i hi
 have hf := full_false hnf (i := i) (by omega)
 have hm := hhm i
 rw [HYard.now_pr] at hf hm ⊢
 have hline : ∀ l ∈ (h.pr i).hl, ∃ j, (h.pr i).hl[j]? = some l := fun l hl => by
  obtain ⟨j, hj, rfl⟩ := List.mem_iff_getElem.1 hl
  exact ⟨j, List.getElem?_eq_getElem hj⟩
 have hjl : ∀ j, h.now.jlen j = h.jlen j := fun _ => rfl
 have hj20 : ∀ j : Int, 0 ≤ j → j < h.jobs.length → h.jlen j ≤ 20 := fun j h0 h1 => by
  unfold HYard.jlen
  have h2 : j.toNat < h.jobs.length := by omega
  rw [List.getD_eq_getElem?_getD, List.getElem?_eq_getElem h2]
  exact hchk.2.2.2.2.1 _ (List.getElem_mem h2)
 have e1 : (h.pr i).now.job = (h.pr i).job := rfl
 have e2 : (h.pr i).now.pc = (h.pr i).pc := rfl
 have e3 : (h.pr i).now.holds = (h.pr i).holds := rfl
 have e4 : (h.pr i).now.waits = (h.pr i).waits := rfl
 have e5 : (h.pr i).now.made = (h.pr i).made := rfl
 rw [e2, e3] at hm
 rw [right_g]
 have g1 : (h.pr i).now.g1 h.now = false := by
  unfold Proc.g1 within
  rw [e1, e2, e3, hjb, hjl]
  by_cases hj : (h.pr i).job < 0
  ·obtain ⟨a1, a2, a3, _⟩ := ok.idle hj
   rw [a1, a2, a3]; simp; omega
  ·obtain ⟨b1, b2, b3, _⟩ := ok.busy (by omega)
   simp; omega
 have g2 : (h.pr i).now.g2 i h.now = false := by
  unfold Proc.g2 within
  rw [e1, e4, e5, hl]
  have hmade := ok.made
  rcases ok.waits with w | ⟨w1, w2, w3, w4⟩
  ·rw [w]; simp; omega
  ·simp; omega
 have g3 : (h.pr i).now.g3 = false := by
  unfold Proc.g3
  rw [e3]
  have h20 : (h.pr i).holds.length ≤ 20 := by
   by_cases hj : (h.pr i).job < 0
   ·rw [(ok.idle hj).2.2.1]; simp
   ·obtain ⟨b1, b2, b3, _⟩ := ok.busy (by omega)
    have := hj20 _ (by omega) b1
    have := hm.1
    omega
  simp; omega
 have g4 : (h.pr i).now.g4 h.now = false := by
  unfold Proc.g4
  rw [e3, hl, hjb]
  simp only [Bool.or_eq_false_iff, Bool.not_eq_false', List.all_eq_true]
  refine ⟨⟨⟨fun l hl2 => ?_, fun k hk => ?_⟩, fun x hx => ?_⟩, fun d hd => ?_⟩
  ·have hl3 : l ∈ ((h.pr i).hl.drop (h.pr i).gone).map HLine.now := hl2
   obtain ⟨hl4, hm4, rfl⟩ := List.mem_map.1 hl3
   obtain ⟨j, hj⟩ := hline hl4 (List.mem_of_mem_drop hm4)
   have okl := ok.line j hl4 hj
   have hasl := hf.2.2.2 _ hl2
   unfold lineOk
   have ea : hl4.now.asks = hl4.all.drop hl4.tk := rfl
   rw [show keyed hl4.now.key h.procs.length = true from keyed_of okl.key, ea]
   rw [ea] at hasl
   simp only [Bool.true_and, Bool.and_eq_true, decide_eq_true_eq, List.all_eq_true]
   refine ⟨by omega, fun a ha => ?_⟩
   have := okl.ask a (List.mem_of_mem_drop ha)
   unfold within; simp; omega
  ·have hk2 : k ∈ (h.pr i).hl.map HLine.key := hk
   obtain ⟨l, hl3, rfl⟩ := List.mem_map.1 hk2
   obtain ⟨j, hj⟩ := hline l hl3
   exact keyed_of (ok.line j l hj).key
  ·have := ok.hold x hx
   unfold holdOk
   rw [Bool.and_eq_true]
   refine ⟨by unfold within; simp; omega, ?_⟩
   by_cases hx2 : x.2.2 = true
   ·rw [if_pos hx2] at this
    rw [this.2.2]; exact keyed_of ⟨Int.le_refl _, by simp; omega, Int.le_refl _⟩
   ·rw [if_neg hx2] at this
    exact keyed_of ⟨by omega, by omega, by omega⟩
  ·have hd2 : d ∈ (h.pr i).hl.flatMap HLine.dids := hd
   obtain ⟨l, hl3, hd3⟩ := List.mem_flatMap.1 hd2
   obtain ⟨j, hj⟩ := hline l hl3
   have okl := ok.line j l hj
   obtain ⟨d1, a, ha, d2⟩ := dids_mem hd3
   unfold didOk
   rw [d1, d2, show keyed l.key h.procs.length = true from keyed_of okl.key]
   have := okl.ask a ha
   unfold within; simp; omega
 rw [g1, g2, g3, g4]; rfl
theorem right_bd (hr : y.right = true) {n B : Nat} (hn : y.procs.length = n) (hB : 400 ≤ B) (hm : ∀ i, i < n → (y.pr i).made ≤ B) : YBd n B y := ⟨hn, fun i hi => by
 have h := right_pr hr (i := i) (by omega)
 rw [← pr_get (by omega)] at h
 rw [right_g] at h
 simp only [Bool.and_eq_true, Bool.not_eq_true'] at h
 obtain ⟨⟨⟨_, h2⟩, h3⟩, h4⟩ := h
 have hmi := hm i hi
 unfold Proc.g3 at h3
 simp only [Bool.or_eq_false_iff, decide_eq_false_iff_not] at h3
 unfold Proc.g4 at h4
 simp only [Bool.or_eq_false_iff, Bool.not_eq_false', List.all_eq_true] at h4
 unfold Proc.g2 at h2
 simp only [Bool.or_eq_false_iff, decide_eq_false_iff_not] at h2
 refine ⟨by omega, by omega, by omega, by omega, fun l hl => ?_, ⟨by omega, by omega⟩, fun x hx => ?_, fun l hl => ?_⟩
 ·have := h4.1.1.1 l hl
  unfold lineOk at this
  simp only [Bool.and_eq_true, decide_eq_true_eq] at this
  omega
 ·have := h4.1.2 x hx
  unfold holdOk within at this
  simp only [Bool.and_eq_true, decide_eq_true_eq] at this
  omega
 ·have := h4.1.1.1 l hl
  unfold lineOk keyed within at this
  simp only [Bool.and_eq_true, decide_eq_true_eq] at this
  omega⟩
theorem right_check (hr : y.right = true) : check y.jobs y.procs.length = 0 := by
 unfold Yard.right at hr
 rw [Bool.and_eq_true] at hr
 simpa using hr.1
theorem right_job (hr : y.right = true) {n i : Nat} (hn : y.procs.length = n) (hi : i < n) (hj : 0 ≤ (y.pr i).job) : JobOk y n i := by
 have h := right_pr hr (i := i) (by omega)
 rw [← pr_get (by omega)] at h
 rw [right_g] at h
 simp only [Bool.and_eq_true, Bool.not_eq_true'] at h
 obtain ⟨⟨⟨h1, _⟩, _⟩, _⟩ := h
 have hc := check_ok (right_check hr)
 unfold Proc.g1 within at h1
 simp only [Bool.or_eq_false_iff, Bool.not_eq_false', Bool.and_eq_true, decide_eq_true_eq, Bool.and_eq_false_iff, decide_eq_false_iff_not] at h1
 obtain ⟨⟨h2, _⟩, h4⟩ := h1
 have h5 : 0 ≤ (y.pr i).pc ∧ (y.pr i).pc ≤ y.jlen (y.pr i).job := by
  rcases h4 with h4 | h4
  ·exact absurd hj h4
  ·simpa using h4
 refine ⟨⟨hj, by omega⟩, h5, fun m hm => ?_⟩
 have hjl : (y.pr i).job.toNat < y.jobs.length := by omega
 rw [List.getD_eq_getElem?_getD, List.getElem?_eq_getElem hjl] at hm
 rw [← hn]
 exact hc.2.2.2.2.2.1 _ (List.getElem_mem hjl) m hm
theorem goes_lines {p : Proc} (h : p.goes = true) (hj : p.job < 0) : p.lines ≠ [] := by
 unfold Proc.goes Proc.state at h
 rw [if_neg (by omega), if_neg (by omega)] at h
 intro hl
 rw [hl] at h
 simp at h
theorem Live.len_pos (H : Live y M) : 0 < y.procs.length ∧ y.procs.length ≤ 12 := by
 have := check_ok (right_check H.right)
 omega
theorem Live.bd (H : Live y M) {B : Nat} (hM : M ≤ B) (hB : 400 ≤ B) : YBd y.procs.length B y := right_bd H.right rfl hB fun i _ => by have := (H.hm i).2; omega
theorem Live.fit (H : Live y M) (hM : M ≤ 1000000) : Fit y := by
 have hc := check_ok (right_check H.right)
 exact fit_of (H.bd (B := 1000000) hM (by omega)) (Nat.le_refl _) (by omega) ⟨by omega, fun l hl => by have := hc.2.2.2.2.1 l hl; omega⟩
theorem Live.step (H : Live y M) {i : Nat} (hi : i < y.procs.length) (hg : (y.pr i).goes = true) (hf : (y.step i).full = false) : Live (y.step i) (M + 1) := by
 obtain ⟨⟨h, hI, rfl⟩, hnf, hhm⟩ := H
 have hl : h.now.procs.length = h.procs.length := HYard.now_len h
 rw [HYard.now_pr] at hg
 have hi2 : i < h.procs.length := by omega
 have hg2 : (h.pr i).goes = true := hg
 refine ⟨⟨h.step i, hI.step hi2 hg2, hI.now_step hi2 hg2⟩, hf, hhm.step hi fun hj => ?_⟩
 rw [HYard.now_pr] at hj ⊢
 exact ((hI.ok i hi2).idle hj).2.2.1
theorem new_now {jobs : List (List Move)} {n : Nat} : (HYard.new jobs n).now = Yard.new jobs n := by
 unfold HYard.new HYard.now Yard.new
 congr 1
 rw [List.map_set, List.map_replicate]
 rfl
theorem Live.new {jobs : List (List Move)} {n : Nat} (h : check jobs n = 0) : Live (Yard.new jobs n) 1 := by
 have hc := check_ok h
 have hnl : (Yard.new jobs n).procs.length = n := by simp [Yard.new]
 have hpr : ∀ k, (Yard.new jobs n).pr k = newP ∨ (Yard.new jobs n).pr k = Proc.empty := fun k => by
  rcases Nat.lt_or_ge k n with hk | hk
  ·obtain ⟨m, rfl⟩ : ∃ m, n = m + 1 := ⟨n - 1, by omega⟩
   rw [new_pr jobs m k hk]
   unfold Go.Ck.upd
   split
   ·exact .inl rfl
   ·exact .inr rfl
  ·right
   unfold Yard.pr
   rw [List.getD_eq_getElem?_getD, List.getElem?_eq_none (by omega)]; rfl
 refine ⟨⟨_, HInv.new h, new_now⟩, ?_, ⟨fun k => ?_⟩⟩
 ·unfold Yard.full
  simp only [Bool.not_eq_false', List.all_eq_true]
  intro p hp
  obtain ⟨k, hk, rfl⟩ := List.mem_iff_getElem.1 hp
  rw [← pr_get hk]
  rcases hpr k with e | e <;> rw [e] <;> decide
 ·rcases hpr k with e | e <;> rw [e] <;> decide
end
end Go.Wt
namespace Go.Wt
open Go Go.Ck Go.Proofs Go.Proofs.YtboepbencndobaaGreat Fx
attribute [local irreducible] St Cd Xt Nx DrL LsW
def yStepE (y : Yard) (spot : Int) : YE := if openedE y [spot] = 0 then (if (y.pr spot.toNat).goes = true then y.stepE spot.toNat else (Yard.nil, 12)) else (Yard.nil, openedE y [spot])
section
variable {S : Res}
set_option maxRecDepth 100000 in
theorem Step_ct {ys : List Value} {y : Yard} (hy : yardR S ys y) (hf : Fit y) (hm : ∀ i, (y.pr i).made ≤ 900000) (spot : Int) : CtN Tryz.prog 34 #[.agg ys.toArray, .int .i64 spot] [S] fun u T => ∃ ys', u = .tuple #[.agg ys'.toArray, .int .i64 (yStepE y spot).2] ∧ yardR T ys' (yStepE y spot).1 := by
 obtain ⟨jv, pv, rfl, hj, hp⟩ := id hy
 unfold yStepE
 refine ct_of (n := 31) Tryz.func34 rfl rfl (len rfl) fun hr w0 => ?_
 refine cS (cR (st_bx rfl rfl fun b2 => ?_))
 refine st_alc al27 fun b4 => ?_
 refine sV (vA rfl) (sN (nK [1, 2, 4, 5] rfl (nT (cS (cS (cR (sV (v_ldn rfl ld27 rfl rds_pt) ?_)))))))
 refine sV (vM rfl) (st_buildSlice (cells := [.int .i64 spot]) rfl Tryz.underlying43 inf3 rfl rfl (by kernel_rfl) (ltn rfl) fun b10 => ?_)
 refine st_clr rfl rfl en67 rfl (reads_star (opened_ct (S := Res.star [pt b10 (cl [.int .i64 spot] 3), S]) (l := [spot]) (hy.mono (rd_in (.there .here))) hf ((row_pt (C := iC) (sz := 1) (l := [spot]) (n := 1) rfl (by simp [iC]) rfl (by decide)).mono (rd_in .here) fun _ _ _ h => h) (by simp))) ?_
 refine sV (vA rfl) (sN (nK [1, 2, 4, 5, 6] rfl (nT (cS (cR (sV (vM rfl) (sV (v_neq rfl rfl) (sN (nK [1, 2, 4, 5, 6, 13] rfl (nT (cC rfl (fun h1 => ?_) (fun h1 => ?_))))))))))))
 ·skip
  refine cS (cR ?_)
  rw [if_neg (by simpa using h1)]
  refine sV (v_build (cells := [.slice none 0 0, .slice none 0 0]) rfl (fun _ => by kernel_rfl)) ?_
  refine sV (vM rfl) (st_stoW rfl rfl sz27 rfl rfl ?_)
  refine sV (vA rfl) (sN (nK [1, 2, 4, 5] rfl (nT (cT (xR (xt_vw (vw_pure (φ := True) trivial) ?_))))))
  exact xt_retV (.cellN rfl ld27 rfl slq (.tmp rfl .nil)) ⟨pureR True, rfl, _, rfl, nil_yard _⟩ sbr
 ·skip
  have h1' : openedE y [spot] = 0 := by simpa using h1
  rw [if_pos h1']
  obtain ⟨hyr, hsp⟩ := openedE_zero h1'
  obtain ⟨hs0, hs1⟩ := hsp spot (by simp)
  obtain ⟨i, rfl⟩ := Int.eq_ofNat_of_zero_le hs0
  rw [Int.toNat_natCast] at hs1 ⊢
  have hg : (y.pr i).goes = ((y.pr i).state == 1 || (y.pr i).state == 2) := rfl
  have hst := state_ct (jv := jv) hp hs1
  rw [← pr_get hs1] at hst
  refine cK (xT (cS (cS (cR (sV (v_ldn rfl ld27 rfl rds_pt) ?_)))))
  refine sV (vM rfl) (st_clr rfl rfl en68 rfl (hst) ?_)
  refine sV (vA rfl) (sN (nK [1, 2, 4, 5, 7] rfl (nT (cS (cR (sV (vM rfl) (sV (v_neq rfl rfl) (sV (vM rfl) (st_cut (k := 6) (d := 24) (v := .bool ((y.pr i).state != 1 && (y.pr i).state != 2)) (fun hcut => bool_want (b := ((y.pr i).state != 1)) true (fun hg => ?_) (fun hg => ?_)) ?_)))))))))
  ·refine st_sk rfl rfl hg ?_
   refine st_sk rfl rfl hg ?_
   refine sV (vP (bE rfl hg) rfl) ?_
   exact hcut _ (uH (by first | rfl | (rw [hg]; rfl) | simp_all) (uS rfl (uS rfl (uR))))
  ·skip
   refine sG rfl (bG rfl hg) (vM rfl) (sG rfl (bG rfl hg) (v_neq rfl rfl) (sV (vQ (bE rfl hg) rfl) ?_))
   exact hcut _ (uH (by first | rfl | (rw [hg]; rfl) | simp_all) (uS rfl (uS rfl (uR))))
  refine sN (nK [1, 2, 4, 5, 24] rfl (nT ?_))
  have hg2 : ((y.pr i).state != 1 && (y.pr i).state != 2) = !(y.pr i).goes := by rw [hg, Bool.not_or]; rfl
  refine cC rfl (fun hgo => ?_) (fun hgo => ?_)
  ·skip
   rw [hg2] at hgo
   rw [if_neg (by simpa using hgo)]
   refine cS (cR (sV (v_build (cells := [.slice none 0 0, .slice none 0 0]) rfl (fun _ => by kernel_rfl)) ?_))
   refine st_stoW rfl rfl sz27 rfl rfl ?_
   refine sV (vA rfl) (sN (nK [1, 2, 4, 5] rfl (nT (cT (xR (xt_vw (vw_pure (φ := True) trivial) ?_))))))
   exact xt_retV (.cellN rfl ld27 rfl slq (.tmp rfl .nil)) ⟨pureR True, rfl, _, rfl, nil_yard _⟩ sbr
  ·skip
   rw [hg2] at hgo
   have hgo2 : (y.pr i).goes = true := by simpa using hgo
   rw [if_pos hgo2]
   have hbd := right_bd hyr (n := y.procs.length) (B := 900000) rfl (by omega) fun i _ => hm i
   have hck := check_ok (right_check hyr)
   refine cK (xT (cS (cR (sV (v_ldn rfl ld27 rfl rds_pt) ?_))))
   refine sV (vM rfl) (st_cl rfl rfl en76 rfl (step_ct hy hf hbd (by omega) hs1 (fun h => right_job hyr rfl hs1 h) (goes_lines hgo2)) ?_)
   rintro u h' ⟨T, rfl, ys', rfl, hy'⟩
   refine sV (v_extract rfl rfl) (sV (v_extract rfl rfl) ?_)
   obtain ⟨jv', pv', rfl, hj', hp'⟩ := id hy'
   refine st_stoW rfl rfl sz27 rfl (by simp [hj'.one, hp'.one]) ?_
   refine sV (vA rfl) (sN (nK [4, 5] rfl (nT (cT ?_))))
   exact xt_retV (.cellN rfl ld27 rfl slq (.tmp rfl .nil)) ⟨T, rfl, _, rfl, hy'⟩ sbr
end
end Go.Wt
namespace Go.Wt
open Go Go.Ck Go.Proofs Go.Proofs.YtboepbencndobaaGreat Fx
attribute [local irreducible] St Cd Xt Nx DrL LsW
theorem v_negi {P : Program} {e : Env} {h : SH} {ty : TypeId} {t : TypeId} {x : Operand} {a : Int} (hx : e.ev? x = some (.int .i64 a)) (hr : I64 (-a)) : Vop P e h (.unOp .neg t x) ty (.int .i64 (-a)) :=
 ⟨by simp, by simp, fun ρ w d pos after g hρ _ => by simp [execOp, hρ x _ hx, Op.unary, Op.intArith, I64.wrap hr]⟩
theorem copied_rd {S : Res} {ys : List Value} {y : Yard} (hy : yardR S ys y) (hf : Fit y) : Ct Tryz.prog 75 #[.agg ys.toArray] [S] fun u h' => ∃ jv pv T, u = .agg #[jv, pv] ∧ h' = [T, S] ∧ yardR T [jv, pv] y := fun hr w hh =>
 (copied_ct hy hf hr w hh).mono fun e w' ⟨v, h', he, ⟨jv, pv, H, hs, hv, hh'⟩, hH, hS⟩ => by
  subst hh' he
  have h1 : Holds w' (Res.star (JO jv hs y.jobs ++ YO pv y.procs.length H y.pr) :: ([S] ++ hr)) := holds_star1.2 (by simpa using hH)
  have h2 := own_yard (jv := jv) (pv := pv) (L := JO jv hs y.jobs ++ YO pv y.procs.length H y.pr) ⟨_, h1.1⟩ (fun r h => h) (fun g hg => (HoldsF.append.1 hg).1) (fun g hg => (HoldsF.append.1 hg).2.1)
  rw [own_range rfl] at h2
  exact ⟨v, [_, S], rfl, ⟨jv, pv, _, hv, rfl, h2⟩, h1, hS⟩
theorem yardR_cells {S : Res} {ys : List Value} {y : Yard} (hy : yardR S ys y) : ∃ jv pv, ys = [jv, pv] ∧ jv.oneCell' = true ∧ pv.oneCell' = true := by
 obtain ⟨jv, pv, rfl, hj, hp⟩ := hy
 exact ⟨jv, pv, rfl, hj.one, hp.one⟩
theorem rdy_get {y : Yard} {k : Nat} (h : k < (rdy y.procs y.procs.length).length) : ∃ i : Nat, (rdy y.procs y.procs.length)[k]? = some (i : Int) ∧ y.ready.getD k 0 = i ∧ i < y.procs.length ∧ (y.pr i).goes = true := by
 rw [← ready_rdy] at h ⊢
 have hk : k < y.ready.length := by simpa using h
 refine ⟨y.ready[k], by simp [List.getElem?_map, List.getElem?_eq_getElem hk], by rw [List.getD_eq_getElem?_getD, List.getElem?_eq_getElem hk]; rfl, ?_⟩
 have h2 : y.ready[k] ∈ (List.range y.procs.length).filter fun i => (y.pr i).goes := List.getElem_mem hk
 rw [List.mem_filter] at h2
 exact ⟨List.mem_range.1 h2.1, h2.2⟩
theorem pick_nn (n : Int) : 0 ≤ pick n := by unfold pick; split <;> omega
theorem Live.stepE {y : Yard} {M : Nat} (H : Live y M) {i : Nat} (hi : i < y.procs.length) (hg : (y.pr i).goes = true) (h0 : (y.stepE i).2 = 0) : Live (y.stepE i).1 (M + 1) := by
 have he : y.stepE i = if (y.step i).full = true then (Yard.nil, 3) else (y.step i, 0) := rfl
 cases hf : (y.step i).full with
 | true => rw [he, if_pos hf] at h0; cases h0
 | false =>
  rw [he, if_neg (by simp [hf])]
  exact H.step hi hg hf
set_option maxRecDepth 100000 in
theorem stepL_ct {S : Res} {ys : List Value} {y : Yard} {M i : Nat} (hy : yardR S ys y) (H : Live y M) (hM : M ≤ 900000) (hi : i < y.procs.length) (hg : (y.pr i).goes = true) :
  CtN Tryz.prog 76 #[.agg ys.toArray, .int .i64 i] [S] fun u T => ∃ ys', u = .tuple #[.agg ys'.toArray, .int .i64 (y.stepE i).2] ∧ yardR T ys' (y.stepE i).1 := by
 have := H.len_pos
 exact step_ct hy (H.fit (by omega)) (H.bd (B := 900000) hM (by omega)) (by omega) hi (fun h => right_job H.right rfl hi h) (goes_lines hg)
def yRunE (y : Yard) (picks : List Int) : YE := if y.right = true then y.run picks else (Yard.nil, 2)
theorem run_cons (y : Yard) (n : Int) (t : List Int) : y.run (n :: t) = if y.ready = [] then (y, 0) else if (y.stepE (y.ready.getD (pick n % y.ready.length).toNat 0)).2 = 0 then (y.stepE (y.ready.getD (pick n % y.ready.length).toNat 0)).1.run t else y.stepE (y.ready.getD (pick n % y.ready.length).toNat 0) := rfl
theorem stepE_err {y : Yard} {i : Nat} (h : (y.stepE i).2 ≠ 0) : (y.stepE i).1 = Yard.nil := by
 unfold Yard.stepE at h ⊢
 split
 ·rfl
 ·rename_i hf; rw [if_neg hf] at h; exact absurd rfl h
section
variable {S : Res}
set_option maxHeartbeats 1000000 in
set_option maxRecDepth 100000 in
theorem Run_ct {ys : List Value} {y : Yard} {M : Nat} {pv0 : Value} {picks : List Int} (hy : yardR S ys y) (hf : Fit y) (hL : y.right = true → Live y M) (hM : M + picks.length ≤ 900000) (hpk : Row S 1 (eqC iC) pv0 picks) (hi64 : ∀ n ∈ picks, I64 n) :
  CtN Tryz.prog 31 #[.agg ys.toArray, pv0] [S] fun u T => ∃ ys', u = .tuple #[.agg ys'.toArray, .int .i64 (yRunE y picks).2] ∧ yardR T ys' (yRunE y picks).1 := by
 obtain ⟨jv, pv, rfl, hj, hp⟩ := id hy
 obtain ⟨ak, ck, rfl, _⟩ := id hpk
 unfold yRunE
 refine ct_of (n := 54) Tryz.func31 rfl rfl (len rfl) fun hr w0 => ?_
 refine cS (cR (st_bx rfl rfl fun b2 => ?_))
 refine st_alc al27 fun b4 => ?_
 refine sV (vA rfl) (sN (nK [1, 2, 4, 5] rfl (nT (cS (cS (cR (sV (v_ldn rfl ld27 rfl rds_pt) ?_)))))))
 refine st_clr rfl rfl en67 rfl (opened_ct (l := []) hy hf Row.nil (by simp)) ?_
 refine sV (vA rfl) (sN (nK [1, 2, 4, 5, 6] rfl (nT (cS (cR (sV (vM rfl) (sV (v_neq rfl rfl) (sN (nK [1, 2, 4, 5, 6, 14] rfl (nT ?_))))))))))
 rw [openedE_nil]
 refine cC rfl (fun h1 => ?_) (fun h1 => ?_)
 ·skip
  have h2 : ¬ y.right = true := fun h => by rw [if_pos h] at h1; cases h1
  refine cS (cR ?_)
  rw [if_neg h2, if_neg h2]
  refine sV (v_build (cells := [.slice none 0 0, .slice none 0 0]) rfl (fun _ => by kernel_rfl)) ?_
  refine sV (vM rfl) (st_stoW rfl rfl sz27 rfl rfl ?_)
  refine sV (vA rfl) (sN (nK [1, 2, 4, 5] rfl (nT (cT (xR (xt_vw (vw_pure (φ := True) trivial) ?_))))))
  exact xt_retV (.cellN rfl ld27 rfl slq (.tmp rfl .nil)) ⟨pureR True, rfl, _, rfl, nil_yard _⟩ sbr
 ·skip
  have h2 : y.right = true := by
   cases hr : y.right with
   | true => rfl
   | false => rw [hr] at h1; cases h1
  rw [if_pos h2]
  have hLy := hL h2
  refine cK (xT (cS (cR (sV (v_ldn rfl ld27 rfl rds_pt) ?_))))
  refine st_cl rfl rfl en75 rfl (copied_rd hy hf) ?_
  rintro u h' ⟨jv', pv', T0, rfl, rfl, hy0⟩
  obtain ⟨_, _, he0, hc1, hc2⟩ := yardR_cells hy0
  simp only [List.cons.injEq, and_true] at he0
  obtain ⟨rfl, rfl⟩ := he0
  refine st_stoW rfl rfl sz27 rfl (by simp [hc1, hc2]) ?_
  refine sN (nK [1, 2, 4, 5] rfl (nT (cS (cS (cR (sV (vM rfl) (sV (v_len rfl Tryz.underlying43) (sV (vM rfl) (sN (nK [2, 4, 5, 19, 20, 21] rfl (nT (cB (cd_lp (σ := Nat × Value × Value × Yard × Res) (fun q => [(2, .pointer (some ⟨b2, 0, none⟩)), (4, .pointer (some ⟨b4, 0, none⟩)), (19, .slice ak picks.length ck), (20, .int .i64 picks.length), (21, .int .i64 (q.1 : Nat))]) (fun q => pt b2 (cl [q.2.1, q.2.2.1] 27) :: q.2.2.2.2 :: pt b4 (cl [.slice none 0 0, .slice none 0 0] 27) :: S :: hr) (fun q => q.1 ≤ picks.length ∧ yardR q.2.2.2.2 [q.2.1, q.2.2.1] q.2.2.2.1 ∧ Live q.2.2.2.1 (M + q.1) ∧ q.2.2.2.1.run (picks.drop q.1) = y.run picks) (fun q => picks.length - q.1) (0, jv', pv', y, T0) ⟨Nat.zero_le _, hy0, hLy, rfl⟩ ?_)))))))))))))
  rintro ⟨k, jv, pv, z, T⟩ ⟨hk, hz, hzL, hzr⟩
  simp only at hk hz hzL hzr
  dsimp only
  refine cS (cR (sV (v_lss rfl rfl) (sN (nT (cS (cC rfl (fun hd => ?_) (fun hd => ?_)))))))
  ·skip
   have hlt : k < picks.length := by simpa using hd
   obtain ⟨b, o, cp2, u0, hv2, hrd, hX⟩ := hpk.at1 (List.getElem?_eq_getElem hlt)
   cases hX
   have hni := hi64 _ (List.getElem_mem hlt)
   rw [List.drop_eq_getElem_cons hlt, run_cons] at hzr
   generalize hne : picks[k] = n at *
   have hzf := hzL.fit (by omega)
   obtain ⟨_, _, he0, hc1, hc2⟩ := yardR_cells hz
   simp only [List.cons.injEq, and_true] at he0
   obtain ⟨rfl, rfl⟩ := he0
   obtain ⟨_, _, he0, hzj, hzp⟩ := id hz
   simp only [List.cons.injEq, and_true] at he0
   obtain ⟨rfl, rfl⟩ := he0
   refine cK (xT (cS (cB (cS (cR (sV (vI (k := k) (congrArg some hv2) rfl sl43 rfl hlt rfl) (sV (vY rfl ld3) ?_)))))))
   refine sV (vA rfl) (sN (nK [2, 4, 8, 19, 20, 21] rfl (nT (cS (cR (sV (v_ldn rfl ld27 rfl rds_pt) ?_))))))
   refine st_cl rfl rfl en72 rfl (going_ct (jv := jv) (pv := pv)) ?_
   rintro u h' ⟨c1, rfl, rfl⟩
   refine st_cl rfl rfl en71 rfl (collect_ct (jv := jv) hzp hzf.2.1) ?_
   rintro u h' ⟨h3, rfl⟩
   refine sV (vA rfl) (sN (nK [2, 4, 8, 9, 19, 20, 21] rfl (nT (cS (cS ?_)))))
   have hrl := rdy_len z.procs z.procs.length
   have hzn := hzf.2.1
   have hrr : z.ready.length = (rdy z.procs z.procs.length).length := by rw [← ready_rdy, List.length_map]
   have hpn := pick_nn n
   refine cd_rowf slq fun ra rc hre hrc _ => ?_
   rw [List.length_map] at hre
   subst hre
   refine cR (sV (vM rfl) (sV (v_len rfl Tryz.underlying43) (sV (v_eql rfl rfl) (sN (nK [2, 4, 8, 9, 19, 20, 21, 30] rfl (nT (cC rfl (fun h0 => ?_) (fun h0 => ?_))))))))
   ·skip
    have hr0 : z.ready = [] := List.eq_nil_of_length_eq_zero (by have := eq_of_beq h0; omega)
    rw [if_pos hr0] at hzr
    rw [← hzr]
    refine cd_exit (xE (xt_exit_block_ne (by decide) ?_))
    refine xE (xE (xY (xT (cS (cR (sV (v_ldn rfl ld27 rfl rds_pt) ?_))))))
    refine st_stoW rfl rfl sz27 rfl (by simp [hc1, hc2]) ?_
    refine sV (vA rfl) (sN (nK [4, 5] rfl (nT (cT ?_))))
    exact xt_retV (.cellN rfl ld27 rfl slq (.tmp rfl .nil)) ⟨T, rfl, _, rfl, hz⟩ sbr
   ·skip
    have hr0 : z.ready ≠ [] := fun h => by rw [h] at hrr; rw [← hrr] at h0; exact absurd h0 (by simp)
    have hrp : 0 < (rdy z.procs z.procs.length).length := by rw [← hrr]; exact List.length_pos_iff.2 hr0
    rw [if_neg hr0, hrr] at hzr
    have hkl := Int.emod_lt_of_pos (pick n) (show (0 : Int) < ((rdy z.procs z.procs.length).length : Int) by omega)
    have hk0 := Int.emod_nonneg (pick n) (show ((rdy z.procs z.procs.length).length : Int) ≠ 0 by omega)
    obtain ⟨q, hq1, hq2, hq3, hq4⟩ := rdy_get (y := z) (k := (pick n % ((rdy z.procs z.procs.length).length : Int)).toNat) (by omega)
    rw [hq2] at hzr
    refine cd_row (v := .slice ra (rdy z.procs z.procs.length).length rc) slq (fun _ h00 => by rw [List.map_eq_nil_iff] at h00; rw [h00] at hrp; simp at hrp) fun rb ro rc2 hve _ _ => ?_
    rw [List.length_map] at hve
    simp only [Value.slice.injEq] at hve
    obtain ⟨rfl, _, rfl⟩ := hve
    have hrdq := rd_vrk (E := 3) (b := rb) (o := ro) (n := (rdy z.procs z.procs.length).length) (cp := rc) (sz := 1) (k := 0) (rows := (rdy z.procs z.procs.length).map iC) (m := (pick n % ((rdy z.procs z.procs.length).length : Int)).toNat) (r := iC q) (by rw [List.getElem?_map, hq1]; rfl) rfl
    refine cK (xT (cS (cS (cR (sV (vM rfl) (sV (v_lss rfl rfl) (sN (nK [2, 4, 8, 9, 19, 20, 21, 32] rfl (nT (cC rfl (fun hn0 => ?_) (fun hn0 => ?_)))))))))))
    ·skip
     have hpe : pick n = -(n + 1) := by unfold pick; rw [if_pos (by simpa using hn0)]
     rw [hpe] at hkl hk0 hq1 hrdq hpn
     refine cR (sV (vM rfl) (sV (v_add rfl rfl (by unfold I64 at *; omega)) (sV (v_negi rfl (by unfold I64 at *; omega)) (sV (vA rfl) (sN (nK [2, 4, 8, 9, 19, 20, 21] rfl (nT (cS (cR (sV (vA rfl) (sN (nT (cS (cd_drawh (ork [(0, 1), (1, 2), (2, 2), (3, 2), (4, 2), (5, 2), (6, 2), (7, 1), (8, 0), (9, 2), (10, 2), (11, 2), (12, 0), (13, 2)] .nil) (fun i => !(Nat.beq i 8 || Nat.beq i 12)) mixed (by kernel_rfl) ?_))))))))))))))
     refine dr_v rfl (v_ldn rfl ld27 rfl rds_pt) ?_
     refine dV rfl (vM rfl) (dV rfl (vM rfl) (dV rfl (vM rfl) (dV rfl (v_len rfl Tryz.underlying43) (dV rfl (v_remp rfl rfl (by omega) (by omega) (by unfold I64; omega)) ?_))))
     refine dV rfl (vI (k := (-(n + 1) % ((rdy z.procs z.procs.length).length : Int)).toNat) rfl rfl sl43 (by omega) (by omega) rfl) (dr_v rfl (vY rfl ld3) ?_)
     refine dr_eff rfl (st_cl rfl rfl en76 rfl (stepL_ct hz hzL (by omega) hq3 hq4) ?_)
     rintro u h' ⟨T2, rfl, ys2, rfl, hz2⟩
     refine dr_nx ?_
     refine dV rfl (vM rfl) (dV rfl (v_extract rfl rfl) (dV rfl (v_extract rfl rfl) ?_))
     obtain ⟨jv2, pv2, rfl, hd1, hd2⟩ := yardR_cells hz2
     refine dr_eff rfl (st_stoW rfl rfl sz27 rfl (by simp [hd1, hd2]) (dr_nx ?_))
     refine dV rfl (vA rfl) (dr_nil (nK [2, 4, 10, 19, 20, 21] rfl (nT (cS (cR (sV (vM rfl) (sV (v_neq rfl rfl) (sN (nK [2, 4, 10, 19, 20, 21, 49] rfl (nT (cC rfl (fun he => ?_) (fun he => ?_))))))))))))
     ·skip
      have hne2 : (z.stepE q).2 ≠ 0 := by simpa using he
      rw [if_neg hne2] at hzr
      have hnil := stepE_err hne2
      refine cS (cR (sV (v_build (cells := [.slice none 0 0, .slice none 0 0]) rfl (fun _ => by kernel_rfl)) ?_))
      refine sV (vM rfl) (st_stoW rfl rfl sz27 rfl rfl ?_)
      refine sV (vA rfl) (sN (nK [2, 4, 5, 19, 20, 21] rfl (nT (cT (xW (xR (xR (xW (xR (xt_vw (vw_pure (φ := True) trivial) ?_))))))))))
      exact xt_retV (.cellN rfl ld27 rfl slq (.tmp rfl .nil)) ⟨pureR True, rfl, [.slice none 0 0, .slice none 0 0], by rw [← hzr]; rfl, by rw [← hzr, hnil]; exact nil_yard _⟩ sbr
     ·skip
      have he2 : (z.stepE q).2 = 0 := by simpa using he
      rw [if_pos he2] at hzr
      refine cK (xB (xT (cR (sV (v_add rfl rfl (by unfold I64 at *; omega)) (sV (vM rfl) (sN (nK [2, 4, 19, 20, 21] rfl (nx_xt ?_))))))))
      refine xt_ag (k + 1, jv2, pv2, (z.stepE q).1, T2) ⟨hlt, hz2, hzL.stepE hq3 hq4 he2, hzr⟩ (by show _ - _ < _ - _; omega)
    ·skip
     have hpe : pick n = n := by unfold pick; rw [if_neg (by simpa using hn0)]
     rw [hpe] at hkl hk0 hq1 hrdq hpn
     refine cK (xT (cS (cR (sV (vA rfl) (sN (nK [2, 4, 8, 9, 10, 19, 20, 21] rfl (nT (cS (cd_drawh (ork [(0, 1), (1, 2), (2, 2), (3, 2), (4, 2), (5, 2), (6, 2), (7, 1), (8, 0), (9, 2), (10, 2), (11, 2), (12, 0), (13, 2)] .nil) (fun i => !(Nat.beq i 8 || Nat.beq i 12)) mixed (by kernel_rfl) ?_)))))))))
     refine dr_v rfl (v_ldn rfl ld27 rfl rds_pt) ?_
     refine dV rfl (vM rfl) (dV rfl (vM rfl) (dV rfl (vM rfl) (dV rfl (v_len rfl Tryz.underlying43) (dV rfl (v_remp rfl rfl (by omega) (by omega) (by unfold I64; omega)) ?_))))
     refine dV rfl (vI (k := (n % ((rdy z.procs z.procs.length).length : Int)).toNat) rfl rfl sl43 (by omega) (by omega) rfl) (dr_v rfl (vY rfl ld3) ?_)
     refine dr_eff rfl (st_cl rfl rfl en76 rfl (stepL_ct hz hzL (by omega) hq3 hq4) ?_)
     rintro u h' ⟨T2, rfl, ys2, rfl, hz2⟩
     refine dr_nx ?_
     refine dV rfl (vM rfl) (dV rfl (v_extract rfl rfl) (dV rfl (v_extract rfl rfl) ?_))
     obtain ⟨jv2, pv2, rfl, hd1, hd2⟩ := yardR_cells hz2
     refine dr_eff rfl (st_stoW rfl rfl sz27 rfl (by simp [hd1, hd2]) (dr_nx ?_))
     refine dV rfl (vA rfl) (dr_nil (nK [2, 4, 10, 19, 20, 21] rfl (nT (cS (cR (sV (vM rfl) (sV (v_neq rfl rfl) (sN (nK [2, 4, 10, 19, 20, 21, 49] rfl (nT (cC rfl (fun he => ?_) (fun he => ?_))))))))))))
     ·skip
      have hne2 : (z.stepE q).2 ≠ 0 := by simpa using he
      rw [if_neg hne2] at hzr
      have hnil := stepE_err hne2
      refine cS (cR (sV (v_build (cells := [.slice none 0 0, .slice none 0 0]) rfl (fun _ => by kernel_rfl)) ?_))
      refine sV (vM rfl) (st_stoW rfl rfl sz27 rfl rfl ?_)
      refine sV (vA rfl) (sN (nK [2, 4, 5, 19, 20, 21] rfl (nT (cT (xW (xR (xR (xW (xR (xt_vw (vw_pure (φ := True) trivial) ?_))))))))))
      exact xt_retV (.cellN rfl ld27 rfl slq (.tmp rfl .nil)) ⟨pureR True, rfl, [.slice none 0 0, .slice none 0 0], by rw [← hzr]; rfl, by rw [← hzr, hnil]; exact nil_yard _⟩ sbr
     ·skip
      have he2 : (z.stepE q).2 = 0 := by simpa using he
      rw [if_pos he2] at hzr
      refine cK (xB (xT (cR (sV (v_add rfl rfl (by unfold I64 at *; omega)) (sV (vM rfl) (sN (nK [2, 4, 19, 20, 21] rfl (nx_xt ?_))))))))
      refine xt_ag (k + 1, jv2, pv2, (z.stepE q).1, T2) ⟨hlt, hz2, hzL.stepE hq3 hq4 he2, hzr⟩ (by show _ - _ < _ - _; omega)
  ·skip
   refine cd_exit (xE (xE (xY (xT (cS (cR ?_))))))
   have hkj : k = picks.length := by
    have : ¬ k < picks.length := by simpa using hd
    omega
   subst hkj
   rw [List.drop_length] at hzr
   have hzr2 : (z, (0 : Int)) = y.run picks := hzr
   rw [← hzr2]
   obtain ⟨_, _, he0, hc1, hc2⟩ := yardR_cells hz
   simp only [List.cons.injEq, and_true] at he0
   obtain ⟨rfl, rfl⟩ := he0
   refine sV (v_ldn rfl ld27 rfl rds_pt) ?_
   refine st_stoW rfl rfl sz27 rfl (by simp [hc1, hc2]) ?_
   refine sV (vA rfl) (sN (nK [4, 5] rfl (nT (cT ?_))))
   exact xt_retV (.cellN rfl ld27 rfl slq (.tmp rfl .nil)) ⟨T, rfl, _, rfl, hz⟩ sbr
end
end Go.Wt
