/-
  WaitSwaps: for every input the law answers true. Conditions: what is read, that numbers are those of the machine.
  WaitSwaps: for every input the law answers true, and the input reads as it did. No condition.
-/
import Derived.Test.YtboepbencndobaaGreatM13
import Derived.Test.YtboepbencndobaaGreatM2
import Derived.Test.YtboepbencndobaaGreatRows
import Derived.Test.YtboepbencndobaaGreatM12
set_option linter.unusedVariables false
set_option linter.unusedSimpArgs false
namespace Go.Wt
open Go Go.Ck Go.Proofs Go.Proofs.YtboepbencndobaaGreat Fx
attribute [local irreducible] Go.Ck.Sub St Cd Xt Nx DrL LsW
theorem stepE_ok {y : Yard} {i : Nat} : (y.stepE i).2 = 0 ∨ (y.stepE i).2 = 3 := by
  unfold Yard.stepE
  split
  · exact .inr rfl
  · exact .inl rfl
theorem swap_fact {y : Yard} {p q : Nat} (hR : Reach Any y) (hp : p ∈ y.ready) (hq : q ∈ y.ready) (hne : p ≠ q) (ha : (y.stepE p).2 = 0) (hb : (y.stepE q).2 = 0) :
    ((y.stepE p).1.pr q).goes = true ∧ ((y.stepE q).1.pr p).goes = true ∧
    ((∀ t, t < y.procs.length → ¬ ((y.pr t).puts.length < ((y.stepE p).1.pr t).puts.length ∧ (y.pr t).puts.length < ((y.stepE q).1.pr t).puts.length)) → (y.stepE p).1.stepE q = (y.stepE q).1.stepE p) := by
  obtain ⟨h, H, _, rfl, _⟩ := hR
  obtain ⟨p1, p2⟩ := mem_ready.1 hp
  obtain ⟨q1, q2⟩ := mem_ready.1 hq
  rw [stepE_now H p1 p2] at ha ⊢
  rw [stepE_now H q1 q2] at hb ⊢
  have fa : (h.step p).now.full = false := by
    cases hf : (h.step p).now.full with
    | false => rfl
    | true => rw [if_pos hf] at ha; cases ha
  have fb : (h.step q).now.full = false := by
    cases hf : (h.step q).now.full with
    | false => rfl
    | true => rw [if_pos hf] at hb; cases hb
  rw [if_neg (by rw [fa]; simp), if_neg (by rw [fb]; simp)]
  simp only
  have gq := (H.step_stable q1 q2 (H.apart p1 q1 p2 q2 hne)).2
  have gp := (H.step_stable p1 p2 (H.apart q1 p1 q2 p2 (Ne.symm hne))).2
  have gq : ((h.step p).pr q).goes = true := gq
  have gp : ((h.step q).pr p).goes = true := gp
  refine ⟨by rw [now_goes]; exact gq, by rw [now_goes]; exact gp, fun hno => ?_⟩
  rw [stepE_now (H.step p1 p2) (by rw [HYard.step_len]; exact q1) gq, stepE_now (H.step q1 q2) (by rw [HYard.step_len]; exact p1) gp]
  rw [H.swap p1 q1 p2 q2 hne fun a ha b hb la lb e => ?_]
  have t1 := H.line_tgt p1 p2 ha la
  have t2 := H.line_tgt q1 q2 hb lb
  rw [← e] at t2
  have htl := H.tgt_lt p1 t1
  have hgrow : ∀ i, i < h.procs.length → (h.pr i).goes = true → h.tgt i = some a.1 → (h.now.pr a.1).puts.length < ((h.step i).now.pr a.1).puts.length := fun i hi hg ht => by
    rw [HYard.now_pr, HYard.now_pr]
    show ((h.pr a.1).hl.map HLine.key).length < (((h.step i).pr a.1).hl.map HLine.key).length
    rw [H.step_keys hi hg htl, if_pos ht]
    simp
  exact hno a.1 (by rw [HYard.now_len]; exact htl) ⟨hgrow p p1 p2 t1, hgrow q q1 q2 t2⟩
theorem tmod_val {c : Int} {k : Nat} (hc : 0 ≤ c) : c.tmod (k : Int) = ((c.toNat % k : Nat) : Int) := by
  obtain ⟨m, rfl⟩ := Int.eq_ofNat_of_zero_le hc
  rw [Int.tmod_eq_emod_of_nonneg (by omega), Int.toNat_natCast]
  omega
theorem state_ready {y : Yard} {M q : Nat} (hL : Live y M) (hq : q < y.procs.length) : stateE y q = ((y.pr q).state, 0) := by
  unfold stateE
  have h0 : openedE y [(q : Int)] = 0 := by
    unfold openedE
    have hw : ([(q : Int)].all fun n => within n 0 ((y.procs.length : Int) - 1)) = true := by
      simp only [List.all_cons, List.all_nil, Bool.and_true, within_iff]; omega
    rw [if_pos hL.right, hw, if_pos rfl]; rfl
  rw [if_pos h0, Int.toNat_natCast]
theorem goes_state {p : Proc} (h : p.goes = true) : p.state = 1 ∨ p.state = 2 := by
  unfold Proc.goes at h
  simpa using h
section
variable {S : Res}
set_option maxHeartbeats 4000000 in
set_option maxRecDepth 100000 in
theorem waitSwaps_ct {jv pv : Value} {jobs : List (List Move)} {s c1 c2 : Int} {picks : List Int} (hj : Row S 1 (jobR S) jv jobs) (hs : 0 ≤ s ∧ s < 256) (hpk : Row S 1 (eqC iC) pv picks) (hi64 : ∀ x ∈ picks, I64 x) (hc1 : 0 ≤ c1 ∧ c1 < 256) (hc2 : 0 ≤ c2 ∧ c2 < 256) :
    Ct Tryz.prog 6 #[jv, .int .u8 s, pv, .int .u8 c1, .int .u8 c2] [S] fun u h' => u = .bool true ∧ h' = [S] := by
  obtain ⟨pa, pc, hpv, _⟩ := id hpk
  have hpl := hpk.lenle
  unfold maxLen at hpl
  subst hpv
  refine ct_of (n := 234) Tryz.func6 rfl rfl (len rfl) fun hr w0 => ?_
  refine cS (cR (sV (vA rfl) (sN (nT (cS (cS (cR (sV (vM rfl) (st_clr rfl rfl en12 rfl (few_ct hj) ?_)))))))))
  refine sV (v_not rfl) (sV (vM rfl) (st_cut (k := 8) (d := 38) (v := .bool (!(fewE jobs) || decide (200 < (picks.length : Int)))) (fun hcut => bool_want (b := !(fewE jobs)) false (fun hg => ?_) (fun hg => ?_)) ?_))
  · refine st_sk rfl rfl hg ?_
    refine st_sk rfl rfl hg ?_
    refine st_sk rfl rfl hg ?_
    refine sV (v_pick_true (bool_ev rfl hg) rfl) ?_
    exact hcut _ (ssub_head (by first | rfl | (rw [hg]; rfl) | simp_all) (uS rfl (uS rfl (uS rfl (ssub_refl)))))
  · skip
    refine st_vg rfl (bG rfl hg) (vM rfl) (st_vg rfl (bG rfl hg) (v_len rfl Tryz.underlying43) (st_vg rfl (bG rfl hg) (v_gtr rfl rfl) (sV (vP (bool_ev rfl hg) rfl) ?_)))
    exact hcut _ (ssub_head (by first | rfl | (rw [hg]; rfl) | simp_all) (uS rfl (uS rfl (uS rfl (ssub_refl)))))
  refine sN (nK [0, 1, 2, 3, 4, 10, 38] rfl (nT (cC rfl (fun h0 => ?_) (fun h0 => ?_))))
  · skip
    refine cS (cR (st_cl rfl rfl en13 rfl (sanity_ct) ?_))
    rintro u h' ⟨rfl, rfl⟩
    refine sV (vA rfl) (sN (nK [10] rfl (nT (cT (xR (xt_law rfl ?_))))))
    refine Sub.sel (by repeat (first | exact Sel.here | apply Sel.there)) ?_
    repeat apply Sub.cons
    exact Sub.refl _
  · skip
    simp only [Bool.or_eq_false_iff, Bool.not_eq_false', decide_eq_false_iff_not] at h0
    obtain ⟨hfew, hp200⟩ := h0
    have hfit := few_Fits hfew
    have hsb := spN_bd s
    refine cK (xT (cS (cR (sV (vM rfl) (sV (v_conv rfl Tryz.underlying5 Tryz.underlying3 (wrap_small hs)) (sV (v_remu rfl rfl (by decide)) ?_))))))
    refine sV (v_is (congrArg (Value.int .i64) (spN_val hs.1)) (v_add (a := 1) (b := s.tmod 6) rfl rfl (by have := spN_val hs.1; unfold I64 at *; omega))) ?_
    refine sV (vA rfl) (sN (nK [0, 2, 3, 4, 10, 11] rfl (nT (cS (cR (sV (vM rfl) (sV (vM rfl) ?_)))))))
    generalize spN s = n at *
    have hn12 : n ≤ 12 := by omega
    refine st_cl rfl rfl en14 rfl (new_ct hj hfit (by unfold I64; omega)) ?_
    rintro u h' ⟨T0, rfl, ys0, rfl, hy0⟩
    obtain ⟨ja, pa0, rfl, hd1, hd2⟩ := yardR_cells hy0
    simp only [List.cons_append, List.nil_append]
    refine sV (vM rfl) (sV (v_extract rfl rfl) (sV (v_extract rfl rfl) (st_alc al27 fun b12 => ?_)))
    refine st_stoW rfl rfl sz27 rfl (by simp [hd1, hd2]) ?_
    refine sV (vA rfl) (sN (nK [2, 3, 4, 10, 11, 12, 13] rfl (nT (cS (cS (cR (sV (vM rfl) (sV (v_neq rfl rfl) (sN (nK [2, 3, 4, 10, 11, 12, 51] rfl (nT (cC rfl (fun h1 => ?_) (fun h1 => ?_)))))))))))))
    · skip
      refine cS (cR (st_cl rfl rfl en13 rfl (sanity_ct) ?_))
      rintro u h' ⟨rfl, rfl⟩
      refine sV (vA rfl) (sN (nK [10] rfl (nT (cT (xR (xt_law rfl ?_))))))
      refine Sub.sel (by repeat (first | exact Sel.here | apply Sel.there)) ?_
      repeat apply Sub.cons
      exact Sub.refl _
    · skip
      have h1' : check jobs n = 0 := by simpa using h1
      have hL0 := Live.new h1'
      have hR0 := new_any h1'
      have hnew : newY jobs n = Yard.new jobs n := by unfold newY; rw [if_pos h1', Int.toNat_natCast]
      rw [hnew] at hy0
      have hn0 : (Yard.new jobs n).procs.length = n := by simp [Yard.new]
      generalize Yard.new jobs n = y0 at *
      have hrun : yRunE y0 picks = y0.run picks := by unfold yRunE; rw [if_pos hL0.right]
      refine cK (xT (cS (cR (sV (v_ldn rfl ld27 rfl rds_pt) ?_))))
      refine sV (vM rfl) (st_cl rfl rfl en31 rfl (ctn_star (Run_ct (S := Res.star [T0, S]) (hy0.mono (rd_in .here)) (hL0.fit (by omega)) (fun _ => hL0) (by omega) (hpk.mono (rd_in (.there .here)) fun _ _ _ h => h) hi64)) ?_)
      rintro u h' ⟨T1, rfl, ys1, rfl, hy1⟩
      rw [hrun] at hy1 ⊢
      have hlv := run_live (picks := picks) hL0
      have hre := run_reach (picks := picks) kept_any hR0
      generalize y0.run picks = ze at *
      obtain ⟨z, ez⟩ := ze
      simp only at hy1 hlv hre ⊢
      obtain ⟨ja1, pa1, rfl, he1, he2⟩ := yardR_cells hy1
      obtain ⟨_, _, heq, hzj, hzp⟩ := id hy1
      simp only [List.cons.injEq, and_true] at heq
      obtain ⟨rfl, rfl⟩ := heq
      obtain ⟨za, zc, rfl, _⟩ := id hzp
      simp only [List.cons_append, List.nil_append]
      refine sV (vM rfl) (sV (v_extract rfl rfl) (sV (v_extract rfl rfl) (st_alc al27 fun b14 => ?_)))
      refine st_stoW rfl rfl sz27 rfl (by simp [he1, he2]) ?_
      refine sV (vA rfl) (sN (nK [3, 4, 10, 11, 14, 15] rfl (nT (cS (cS (cR (sV (vM rfl) (sV (v_neq rfl rfl) (sN (nK [3, 4, 10, 11, 14, 60] rfl (nT (cC rfl (fun h2 => ?_) (fun h2 => ?_)))))))))))))
      · skip
        refine cS (cR (st_cl rfl rfl en13 rfl (sanity_ct) ?_))
        rintro u h' ⟨rfl, rfl⟩
        refine sV (vA rfl) (sN (nK [10] rfl (nT (cT (xR (xt_law rfl ?_))))))
        refine Sub.sel (by repeat (first | exact Sel.here | apply Sel.there)) ?_
        repeat apply Sub.cons
        exact Sub.refl _
      · skip
        have hez : ez = 0 := by simpa using h2
        obtain ⟨hLz, hzl⟩ := hlv hez
        rw [hn0] at hzl
        have hRz : Reach Any z := by
          rcases hre with ⟨_, a⟩ | a
          · exact a
          · rw [hez] at a; cases a
        have hrE : readyE z = (rdy z.procs z.procs.length, 0) := by unfold readyE; rw [if_pos hLz.right]
        have hzi : (z.procs.length : Int) = n := by omega
        refine cK (xT (cS (cR (sV (v_ldn rfl ld27 rfl rds_pt) ?_))))
        refine st_cl rfl rfl en22 rfl (Ready_ct hy1 (hLz.fit (by omega))) ?_
        rintro u h' ⟨T2, rfl, v2, rfl, hT2⟩
        subst hT2
        rw [hrE]
        refine sV (vM rfl) (sV (v_extract rfl rfl) (sV (v_extract rfl rfl) (sV (vA rfl) (sV (vA rfl) (sN (nK [3, 4, 10, 11, 14, 16, 17] rfl (nT (cS (cS (cR (sV (vM rfl) (sV (v_neq rfl rfl) (sV (vM rfl) (st_vg rfl rfl (vF rfl fa27_1 rfl) (st_vg rfl rfl (v_ldy rfl ld25) ?_)))))))))))))))
        refine st_vg rfl rfl (v_len rfl Tryz.underlying25) (st_vg rfl rfl (vM rfl) (st_vg rfl rfl (v_neq rfl rfl) (sV (vP rfl rfl) (sN (nK [3, 4, 10, 11, 14, 16, 75] rfl (nT (cC rfl (fun h3 => ?_) (fun h3 => ?_))))))))
        · rw [hzi] at h3; simp at h3
        · skip
          refine cK (xT (cS (cS ?_)))
          simp only [List.cons_append, List.nil_append]
          refine cd_rowf (v := v2) (by repeat (first | exact Sel.here | apply Sel.there)) (fun va vc hve _ _ => ?_)
          rw [List.length_map, ← ready_rdy, List.length_map] at hve
          subst hve
          rw [← ready_rdy]
          refine cR (sV (vM rfl) (sV (v_len rfl Tryz.underlying43) (sV (v_lss rfl rfl) (sN (nK [3, 4, 10, 11, 14, 16, 78] rfl (nT (cC rfl (fun h4 => ?_) (fun h4 => ?_))))))))
          · skip
            refine cS (cR (st_cl rfl rfl en13 rfl (sanity_ct) ?_))
            rintro u h' ⟨rfl, rfl⟩
            refine sV (vA rfl) (sN (nK [10] rfl (nT (cT (xR (xt_law rfl ?_))))))
            refine Sub.sel (by repeat (first | exact Sel.here | apply Sel.there)) ?_
            repeat apply Sub.cons
            exact Sub.refl _
          · skip
            have hl2 : 2 ≤ z.ready.length := by have : ¬ (z.ready.length : Int) < 2 := of_decide_eq_false h4
                                                omega
            have hl0 : z.ready ≠ [] := fun h => by rw [h] at hl2; simp at hl2
            have hl12 : z.ready.length ≤ 12 := by
              have h1 : z.ready.length ≤ (List.range z.procs.length).length := List.length_filter_le _ _
              rw [List.length_range] at h1
              omega
            have hat : ∀ m, m < z.ready.length → ((z.ready.map fun (k : Nat) => (k : Int)).map iC)[m]? = some (iC ((z.ready.getD m 0 : Nat) : Int)) := fun m hm => by
              rw [List.getElem?_map, List.getElem?_map, List.getElem?_eq_getElem hm, List.getD_eq_getElem?_getD, List.getElem?_eq_getElem hm]; rfl
            have hk1 : c1.toNat % z.ready.length < z.ready.length := Nat.mod_lt _ (by omega)
            have hk2 : c2.toNat % z.ready.length < z.ready.length := Nat.mod_lt _ (by omega)
            have ha1 := hat _ hk1
            have ha2 := hat _ hk2
            have hp := pick_mem hl0 hk1
            have hq := pick_mem hl0 hk2
            have hv1 := tmod_val (k := z.ready.length) hc1.1
            have hv2 := tmod_val (k := z.ready.length) hc2.1
            generalize z.ready.getD (c1.toNat % z.ready.length) 0 = p at *
            generalize z.ready.getD (c2.toNat % z.ready.length) 0 = q at *
            generalize c1.toNat % z.ready.length = k1 at *
            generalize c2.toNat % z.ready.length = k2 at *
            have hpm : p ∈ (List.range z.procs.length).filter fun i => (z.pr i).goes := hp
            have hqm : q ∈ (List.range z.procs.length).filter fun i => (z.pr i).goes := hq
            rw [List.mem_filter, List.mem_range] at hpm hqm
            obtain ⟨hpl, hpg⟩ := hpm
            obtain ⟨hql, hqg⟩ := hqm
            refine cd_row (by repeat (first | exact Sel.here | apply Sel.there)) (fun h0 hr0 => ?_) (fun vb vo vc' hve _ _ => ?_)
            · exfalso
              rw [List.map_eq_nil_iff, List.map_eq_nil_iff] at hr0
              exact hl0 hr0
            have hve' := hve
            simp only [Value.slice.injEq, List.length_map] at hve'
            obtain ⟨rfl, _, rfl⟩ := hve'
            refine cK (xT (cS (cR (sV (vM rfl) (sV (vM rfl) (sV (v_conv rfl Tryz.underlying5 Tryz.underlying3 (wrap_small hc1)) (sV (vM rfl) (sV (v_len rfl Tryz.underlying43) (sV (v_remu rfl rfl (by omega)) (sV (v_indexAddr (k := k1) rfl rfl sl43 hv1 hk1 rfl) (sV (v_load rfl ld3 (at_here (rd_vrk (k := 0) (o := vo) (m := k1) ha1 rfl))) ?_)))))))))))
            refine sV (vA rfl) (sN (nK [4, 10, 11, 14, 16, 18] rfl (nT (cS (cR (sV (vM rfl) (sV (vM rfl) (sV (v_conv rfl Tryz.underlying5 Tryz.underlying3 (wrap_small hc2)) (sV (vM rfl) (sV (v_len rfl Tryz.underlying43) (sV (v_remu rfl rfl (by omega)) (sV (v_indexAddr (k := k2) rfl rfl sl43 hv2 hk2 rfl) (sV (v_load rfl ld3 (at_here (rd_vrk (k := 0) (o := vo) (m := k2) ha2 rfl))) ?_)))))))))))))
            refine sV (vA rfl) (sN (nK [10, 11, 14, 18, 19] rfl (nT (cS (cR (sV (v_ldn rfl ld27 rfl rds_pt) ?_))))))
            refine sV (vM rfl) (st_cl rfl rfl en34 rfl (Step_ct hy1 (hLz.fit (by omega)) (fun j => by have := (hLz.hm j).2; omega) p) ?_)
            rintro u h' ⟨T3, rfl, ys3, rfl, hya⟩
            rw [yStep_ready hLz hpl hpg] at hya ⊢
            obtain ⟨ja3, pa3, rfl, hf1, hf2⟩ := yardR_cells hya
            have hLa := hLz.stepE hpl hpg
            have hla := stepE_len hLz hpl hpg
            have hsw := swap_fact hRz hp hq
            have hoka := stepE_ok (y := z) (i := p)
            have hokb := stepE_ok (y := z) (i := q)
            generalize hae : z.stepE p = ae at *
            obtain ⟨a, ea⟩ := ae
            simp only at hya hLa hla hsw hoka ⊢
            simp only [List.cons_append, List.nil_append]
            refine sV (vM rfl) (sV (v_extract rfl rfl) (sV (v_extract rfl rfl) (st_alc al27 fun b20 => ?_)))
            refine st_stoW rfl rfl sz27 rfl (by simp [hf1, hf2]) ?_
            refine sV (vA rfl) (sN (nK [10, 11, 14, 18, 19, 20, 21] rfl (nT (cS (cR (sV (v_ldn (vs := [ja1, .slice za z.procs.length zc]) rfl ld27 rfl rds_pt) ?_))))))
            refine sV (vM rfl) (st_cl rfl rfl en34 rfl (Step_ct hy1 (hLz.fit (by omega)) (fun j => by have := (hLz.hm j).2; omega) q) ?_)
            rintro u h' ⟨T4, rfl, ys4, rfl, hyb⟩
            rw [yStep_ready hLz hql hqg] at hyb ⊢
            obtain ⟨ja4, pa4, rfl, hg1, hg2⟩ := yardR_cells hyb
            have hLb := hLz.stepE hql hqg
            have hlb := stepE_len hLz hql hqg
            generalize hbe : z.stepE q = be at *
            obtain ⟨b, eb⟩ := be
            simp only at hyb hLb hlb hsw hokb ⊢
            simp only [List.cons_append, List.nil_append]
            refine sV (vM rfl) (sV (v_extract rfl rfl) (sV (v_extract rfl rfl) (st_alc al27 fun b22 => ?_)))
            refine st_stoW rfl rfl sz27 rfl (by simp [hg1, hg2]) ?_
            refine sV (vA rfl) (sN (nK [10, 11, 14, 18, 19, 20, 21, 22, 23] rfl (nT (cS (cS (cR (sV (vM rfl) (sV (vM rfl) (sV (v_eql rfl rfl) (sV (vM rfl) (st_cut (k := 7) (d := 114) (v := .bool (((p : Int) == (q : Int)) || (ea != 0))) (fun hcut => bool_want (b := ((p : Int) == (q : Int))) false (fun hg => ?_) (fun hg => ?_)) ?_)))))))))))
            · refine st_sk rfl rfl hg ?_
              refine st_sk rfl rfl hg ?_
              refine sV (v_pick_true (bool_ev rfl hg) rfl) ?_
              exact hcut _ (ssub_head (by first | rfl | (rw [hg]; rfl) | simp_all) (uS rfl (uS rfl (ssub_refl))))
            · skip
              refine st_vg rfl (bG rfl hg) (vM rfl) (st_vg rfl (bG rfl hg) (v_neq rfl rfl) (sV (vP (bool_ev rfl hg) rfl) ?_))
              exact hcut _ (ssub_head (by first | rfl | (rw [hg]; rfl) | simp_all) (uS rfl (uS rfl (ssub_refl))))
            refine sV (vM rfl) (st_cut (k := 11) (d := 118) (v := .bool (((p : Int) == (q : Int)) || (ea != 0) || (eb != 0))) (fun hcut => bool_want (b := (((p : Int) == (q : Int)) || (ea != 0))) false (fun hg => ?_) (fun hg => ?_)) ?_)
            · refine st_sk rfl rfl hg ?_
              refine st_sk rfl rfl hg ?_
              refine sV (v_pick_true (bool_ev rfl hg) rfl) ?_
              exact hcut _ (ssub_head (by first | rfl | (rw [hg]; rfl) | simp_all) (uS rfl (uS rfl (ssub_refl))))
            · skip
              refine st_vg rfl (bG rfl hg) (vM rfl) (st_vg rfl (bG rfl hg) (v_neq rfl rfl) (sV (vP (bool_ev rfl hg) rfl) ?_))
              exact hcut _ (ssub_head (by first | rfl | (rw [hg]; rfl) | simp_all) (uS rfl (uS rfl (ssub_refl))))
            refine sN (nK [10, 11, 14, 18, 19, 20, 21, 22, 23, 118] rfl (nT (cC rfl (fun h5 => ?_) (fun h5 => ?_))))
            · skip
              refine cS (cR (st_cl rfl rfl en13 rfl (sanity_ct) ?_))
              rintro u h' ⟨rfl, rfl⟩
              simp only [List.nil_append]
              refine sV (vM rfl) (st_vg rfl rfl (vM rfl) (st_vg rfl rfl (v_eql rfl rfl) (st_vg rfl rfl (vM rfl) (st_cut (k := 8) (d := 126) (v := .bool true) (fun hcut => bool_want (b := (ea == 0)) false (fun hg => ?_) (fun hg => ?_)) ?_))))
              · refine st_sk rfl rfl hg ?_
                refine st_sk rfl rfl hg ?_
                refine st_vg rfl rfl (v_pick_true (bool_ev rfl hg) rfl) ?_
                exact hcut _ (ssub_head (by first | rfl | (rw [hg]; rfl) | simp_all) (uS rfl (uS rfl (ssub_refl))))
              · skip
                have hea : ea = 3 := by
                  rcases hoka with h | h
                  · rw [h] at hg; cases hg
                  · exact h
                subst hea
                refine st_vg rfl (bG rfl hg) (vM rfl) (st_vg rfl (bG rfl hg) (v_eql rfl rfl) (st_vg rfl rfl (vP (bool_ev rfl hg) rfl) ?_))
                exact hcut _ (ssub_head (by first | rfl | (rw [hg]; rfl) | simp_all) (uS rfl (uS rfl (ssub_refl))))
              refine sV (v_pick_true rfl rfl) (sV (vM rfl) (st_vg rfl rfl (vM rfl) (st_vg rfl rfl (v_eql rfl rfl) (st_vg rfl rfl (vM rfl) (st_cut (k := 16) (d := 134) (v := .bool true) (fun hcut => bool_want (b := (eb == 0)) false (fun hg => ?_) (fun hg => ?_)) ?_)))))
              · refine st_sk rfl rfl hg ?_
                refine st_sk rfl rfl hg ?_
                refine st_vg rfl rfl (v_pick_true (bool_ev rfl hg) rfl) ?_
                exact hcut _ (ssub_head (by first | rfl | (rw [hg]; rfl) | simp_all) (uS rfl (uS rfl (ssub_refl))))
              · skip
                have heb : eb = 3 := by
                  rcases hokb with h | h
                  · rw [h] at hg; cases hg
                  · exact h
                subst heb
                refine st_vg rfl (bG rfl hg) (vM rfl) (st_vg rfl (bG rfl hg) (v_eql rfl rfl) (st_vg rfl rfl (vP (bool_ev rfl hg) rfl) ?_))
                exact hcut _ (ssub_head (by first | rfl | (rw [hg]; rfl) | simp_all) (uS rfl (uS rfl (ssub_refl))))
              refine sV (v_pick_true rfl rfl) (sV (vA rfl) (sN (nK [10] rfl (nT (cT (xR (xt_law rfl ?_)))))))
              refine Sub.sel (by repeat (first | exact Sel.here | apply Sel.there)) ?_
              repeat apply Sub.cons
              exact Sub.refl _
            · skip
              simp only [Bool.or_eq_false_iff, beq_eq_false_iff_ne, bne_eq_false_iff_eq] at h5
              obtain ⟨⟨hpq, hea⟩, heb⟩ := h5
              clear hoka hokb hre
              have hne : p ≠ q := fun h => hpq (by rw [h])
              have hLa := hLa hea
              have hla := hla hea
              have hLb := hLb heb
              have hlb := hlb heb
              obtain ⟨gqa, gpb, hswap⟩ := hsw hne hea heb
              have hali : (a.procs.length : Int) = n := by omega
              have hbli : (b.procs.length : Int) = n := by omega
              obtain ⟨_, _, heq, haj, hap⟩ := id hya
              simp only [List.cons.injEq, and_true] at heq
              obtain ⟨rfl, rfl⟩ := heq
              obtain ⟨aa, ac, rfl, _⟩ := id hap
              obtain ⟨_, _, heq, hbj, hbp⟩ := id hyb
              simp only [List.cons.injEq, and_true] at heq
              obtain ⟨rfl, rfl⟩ := heq
              obtain ⟨ba, bc, rfl, _⟩ := id hbp
              have hst := state_ready hLa (q := q) (by omega)
              have hst2 := goes_state gqa
              generalize (a.pr q).state = st at *
              refine cK (xT (cS (cR (sV (v_ldn (vs := [ja3, .slice aa a.procs.length ac]) rfl ld27 rfl rds_pt) ?_))))
              refine sV (vM rfl) (st_clr rfl rfl en20 rfl (State_ct hya (hLa.fit (by omega)) q) ?_)
              rw [hst]
              refine sV (vM rfl) (sV (v_extract rfl rfl) (sV (v_extract rfl rfl) (sV (vA rfl) (sV (vA rfl) (sN (nK [10, 11, 14, 18, 19, 20, 22, 24, 25] rfl (nT (cS (cS (cR (sV (vM rfl) (sV (v_neq rfl rfl) (sV (vM rfl) (st_vg rfl rfl (vM rfl) (st_vg rfl rfl (v_neq rfl rfl) ?_)))))))))))))))
              refine st_vg rfl rfl (vM rfl) (st_cut (k := 9) (d := 150) (v := .bool false) (fun hcut => bool_want (b := (st != 1)) true (fun hg => ?_) (fun hg => ?_)) ?_)
              · refine st_sk rfl rfl hg ?_
                refine st_sk rfl rfl hg ?_
                refine st_vg rfl rfl (vP (bool_ev rfl hg) rfl) ?_
                exact hcut _ (ssub_head (by first | rfl | (rw [hg]; rfl) | simp_all) (uS rfl (uS rfl (ssub_refl))))
              · skip
                have hst3 : st = 2 := by
                  rcases hst2 with h | h
                  · rw [h] at hg; cases hg
                  · exact h
                subst hst3
                refine st_vg rfl (bG rfl hg) (vM rfl) (st_vg rfl (bG rfl hg) (v_neq rfl rfl) (st_vg rfl rfl (v_pick_true (bool_ev rfl hg) rfl) ?_))
                exact hcut _ (ssub_head (by first | rfl | (rw [hg]; rfl) | simp_all) (uS rfl (uS rfl (ssub_refl))))
              refine sV (vP rfl rfl) (sV (vM rfl) ?_)
              clear hst2
              refine st_vg rfl rfl (vF rfl fa27_1 rfl) (st_vg rfl rfl (v_ldy rfl ld25) ?_)
              refine st_vg rfl rfl (v_len rfl Tryz.underlying25) (st_vg rfl rfl (vM rfl) (st_vg rfl rfl (v_neq rfl rfl) (sV (vP rfl rfl) (sV (vM rfl) (st_cut (k := 24) (d := 165) (v := .bool (((a.procs.length : Int) != (n : Int)) || ((b.procs.length : Int) != (n : Int)))) (fun hcut => bool_want (b := ((a.procs.length : Int) != (n : Int))) false (fun hg => ?_) (fun hg => ?_)) ?_)))))
              · refine st_sk rfl rfl hg ?_
                refine st_sk rfl rfl hg ?_
                refine st_sk rfl rfl hg ?_
                refine st_sk rfl rfl hg ?_
                refine st_sk rfl rfl hg ?_
                refine sV (v_pick_true (bool_ev rfl hg) rfl) ?_
                exact hcut _ (ssub_head (by first | rfl | (rw [hg]; rfl) | simp_all) (uS rfl (uS rfl (uS rfl (uS rfl (uS rfl (ssub_refl)))))))
              · skip
                refine st_vg rfl (bG rfl hg) (vF rfl fa27_1 rfl) (st_vg rfl (bG rfl hg) (v_ldy rfl ld25) ?_)
                refine st_vg rfl (bG rfl hg) (v_len rfl Tryz.underlying25) (st_vg rfl (bG rfl hg) (vM rfl) (st_vg rfl (bG rfl hg) (v_neq rfl rfl) (sV (vP (bool_ev rfl hg) rfl) ?_)))
                exact hcut _ (ssub_head (by first | rfl | (rw [hg]; rfl) | simp_all) (uS rfl (uS rfl (uS rfl (uS rfl (uS rfl (ssub_refl)))))))
              refine sN (nK [10, 11, 14, 18, 19, 20, 22, 165] rfl (nT (cC rfl (fun h6 => ?_) (fun h6 => ?_))))
              · rw [hali, hbli] at h6; simp at h6
              · skip
                refine cK (xT (cS (cS (cR (sV (vM rfl) (sV (vM rfl) (sN (nK [10, 14, 18, 19, 20, 22, 166, 167] rfl (nT (cd_block (cd_lq (σ := Nat) (fun t => [(14, .pointer (some ⟨b14, 0, none⟩)), (18, .int .i64 (p : Nat)), (19, .int .i64 (q : Nat)), (20, .pointer (some ⟨b20, 0, none⟩)), (22, .pointer (some ⟨b22, 0, none⟩)), (166, .int .i64 n), (167, .int .i64 (t : Nat))]) (fun _ => pt b22 (cl [ja4, .slice ba b.procs.length bc] 27) :: T4 :: pt b20 (cl [ja3, .slice aa a.procs.length ac] 27) :: T3 :: pt b14 (cl [ja1, .slice za z.procs.length zc] 27) :: T1 :: S :: hr) (fun t => t ≤ n ∧ ∀ j, j < t → ¬ ((z.pr j).puts.length < (a.pr j).puts.length ∧ (z.pr j).puts.length < (b.pr j).puts.length)) (fun t => n - t) 0 ⟨Nat.zero_le _, fun j hj => absurd hj (Nat.not_lt_zero _)⟩ ?_)))))))))))
                rintro t ⟨ht, hteq⟩
                refine cS (cR (sV (v_lss rfl rfl) (sN (nT (cS (cC rfl (fun h7 => ?_) (fun h7 => ?_)))))))
                · skip
                  have htn : t < n := by have := of_decide_eq_true h7; omega
                  have htz : t < z.procs.length := by omega
                  have hta : t < a.procs.length := by omega
                  have htb : t < b.procs.length := by omega
                  obtain ⟨zb, zo, zcp, zus, hzv, hzus, hzrd, zlv, zpv, zhv, zdv, rfl, hzL, hzP, hzH, hzD⟩ := hzp.at (List.getElem?_eq_getElem htz)
                  obtain ⟨ab, ao, acp, aus, hav, haus, hard, alv, apv, ahv, adv, rfl, haL, haP, haH, haD⟩ := hap.at (List.getElem?_eq_getElem hta)
                  obtain ⟨bb, bo, bcp, bus, hbv, hbus, hbrd, blv, bpv, bhv, bdv, rfl, hbL, hbP, hbH, hbD⟩ := hbp.at (List.getElem?_eq_getElem htb)
                  rw [← pr_get htz] at hzP hzrd
                  rw [← pr_get hta] at haP hard
                  rw [← pr_get htb] at hbP hbrd
                  obtain ⟨zpa, zpc, rfl, _⟩ := id hzP
                  obtain ⟨apa, apc, rfl, _⟩ := id haP
                  obtain ⟨bpa, bpc, rfl, _⟩ := id hbP
                  refine cK (xT (cS (cd_block (cS (cR (sV (vM rfl) (sV (vA rfl) (sN (nK [14, 18, 19, 20, 22, 26, 166, 167] rfl (nT (cS (cd_drawh (ork [(0, 2), (1, 1), (2, 2), (3, 2), (4, 2), (5, 1), (6, 2), (7, 2), (8, 1), (9, 2), (10, 2), (11, 2), (12, 1), (13, 2), (14, 2), (15, 2), (16, 2), (17, 1), (18, 2), (19, 2), (20, 2), (21, 1), (22, 2), (23, 2), (24, 1), (25, 2), (26, 2), (27, 2), (28, 1), (29, 2), (30, 2), (31, 2)] .nil) (fun _ => true) mixed (by kernel_rfl) ?_))))))))))))
                  refine dV rfl (vF rfl fa27_1 rfl) (dr_v rfl (v_ldy rfl ld25) ?_)
                  refine dV rfl (vM rfl) (dV rfl (v_indexAddr (k := t) (congrArg some hav) rfl sl25 rfl hta rfl) (dV rfl (vF rfl fa77_1 rfl) (dr_v rfl (v_ldy rfl ld74) ?_)))
                  refine dV rfl (v_len rfl Tryz.underlying74) (dV rfl (vF rfl fa27_1 rfl) (dr_v rfl (v_ldy rfl ld25) ?_))
                  refine dV rfl (vM rfl) (dV rfl (v_indexAddr (k := t) (congrArg some hzv) rfl sl25 rfl htz rfl) (dV rfl (vF rfl fa77_1 rfl) (dr_v rfl (v_ldy rfl ld74) ?_)))
                  refine dV rfl (v_len rfl Tryz.underlying74) (dV rfl (v_gtr rfl rfl) (dV rfl (vM rfl) (dr_cut (k := 16) (d := 201) (v := .bool (decide (((z.pr t).puts.length : Int) < ((a.pr t).puts.length : Int)) && decide (((z.pr t).puts.length : Int) < ((b.pr t).puts.length : Int)))) (fun hcut => bool_want (b := decide (((z.pr t).puts.length : Int) < ((a.pr t).puts.length : Int))) true (fun hg => ?_) (fun hg => ?_)) ?_)))
                  · refine dp_sk rfl rfl rfl hg ?_
                    refine dr_sk rfl rfl rfl hg ?_
                    refine dp_sk rfl rfl rfl hg ?_
                    refine dp_sk rfl rfl rfl hg ?_
                    refine dp_sk rfl rfl rfl hg ?_
                    refine dr_sk rfl rfl rfl hg ?_
                    refine dp_sk rfl rfl rfl hg ?_
                    refine dp_sk rfl rfl rfl hg ?_
                    refine dr_sk rfl rfl rfl hg ?_
                    refine dp_sk rfl rfl rfl hg ?_
                    refine dp_sk rfl rfl rfl hg ?_
                    refine dp_sk rfl rfl rfl hg ?_
                    refine dr_sk rfl rfl rfl hg ?_
                    refine dp_sk rfl rfl rfl hg ?_
                    refine dp_sk rfl rfl rfl hg ?_
                    refine dV rfl (vP (bool_ev rfl hg) rfl) ?_
                    exact hcut _ (ssub_head (by first | rfl | (rw [hg]; rfl) | simp_all) (uS rfl (uS rfl (uS rfl (uS rfl (uS rfl (uS rfl (uS rfl (uS rfl (uS rfl (uS rfl (uS rfl (uS rfl (uS rfl (uS rfl (uS rfl (ssub_refl)))))))))))))))))
                  · skip
                    refine dp_vg rfl rfl (bG rfl hg) (vF rfl fa27_1 rfl) (dr_vg rfl rfl (bG rfl hg) (v_ldy rfl ld25) ?_)
                    refine dp_vg rfl rfl (bG rfl hg) (vM rfl) (dp_vg rfl rfl (bG rfl hg) (v_indexAddr (k := t) (congrArg some hbv) rfl sl25 rfl htb rfl) (dp_vg rfl rfl (bG rfl hg) (vF rfl fa77_1 rfl) (dr_vg rfl rfl (bG rfl hg) (v_ldy rfl ld74) ?_)))
                    refine dp_vg rfl rfl (bG rfl hg) (v_len rfl Tryz.underlying74) (dp_vg rfl rfl (bG rfl hg) (vF rfl fa27_1 rfl) (dr_vg rfl rfl (bG rfl hg) (v_ldy rfl ld25) ?_))
                    refine dp_vg rfl rfl (bG rfl hg) (vM rfl) (dp_vg rfl rfl (bG rfl hg) (v_indexAddr (k := t) (congrArg some hzv) rfl sl25 rfl htz rfl) (dp_vg rfl rfl (bG rfl hg) (vF rfl fa77_1 rfl) (dr_vg rfl rfl (bG rfl hg) (v_ldy rfl ld74) ?_)))
                    refine dp_vg rfl rfl (bG rfl hg) (v_len rfl Tryz.underlying74) (dp_vg rfl rfl (bG rfl hg) (v_gtr rfl rfl) (dV rfl (v_pick_true (bool_ev rfl hg) rfl) ?_))
                    exact hcut _ (ssub_head (by first | rfl | (rw [hg]; rfl) | simp_all) (uS rfl (uS rfl (uS rfl (uS rfl (uS rfl (uS rfl (uS rfl (uS rfl (uS rfl (uS rfl (uS rfl (uS rfl (uS rfl (uS rfl (uS rfl (ssub_refl)))))))))))))))))
                  refine dr_nil (nK [14, 18, 19, 20, 22, 166, 167, 201] rfl (nT (cC rfl (fun h8 => ?_) (fun h8 => ?_))))
                  · skip
                    refine cS (cR (st_cl rfl rfl en13 rfl (sanity_ct) ?_))
                    rintro u h' ⟨rfl, rfl⟩
                    simp only [List.nil_append]
                    refine sV (vA rfl) (sN (nK [10] rfl (nT (cT (xt_ret_block (xR (xR (xt_ret_block (xR (xt_law rfl ?_))))))))))
                    refine Sub.sel (by repeat (first | exact Sel.here | apply Sel.there)) ?_
                    repeat apply Sub.cons
                    exact Sub.refl _
                  · skip
                    refine cK (xB (xT (cR (sV (v_add rfl rfl (by unfold I64 at *; omega)) (sV (vM rfl) (sN (nK [14, 18, 19, 20, 22, 166, 167] rfl (nx_xt (xt_aq (t + 1) ⟨htn, fun j hj => ?_⟩ (by show _ - _ < _ - _; omega))))))))))
                    by_cases hjt : j = t
                    · subst hjt
                      intro hh
                      rw [Bool.and_eq_false_iff] at h8
                      rcases h8 with h8 | h8
                      · have := of_decide_eq_false h8; omega
                      · have := of_decide_eq_false h8; omega
                    · exact hteq j (by omega)
                · skip
                  have htn : t = n := by have : ¬ ((t : Nat) : Int) < n := of_decide_eq_false h7
                                         omega
                  have hfin := hswap fun j hj => hteq j (by omega)
                  have hLc := hLa.stepE (i := q) (by omega) gqa
                  refine cd_exit (xE (xE (xt_exit_block (xT (cS (cR (sV (v_ldn (vs := [ja3, .slice aa a.procs.length ac]) rfl ld27 rfl rds_pt) ?_)))))))
                  refine sV (vM rfl) (st_cl rfl rfl en34 rfl (Step_ct hya (hLa.fit (by omega)) (fun j => by have := (hLa.hm j).2; omega) q) ?_)
                  rintro u h' ⟨T5, rfl, ys5, rfl, hyc⟩
                  rw [yStep_ready hLa (by omega) gqa] at hyc ⊢
                  obtain ⟨ja5, pa5, rfl, hi1, hi2⟩ := yardR_cells hyc
                  generalize hce : a.stepE q = ce at *
                  obtain ⟨c, ec⟩ := ce
                  simp only at hyc hLc ⊢
                  simp only [List.cons_append, List.nil_append]
                  refine sV (vM rfl) (sV (v_extract rfl rfl) (sV (v_extract rfl rfl) (st_alc al27 fun b27 => ?_)))
                  refine st_stoW rfl rfl sz27 rfl (by simp [hi1, hi2]) ?_
                  refine sV (vA rfl) (sN (nK [18, 22, 27, 28] rfl (nT (cS (cR (sV (v_ldn (vs := [ja4, .slice ba b.procs.length bc]) rfl ld27 rfl rds_pt) ?_))))))
                  refine sV (vM rfl) (st_cl rfl rfl en34 rfl (Step_ct hyb (hLb.fit (by omega)) (fun j => by have := (hLb.hm j).2; omega) p) ?_)
                  rintro u h' ⟨T6, rfl, ys6, rfl, hyd⟩
                  rw [yStep_ready hLb (by omega) gpb, ← hfin] at hyd ⊢
                  obtain ⟨ja6, pa6, rfl, hk1', hk2'⟩ := yardR_cells hyd
                  simp only at hyd ⊢
                  simp only [List.cons_append, List.nil_append]
                  refine sV (vM rfl) (sV (v_extract rfl rfl) (sV (v_extract rfl rfl) (st_alc al27 fun b29 => ?_)))
                  refine st_stoW rfl rfl sz27 rfl (by simp [hk1', hk2']) ?_
                  refine sV (vA rfl) (sN (nK [27, 28, 29, 30] rfl (nT (cS (cS (cR (sV (vM rfl) (sV (v_neq rfl rfl) (sV (vM rfl) (st_cut (k := 6) (d := 221) (v := .bool ((ec != 0) || (ec != 0))) (fun hcut => bool_want (b := (ec != 0)) false (fun hg => ?_) (fun hg => ?_)) ?_))))))))))
                  · refine st_sk rfl rfl hg ?_
                    refine st_sk rfl rfl hg ?_
                    refine sV (v_pick_true (bool_ev rfl hg) rfl) ?_
                    exact hcut _ (ssub_head (by first | rfl | (rw [hg]; rfl) | simp_all) (uS rfl (uS rfl (ssub_refl))))
                  · skip
                    refine st_vg rfl (bG rfl hg) (vM rfl) (st_vg rfl (bG rfl hg) (v_neq rfl rfl) (sV (vP (bool_ev rfl hg) rfl) ?_))
                    exact hcut _ (ssub_head (by first | rfl | (rw [hg]; rfl) | simp_all) (uS rfl (uS rfl (ssub_refl))))
                  refine sN (nK [27, 28, 29, 30, 221] rfl (nT (cC rfl (fun h9 => ?_) (fun h9 => ?_))))
                  · skip
                    refine cS (cR (st_cl rfl rfl en13 rfl (sanity_ct) ?_))
                    rintro u h' ⟨rfl, rfl⟩
                    simp only [List.nil_append]
                    refine sV (vM rfl) (st_vg rfl rfl (vM rfl) (st_vg rfl rfl (vM rfl) (st_vg rfl rfl (v_eql rfl rfl) (sV (v_pick_true rfl rfl) (sV (vA rfl) (sN (nK [10] rfl (nT (cT (xR ?_))))))))))
                    rw [show (ec == ec) = true by simp]
                    refine xt_law rfl ?_
                    refine Sub.sel (by repeat (first | exact Sel.here | apply Sel.there)) ?_
                    repeat apply Sub.cons
                    exact Sub.refl _
                  · skip
                    have hec : ec = 0 := by simpa using h9
                    have hLc := hLc hec
                    refine cK (xT (cS (cR (st_cl rfl rfl en13 rfl (sanity_ct) ?_))))
                    rintro u h' ⟨rfl, rfl⟩
                    simp only [List.nil_append]
                    refine sV (vM rfl) (st_vg rfl rfl (v_ldn (vs := [ja5, pa5]) rfl ld27 rfl rds_pt) ?_)
                    refine st_vg rfl rfl (v_ldn (vs := [ja6, pa6]) rfl ld27 rfl rds_pt) ?_
                    refine st_clrg rfl rfl rfl rfl en16 rfl (reads_star (sameYards_ct (S := Res.star [T5, T6]) (hyc.mono (rd_in .here)) (hyd.mono (rd_in (.there .here))) (hLc.fit (by omega)))) ?_
                    rw [decide_eq_true rfl]
                    refine sV (v_pick_true rfl rfl) (sV (vA rfl) (sN (nK [10] rfl (nT (cT (xt_law rfl ?_))))))
                    refine Sub.sel (by repeat (first | exact Sel.here | apply Sel.there)) ?_
                    repeat apply Sub.cons
                    exact Sub.refl _
end
end Go.Wt
namespace Go.Proofs.YtboepbencndobaaGreat
open Go Go.RowKit Go.ChangeShapes Go.WideShapes Go.Ck Go.Wt
set_option maxRecDepth 100000 in
theorem waitSwaps_lifted (os : Os) (started : os.Started) (H : Type) (enc : TypeId × Value → H) :
    ReturnsInHanded {} Tryz.checked os 6 .any (Rows.waitSwapsSpec.pre6 enc Tryz.prog Tryz.f6 Rows.waitSwapsRow.domain false) (Rows.waitSwapsSpec.post enc Tryz.prog Tryz.f6 false true false false) := by
  refine returnsInHanded_of_change (C := Tryz.checked) (show ownKnob Tryz.prog.godebug = none by kernel_rfl) started (by kernel_rfl) Tryz.func6
    (ChangeSpec.witness6 (enc := enc) (C := Tryz.checked) false ⟨#[], #[.slice none 0 0, .int .u8 0, .slice none 0 0, .int .u8 0, .int .u8 0], []⟩ 8 (by kernel_rfl) (by kernel_rfl) (by kernel_rfl) (by kernel_rfl)) ?_
  intro W base args ds gs before hval0 hW hcnd _
  have hval : ∀ (j : Nat) t v, Tryz.f6.params[j]? = some t → args[j]? = some v → Value.okWide Tryz.prog W .any base t v := hval0
  have hW' := hW
  obtain ⟨p, q, hA0, hV, rfl, hfz, hnd⟩ := hW
  have hA : DataW.TrodAll enc Tryz.prog W 0 (fun _ => true) true Tryz.f6.params.toList args.toList ds p := hA0
  rw [Tryz.params6] at hA hval
  obtain ⟨v0, vs0, d0, ds0, p0, q0, hargs, rfl, rfl, h0, r0⟩ := trodAll_cons hA
  obtain ⟨v1, vs1, d1, ds1, p1, q1, rfl, rfl, rfl, h1, r1⟩ := trodAll_cons r0
  obtain ⟨v2, vs2, d2, ds2, p2, q2, rfl, rfl, rfl, h2, r2⟩ := trodAll_cons r1
  obtain ⟨v3, vs3, d3, ds3, p3, q3, rfl, rfl, rfl, h3, r3⟩ := trodAll_cons r2
  obtain ⟨v4, vs4, d4, ds4, p4, q4, rfl, rfl, rfl, h4, r4⟩ := trodAll_cons r3
  obtain ⟨rfl, rfl, rfl⟩ := trodAll_nil r4
  obtain rfl : args = #[v0, v1, v2, v3, v4] := by cases args; simp_all
  obtain ⟨rfl, rfl⟩ := trodVars_none hV
  obtain ⟨y0, e0⟩ := arg_one (ty := .slice jobTy) (by kernel_rfl) (by kernel_rfl) (hval 0 22 v0 rfl rfl) h0
  obtain ⟨y1, e1⟩ := arg_one (ty := .int .u8) (by kernel_rfl) (by kernel_rfl) (hval 1 5 v1 rfl rfl) h1
  obtain ⟨y2, e2⟩ := arg_one (ty := intsTy) (by kernel_rfl) (by kernel_rfl) (hval 2 43 v2 rfl rfl) h2
  obtain ⟨y3, e3⟩ := arg_one (ty := .int .u8) (by kernel_rfl) (by kernel_rfl) (hval 3 5 v3 rfl rfl) h3
  obtain ⟨y4, e4⟩ := arg_one (ty := .int .u8) (by kernel_rfl) (by kernel_rfl) (hval 4 5 v4 rfl rfl) h4
  have s0 := jobs_of e0
  obtain ⟨rfl, w1⟩ := rep_kind e1
  obtain ⟨s2, a2⟩ := ints_of e2
  obtain ⟨rfl, w3⟩ := rep_kind e3
  obtain ⟨rfl, w4⟩ := rep_kind e4
  refine (ct_calls (waitSwaps_ct s0 (wf_u8 w1) s2 a2 (wf_u8 w3) (wf_u8 w4)) fun v h' h => ⟨h.1, by rw [h.2]; exact .refl _⟩).mono fun e W' ⟨he, hk⟩ => ⟨_, he, ?_⟩
  exact law_post (tys := [.slice jobTy, .int .u8, intsTy, .int .u8, .int .u8]) hW' rfl (by kernel_rfl) Tryz.underlying4 (by rw [Tryz.params6]; kernel_rfl) rfl hk
theorem waitSwaps_holds : Rows.WaitSwapsSaid :=
  OpenClaim.holds_of_wide 6 Tryz.f6 rfl rfl rfl rfl rfl rfl rfl ⟨rfl, rfl, rfl, rfl, rfl⟩ rfl rfl rfl rfl rfl (by kernel_rfl) Tryz.func6 (by kernel_rfl)
    (of_decide_eq_true (by kernel_rfl)) (by unfold Func.isWrapper; first | (rw [if_pos (by decide +kernel)]; kernel_rfl) | (rw [if_neg (by decide +kernel)]; exact ⟨rfl, rfl⟩))
    (fun os started H enc _ => waitSwaps_lifted os started H enc)
end Go.Proofs.YtboepbencndobaaGreat
