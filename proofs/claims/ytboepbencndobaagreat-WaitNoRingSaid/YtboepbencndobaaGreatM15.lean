/-
  WaitNoRing: apart. Conditions: what is read.
  WaitNoRing: for every input the law answers true. Conditions: what is read, that numbers are those of the machine.
  WaitNoRing: for every input the law answers true, and the input reads as it did. No condition.
-/
import Derived.Test.YtboepbencndobaaGreatM14
import Derived.Test.YtboepbencndobaaGreatRows
import Derived.Test.YtboepbencndobaaGreatM12
set_option linter.unusedVariables false
set_option linter.unusedSimpArgs false
namespace Go.Wt
open Go Go.Ck Go.Proofs Go.Proofs.YtboepbencndobaaGreat Fx
attribute [local irreducible] Go.Ck.Sub St Cd Xt Nx DrL LsW
theorem apart_take {n : Nat} {l : List (List Item)} {k : Nat} (hk : k < l.length) : (apartE n l).take (k + 1) = (apartE n l).take k ++ [jobE n l.length k l[k]] := by
  have hlen : (apartE n l).length = l.length := by simp [apartE]
  rw [List.take_succ_eq_append_getElem (by omega)]
  congr 2
  simp [apartE]
section
variable {S : Res}
set_option maxHeartbeats 4000000 in
set_option maxRecDepth 100000 in
theorem apart_ct {av : Value} {l : List (List Item)} {n : Nat} (hA : Row S 1 (itemsR S) av l) (hl : 1 ≤ l.length ∧ l.length ≤ 8) (hl3 : ∀ x ∈ l, x.length ≤ 3) (hn : 0 < n ∧ n ≤ 12) :
    CtN Tryz.prog 30 #[av, .int .i64 n] [S] fun u T => u.oneCell' = true ∧ Row T 1 (jobR T) u (apartE n l) := by
  obtain ⟨aa, ac, hav, _⟩ := id hA
  have hlen : (apartE n l).length = l.length := by simp [apartE]
  subst hav
  refine ct_of (n := 95) Tryz.func30 rfl rfl (len rfl) fun hr w0 => ?_
  refine cS (cR (sV (vA rfl) (sN (nT (cS (cR (sV (vA rfl) (sN (nT (cS (cS (cR (sV (vM rfl) (sV (v_len rfl Tryz.underlying64) (sV (vM rfl) ?_)))))))))))))))
  refine sN (nT (cd_block (cd_vw (vw_nil 108 1) (cd_pv (pv_add (triv_star (L := []) (fun r h => by cases h))) ?_))))
  refine cd_lq (σ := Nat × Value × List Value) (fun s => [(0, .slice aa l.length ac), (1, .int .i64 n), (5, s.2.1), (13, .slice aa l.length ac), (14, .int .i64 l.length), (15, .int .i64 (s.1 : Nat))]) (fun s => VR s.2.1 108 1 (s.2.2.map fun h => [h]) :: Res.star (nrows 110 3 mC s.2.2 ((apartE n l).take s.1)) :: S :: hr) (fun s => s.1 ≤ l.length ∧ s.2.2.length = s.1 ∧ s.2.1.oneCell' = true) (fun s => l.length - s.1) (0, .slice none 0 0, []) ⟨Nat.zero_le _, rfl, rfl⟩ ?_
  rintro ⟨k, ov, hs⟩ ⟨hk, hkl, hv1⟩
  simp only at hk hkl hv1
  dsimp only
  refine cS (cR (sV (v_lss rfl rfl) (sN (nT (cS (cC rfl (fun h1 => ?_) (fun h1 => ?_)))))))
  · skip
    have hlt : k < l.length := by have := of_decide_eq_true h1; omega
    obtain ⟨c1, c2, c3, cu, hcv, hcrd, cv, hcu, hB⟩ := hA.at1 (List.getElem?_eq_getElem hlt)
    simp only [List.cons.injEq, and_true] at hcu
    subst hcu
    have hx3 := hl3 _ (List.getElem_mem hlt)
    have hsucc := apart_take (n := n) hlt
    generalize l[k] = x at *
    obtain ⟨ba, bc, rfl, _⟩ := id hB
    refine cK (xT (cS (cd_block (cS (cR (sV (vM rfl) (sV (v_indexAddr (k := k) (congrArg some hcv) rfl sl64 rfl hlt rfl) (sV (v_ldy rfl ld65) ?_))))))))
    refine sV (vA rfl) (sV (vA rfl) (sN (nK [0, 1, 5, 6, 7, 13, 14, 15] rfl (nT (cS (cR (sV (vA rfl) (sN (nT (cS (cS (cR (sV (vM rfl) (sV (v_len rfl Tryz.underlying65) (sV (vM rfl) (sN (nK [0, 1, 5, 6, 8, 13, 14, 15, 20, 21, 22] rfl (nT ?_))))))))))))))))))
    refine cd_use (job_c (w0 := w0) (S := S) (L := l.length) (n := n) (i := k) (l := x) (lv := .slice ba x.length bc) (av := .slice aa l.length ac) (w5 := ov) (w13 := .slice aa l.length ac) (w14 := .int .i64 l.length) (w15 := .int .i64 (k : Nat)) (hr := VR ov 108 1 (hs.map fun h => [h]) :: Res.star (nrows 110 3 mC hs ((apartE n l).take k)) :: hr) hB hx3 hn (by omega) (by omega) rfl fun jv hjv => ?_)
    refine xT (cR (sV (vM rfl) (sV (vM rfl) (st_buildSlice (cells := [jv]) rfl Tryz.underlying22 inf108 rfl rfl (fill_one hjv _ (by simp)) (ltn rfl) fun b91 => ?_))))
    refine st_app [[jv]] rfl rfl Tryz.underlying22 inf108 rfl (by decide) (by repeat (first | exact Sel.here | apply Sel.there)) (by simp) rfl (fun j u2 hu2 => at_here (rd_cl (by simpa using hu2))) (by simp; exact hjv) (by simp; omega) (by simp; omega) (ltn rfl) fun v' hv' _ => ?_
    refine sV (vA rfl) (sN (nK [0, 1, 5, 13, 14, 15] rfl (nx_xt (xB (xT (cR (sV (v_add rfl rfl (by unfold I64 at *; omega)) (sV (vM rfl) (sN (nK [0, 1, 5, 13, 14, 15] rfl (nx_xt ?_)))))))))))
    rw [show hs.map (fun h => [h]) ++ [[jv]] = (hs ++ [jv]).map fun h => [h] by simp]
    refine xt_pv (pv_snoc (L := nrows 110 3 mC hs ((apartE n l).take k)) (r := VR jv 110 3 ((jobE n l.length k x).map mC))) ?_
    rw [← nrows_snoc (by rw [List.length_take]; omega), ← hsucc]
    simp only [List.cons_append, List.nil_append]
    refine xt_aq (k + 1, v', hs ++ [jv]) ⟨hlt, by simp; omega, hv'⟩ (by show _ - _ < _ - _; omega)
  · skip
    refine cd_exit (xE (xE (xt_exit_block (xT (cS (cR (sV (vM rfl) (sV (vA rfl) (sN (nK [4] rfl (nT (cT ?_))))))))))))
    have hkj : k = l.length := by have : ¬ ((k : Nat) : Int) < (l.length : Int) := of_decide_eq_false h1
                                  omega
    subst hkj
    rw [← hlen, List.take_length]
    refine xt_pv (pv_add (triv_pure (φ := hs.length = (apartE n l).length) (by omega))) ?_
    refine xt_pv (pv_pack (L := NO 108 110 3 mC ov hs (apartE n l))) ?_
    refine xt_ok .here fun hok => ?_
    exact xt_rt rfl ⟨_, rfl, hv1, NO_star hok⟩ (by (repeat (refine Sub.sel (by repeat (first | exact Sel.here | apply Sel.there)) ?_)); (repeat apply Sub.cons); first | exact Sub.refl _ | exact Sub.nil _)
end
end Go.Wt
namespace Go.Wt
open Go Go.Ck Go.Proofs Go.Proofs.YtboepbencndobaaGreat Fx
attribute [local irreducible] Go.Ck.Sub St Cd Xt Nx DrL LsW
theorem kept_nr : Kept Nr := fun _ _ H N hi hg => N.step H hi hg
theorem noring_fact {y : Yard} (hR : Reach Nr y) (hr : y.right = true) : ringYE y = ([], false, 0) := by
  obtain ⟨h, H, N, rfl, _⟩ := hR
  unfold ringYE
  rw [if_pos hr, N.no_ring H]; rfl
theorem noring_new {n : Nat} {l : List (List Item)} (hc : check (apartE n l) n = 0) : Reach Nr (Yard.new (apartE n l) n) := new_reach hc (nr_new (by have := check_ok hc; omega) (apart_shape (by have := check_ok hc; omega)))
theorem noring_end {n : Nat} {l : List (List Item)} {picks : List Int} {y : Yard} {log : List Logd} (h : playedE (apartE n l) n picks = some (y, log)) :
    endedE y = (true, 0) ∧ ∀ t, t < n → (y.pr t).job < 0 ∧ (y.pr t).waits < 0 ∧ (y.pr t).holds = [] ∧ (y.pr t).lines = [] ∧ ∀ d ∈ (y.pr t).did, d.2.2.1 = false ∧ d.2.2.2 = false := by
  have hL := (played_live h).1
  obtain ⟨hc, m, g, hm, hr, rfl, _, hn⟩ := played_reach h
  have hn0 : 0 < n := by have := check_ok hc; omega
  obtain ⟨HG, N, hl, _⟩ := hr.keep kept_nr (HInv.new hc) (nr_new hn0 (apart_shape hn0))
  rw [HYard.new_len] at hl
  have hno : ∀ i, i < g.procs.length → (g.pr i).goes = false := fun i hi => by
    cases hg : (g.pr i).goes with
    | false => rfl
    | true =>
      have : i ∈ g.now.ready := mem_ready.2 ⟨hi, hg⟩
      rw [hn] at this; simp at this
  have hall := (HG.stuck hno).1.1 (N.no_ring HG)
  refine ⟨?_, fun t ht => ?_⟩
  · unfold endedE
    rw [if_pos hL.right]
    congr 1
    rw [List.all_eq_true]
    intro i hi
    have hi := List.mem_range.1 hi
    rw [HYard.now_len] at hi
    rw [HYard.now_pr]
    simpa using hall i hi
  · rw [HYard.now_pr]
    have := HG.idle5 (t := t) (by omega) (hall t (by omega))
    exact ⟨this.1, this.2.1, this.2.2.1, this.2.2.2, N.did (by omega)⟩
section
variable {S : Res}
set_option maxHeartbeats 4000000 in
set_option maxRecDepth 100000 in
theorem waitNoRing_ct {av pv : Value} {l : List (List Item)} {s : Int} {picks : List Int} (hA : Row S 1 (itemsR S) av l) (hs : 0 ≤ s ∧ s < 256) (hpk : Row S 1 (eqC iC) pv picks) (hi64 : ∀ x ∈ picks, I64 x) :
    Ct Tryz.prog 5 #[av, .int .u8 s, pv] [S] fun u h' => u = .bool true ∧ h' = [S] := by
  obtain ⟨pa, pc, hpv, _⟩ := id hpk
  have hpl := hpk.lenle
  obtain ⟨aa, ac, hav, _⟩ := id hA
  have hal := hA.lenle
  unfold maxLen at hpl hal
  subst hpv hav
  refine ct_of (n := 161) Tryz.func5 rfl rfl (len rfl) fun hr w0 => ?_
  refine cS (cR (sV (vA rfl) (sN (nT (cS (cS (cR (sV (vM rfl) (sV (v_len rfl Tryz.underlying64) (sV (v_lss rfl rfl) (sV (vM rfl) (st_cut (k := 8) (d := 34) (v := .bool (decide ((l.length : Int) < 1) || decide (8 < (l.length : Int)))) (fun hcut => bool_want (b := decide ((l.length : Int) < 1)) false (fun hg => ?_) (fun hg => ?_)) ?_))))))))))))
  · refine st_sk rfl rfl hg ?_
    refine st_sk rfl rfl hg ?_
    refine st_sk rfl rfl hg ?_
    refine sV (v_pick_true (bool_ev rfl hg) rfl) ?_
    exact hcut _ (ssub_head (by first | rfl | (rw [hg]; rfl) | simp_all) (uS rfl (uS rfl (uS rfl (ssub_refl)))))
  · skip
    refine st_vg rfl (bG rfl hg) (vM rfl) (st_vg rfl (bG rfl hg) (v_len rfl Tryz.underlying64) (st_vg rfl (bG rfl hg) (v_gtr rfl rfl) (sV (vP (bool_ev rfl hg) rfl) ?_)))
    exact hcut _ (ssub_head (by first | rfl | (rw [hg]; rfl) | simp_all) (uS rfl (uS rfl (uS rfl (ssub_refl)))))
  refine sV (vM rfl) (st_cut (k := 13) (d := 39) (v := .bool (decide ((l.length : Int) < 1) || decide (8 < (l.length : Int)) || decide (200 < (picks.length : Int)))) (fun hcut => bool_want (b := (decide ((l.length : Int) < 1) || decide (8 < (l.length : Int)))) false (fun hg => ?_) (fun hg => ?_)) ?_)
  · refine st_sk rfl rfl hg ?_
    refine st_sk rfl rfl hg ?_
    refine st_sk rfl rfl hg ?_
    refine sV (v_pick_true (bool_ev rfl hg) rfl) ?_
    exact hcut _ (ssub_head (by first | rfl | (rw [hg]; rfl) | simp_all) (uS rfl (uS rfl (uS rfl (ssub_refl)))))
  · skip
    refine st_vg rfl (bG rfl hg) (vM rfl) (st_vg rfl (bG rfl hg) (v_len rfl Tryz.underlying43) (st_vg rfl (bG rfl hg) (v_gtr rfl rfl) (sV (vP (bool_ev rfl hg) rfl) ?_)))
    exact hcut _ (ssub_head (by first | rfl | (rw [hg]; rfl) | simp_all) (uS rfl (uS rfl (uS rfl (ssub_refl)))))
  refine sN (nK [0, 1, 2, 6, 39] rfl (nT (cC rfl (fun h0 => ?_) (fun h0 => ?_))))
  · skip
    refine cS (cR (st_cl rfl rfl en13 rfl (sanity_ct) ?_))
    rintro u h' ⟨rfl, rfl⟩
    refine sV (vA rfl) (sN (nK [6] rfl (nT (cT (xR (xt_law rfl ?_))))))
    refine Sub.sel (by repeat (first | exact Sel.here | apply Sel.there)) ?_
    repeat apply Sub.cons
    exact Sub.refl _
  · skip
    simp only [Bool.or_eq_false_iff, decide_eq_false_iff_not] at h0
    obtain ⟨⟨hl1, hl8⟩, hp200⟩ := h0
    refine cK (xT (cS (cS (cR (sV (vM rfl) (sV (v_len rfl Tryz.underlying64) (sV (vM rfl) (sN (nK [0, 1, 2, 6, 41, 42, 43] rfl (nT (cd_block (cd_lq (σ := Nat) (fun k => [(0, .slice aa l.length ac), (1, .int .u8 s), (2, .slice pa picks.length pc), (41, .slice aa l.length ac), (42, .int .i64 l.length), (43, .int .i64 (k : Nat))]) (fun _ => S :: hr) (fun k => k ≤ l.length ∧ ∀ (j : Nat) x, j < k → l[j]? = some x → x.length ≤ 3) (fun k => l.length - k) 0 ⟨Nat.zero_le _, fun j x hj => absurd hj (Nat.not_lt_zero _)⟩ ?_))))))))))))
    rintro k ⟨hk, hkx⟩
    refine cS (cR (sV (v_lss rfl rfl) (sN (nT (cS (cC rfl (fun h1 => ?_) (fun h1 => ?_)))))))
    · skip
      have hlt : k < l.length := by have := of_decide_eq_true h1; omega
      obtain ⟨c1, c2, c3, cu, hcv, hcrd, cv, hcu, hB⟩ := hA.at1 (List.getElem?_eq_getElem hlt)
      simp only [List.cons.injEq, and_true] at hcu
      subst hcu
      have hget : l[k]? = some l[k] := List.getElem?_eq_getElem hlt
      generalize l[k] = x at *
      obtain ⟨ba, bc, rfl, _⟩ := id hB
      refine cK (xT (cS (cd_block (cS (cR (sV (v_indexAddr (k := k) (congrArg some hcv) rfl sl64 rfl hlt rfl) (sV (v_ldy rfl ld65) ?_)))))))
      refine sV (vA rfl) (sN (nK [0, 1, 2, 8, 41, 42, 43] rfl (nT (cS (cR (sV (vM rfl) (sV (v_len rfl Tryz.underlying65) (sV (v_gtr rfl rfl) (sN (nK [0, 1, 2, 41, 42, 43, 49] rfl (nT (cC rfl (fun h2 => ?_) (fun h2 => ?_)))))))))))))
      · skip
        refine cS (cR (st_cl rfl rfl en13 rfl (sanity_ct) ?_))
        rintro u h' ⟨rfl, rfl⟩
        simp only [List.nil_append]
        refine sV (vA rfl) (sN (nK [6] rfl (nT (cT (xt_ret_block (xR (xR (xt_ret_block (xR (xt_law rfl ?_))))))))))
        refine Sub.sel (by repeat (first | exact Sel.here | apply Sel.there)) ?_
        repeat apply Sub.cons
        exact Sub.refl _
      · skip
        refine cK (xB (xT (cR (sV (v_add rfl rfl (by unfold I64 at *; omega)) (sV (vM rfl) (sN (nK [0, 1, 2, 41, 42, 43] rfl (nx_xt (xt_aq (k + 1) ⟨hlt, fun j y hj hy => ?_⟩ (by show _ - _ < _ - _; omega))))))))))
        by_cases hjk : j = k
        · subst hjk
          rw [hget] at hy; cases hy
          have := of_decide_eq_false h2; omega
        · exact hkx j y (by omega) hy
    · skip
      have hkl : k = l.length := by have : ¬ ((k : Nat) : Int) < (l.length : Int) := of_decide_eq_false h1
                                    omega
      have hl3 : ∀ x ∈ l, x.length ≤ 3 := fun x hx => by
        obtain ⟨j, hj⟩ := List.getElem?_of_mem hx
        exact hkx j x (by have := (List.getElem?_eq_some_iff.1 hj).1; omega) hj
      have hsb := spN_bd s
      refine cd_exit (xE (xE (xt_exit_block (xT (cS (cR (sV (vM rfl) (sV (v_conv rfl Tryz.underlying5 Tryz.underlying3 (wrap_small hs)) (sV (v_remu rfl rfl (by decide)) ?_)))))))))
      refine sV (v_is (congrArg (Value.int .i64) (spN_val hs.1)) (v_add (a := 1) (b := s.tmod 6) rfl rfl (by have := spN_val hs.1; unfold I64 at *; omega))) ?_
      refine sV (vA rfl) (sN (nK [0, 2, 9] rfl (nT (cS (cR (sV (vM rfl) (sV (vM rfl) ?_)))))))
      generalize spN s = n at *
      have hn12 : n ≤ 12 := by omega
      refine st_cl rfl rfl en30 rfl (apart_ct hA (by omega) hl3 (by omega)) ?_
      rintro u h' ⟨T0, rfl, hu1, hJ⟩
      have hchk := apart_check (n := n) (l := l) (by omega) (by omega) hl3
      have hfit : Fits (apartE n l) := ⟨by have := check_ok hchk; omega, fun x hx => by have := (check_ok hchk).2.2.2.2.1 x hx; omega⟩
      have hL0 := Live.new hchk
      have hR0 := noring_new hchk
      have hnew : newY (apartE n l) n = Yard.new (apartE n l) n := by unfold newY; rw [if_pos hchk, Int.toNat_natCast]
      have hn0 : (Yard.new (apartE n l) n).procs.length = n := by simp [Yard.new]
      have hend := fun (y : Yard) (log : List Logd) => noring_end (n := n) (l := l) (picks := picks) (y := y) (log := log)
      generalize hjobs : apartE n l = jobs at *
      simp only [List.cons_append, List.nil_append]
      refine sV (vA rfl) (sN (nK [2, 9, 10] rfl (nT (cS (cR (sV (vM rfl) (sV (vM rfl) (st_cl rfl rfl en14 rfl (new_ct hJ hfit (by unfold I64; omega)) ?_))))))))
      rintro u2 h' ⟨T1, rfl, ys0, rfl, hy0⟩
      rw [hchk]
      rw [hnew] at hy0
      obtain ⟨ja, pa0, rfl, hd1, hd2⟩ := yardR_cells hy0
      generalize Yard.new jobs n = y0 at *
      have hrun : yRunE y0 picks = y0.run picks := by unfold yRunE; rw [if_pos hL0.right]
      simp only [List.cons_append, List.nil_append]
      refine sV (vM rfl) (sV (v_extract rfl rfl) (sV (v_extract rfl rfl) (st_alc al27 fun b11 => ?_)))
      refine st_stoW rfl rfl sz27 rfl (by simp [hd1, hd2]) ?_
      refine sV (vA rfl) (sN (nK [2, 9, 10, 11, 12] rfl (nT (cS (cS (cR (sV (vM rfl) (sV (v_neq rfl rfl) (sN (nK [2, 9, 10, 11, 66] rfl (nT (cd_false rfl ?_))))))))))))
      refine cK (xT (cS (cR (sV (v_ldn rfl ld27 rfl rds_pt) ?_))))
      refine sV (vM rfl) (st_cl rfl rfl en31 rfl (ctn_star (Run_ct (S := Res.star [T1, S]) (hy0.mono (rd_in .here)) (hL0.fit (by omega)) (fun _ => hL0) (by omega) (hpk.mono (rd_in (.there .here)) fun _ _ _ h => h) hi64)) ?_)
      rintro u3 h' ⟨T2, rfl, ys1, rfl, hy1⟩
      rw [hrun] at hy1 ⊢
      have hlv := run_live (picks := picks) hL0
      have hre := run_reach (picks := picks) kept_nr hR0
      generalize y0.run picks = ze at *
      obtain ⟨z, ez⟩ := ze
      simp only at hy1 hlv hre ⊢
      obtain ⟨ja1, pa1, rfl, he1, he2⟩ := yardR_cells hy1
      simp only [List.cons_append, List.nil_append]
      refine sV (vM rfl) (sV (v_extract rfl rfl) (sV (v_extract rfl rfl) (st_alc al27 fun b13 => ?_)))
      refine st_stoW rfl rfl sz27 rfl (by simp [he1, he2]) ?_
      refine sV (vA rfl) (sN (nK [2, 9, 10, 13, 14] rfl (nT (cS (cS (cR (sV (vM rfl) (sV (v_neq rfl rfl) (sN (nK [2, 9, 10, 13, 14, 74] rfl (nT (cC rfl (fun h2 => ?_) (fun h2 => ?_)))))))))))))
      · skip
        have hez : ez = 3 := by
          rcases hre with ⟨h, _⟩ | h
          · rw [h] at h2; simp at h2
          · exact h
        subst hez
        refine cS (cR (st_cl rfl rfl en13 rfl (sanity_ct) ?_))
        rintro u4 h' ⟨rfl, rfl⟩
        simp only [List.nil_append]
        refine sV (vM rfl) (st_vg rfl rfl (vM rfl) (st_vg rfl rfl (v_eql rfl rfl) (sV (v_pick_true rfl rfl) (sV (vA rfl) (sN (nK [6] rfl (nT (cT (xR (xt_law rfl ?_))))))))))
        refine Sub.sel (by repeat (first | exact Sel.here | apply Sel.there)) ?_
        repeat apply Sub.cons
        exact Sub.refl _
      · skip
        have hez : ez = 0 := by simpa using h2
        obtain ⟨hLz, hzl⟩ := hlv hez
        have hRz : Reach Nr z := by
          rcases hre with ⟨_, a⟩ | a
          · exact a
          · rw [hez] at a; cases a
        have hrg := noring_fact hRz hLz.right
        refine cK (xT (cS (cS (cR (sV (v_ldn rfl ld27 rfl rds_pt) ?_)))))
        refine st_cl rfl rfl en32 rfl (Ring_ct hy1 (hLz.fit (by omega))) ?_
        rintro u4 h' ⟨T3, rfl, v4, rfl, hT3⟩
        subst hT3
        rw [hrg]
        simp only [List.cons_append, List.nil_append]
        refine sV (vM rfl) (sV (v_extract rfl rfl) (sV (v_extract rfl rfl) (sV (v_extract rfl rfl) (sV (vA rfl) (sV (vA rfl) (sV (vA rfl) (sN (nK [2, 9, 10, 16, 17] rfl (nT (cS (cR (sV (vM rfl) (sV (v_neq rfl rfl) (sV (vM rfl) (st_vg rfl rfl (vM rfl) ?_)))))))))))))))
        refine sV (vP rfl rfl) (sN (nK [2, 9, 10, 90] rfl (nT (cd_false rfl ?_))))
        refine cK (xT (cS (cR (sV (vM rfl) (sV (vM rfl) (sV (vM rfl) (st_cl rfl rfl en33 rfl (ctn_star (played2_ct (S := Res.star [T0, S]) (jobsR.mono (rd_in .here) hJ) hfit hn12 (hpk.mono (rd_in (.there .here)) fun _ _ _ h => h) (by omega) hi64)) ?_)))))))
        rintro u5 h' ⟨T4, rfl, ja2, pa2, v2, bb, y, rfl, hy, hf1, hf2, hbb⟩
        obtain ⟨_, _, heq, hj2, hp2⟩ := id hy
        simp only [List.cons.injEq, and_true] at heq
        obtain ⟨rfl, rfl⟩ := heq
        obtain ⟨p2a, p2c, rfl, _⟩ := id hp2
        simp only [List.cons_append, List.nil_append]
        refine sV (vM rfl) (sV (v_extract rfl rfl) (sV (v_extract rfl rfl) (sV (v_extract rfl rfl) (st_alc al27 fun b18 => ?_))))
        refine st_stoW rfl rfl sz27 rfl (by simp [hf1, hf2]) ?_
        refine sV (vA rfl) (sV (vA rfl) (sN (nK [9, 18, 20] rfl (nT (cS (cS (cR (sV (vM rfl) (sV (v_not rfl) (sN (nK [9, 18, 100] rfl (nT (cC rfl (fun h3 => ?_) (fun h3 => ?_))))))))))))))
        · skip
          refine cS (cR (st_cl rfl rfl en13 rfl (sanity_ct) ?_))
          rintro u6 h' ⟨rfl, rfl⟩
          simp only [List.nil_append]
          refine sV (vA rfl) (sN (nK [6] rfl (nT (cT (xR (xt_law rfl ?_))))))
          refine Sub.sel (by repeat (first | exact Sel.here | apply Sel.there)) ?_
          repeat apply Sub.cons
          exact Sub.refl _
        · skip
          obtain ⟨log, hpe⟩ := hbb (by simpa using h3)
          obtain ⟨hL, _, hn2, hpn⟩ := played_live hpe
          obtain ⟨hee, hall⟩ := hend y log hpe
          have hni : (y.procs.length : Int) = n := by omega
          refine cK (xT (cS (cR (sV (v_ldn rfl ld27 rfl rds_pt) ?_))))
          refine st_clr rfl rfl en24 rfl (Ended_ct hy (hL.fit (by omega))) ?_
          rw [hee]
          refine sV (vM rfl) (sV (v_extract rfl rfl) (sV (v_extract rfl rfl) (sV (vA rfl) (sV (vA rfl) (sN (nK [9, 18, 21, 22] rfl (nT (cS (cS (cR (sV (vM rfl) (sV (v_neq rfl rfl) (sV (vM rfl) (st_vg rfl rfl (vM rfl) (st_vg rfl rfl (v_not rfl) ?_)))))))))))))))
          refine sV (vP rfl rfl) (sV (vM rfl) (st_vg rfl rfl (vF rfl fa27_1 rfl) (st_vg rfl rfl (v_ldy rfl ld25) ?_)))
          refine st_vg rfl rfl (v_len rfl Tryz.underlying25) (st_vg rfl rfl (vM rfl) (st_vg rfl rfl (v_neq rfl rfl) (sV (vP rfl rfl) (sN (nK [18, 119] rfl (nT (cC rfl (fun h4 => ?_) (fun h4 => ?_))))))))
          · rw [hni] at h4; simp at h4
          · skip
            refine cK (xT (cS (cS (cR (sV (vF rfl fa27_1 rfl) (sV (v_ldy rfl ld25) ?_))))))
            refine sV (v_len rfl Tryz.underlying25) (sV (vM rfl) (sN (nK [121, 122, 123] rfl (nT (cd_block (cd_lq (σ := Nat) (fun t => [(121, .slice p2a y.procs.length p2c), (122, .int .i64 y.procs.length), (123, .int .i64 (t : Nat))]) (fun _ => pt b18 (cl [ja2, .slice p2a y.procs.length p2c] 27) :: T4 :: S :: hr) (fun t => t ≤ y.procs.length) (fun t => y.procs.length - t) 0 (Nat.zero_le _) ?_))))))
            rintro t ht
            refine cS (cR (sV (v_lss rfl rfl) (sN (nT (cS (cC rfl (fun h5 => ?_) (fun h5 => ?_)))))))
            · skip
              have htl : t < y.procs.length := by have := of_decide_eq_true h5; omega
              obtain ⟨a1, a2, a3, a4, a5⟩ := hall t (by omega)
              have hfd := (full_false hL.nf htl).1
              obtain ⟨zb, zo, zcp, zus, hzv, hzus, hzrd, zlv, zpv, zhv, zdv, rfl, hzL, hzP, hzH, hzD⟩ := hp2.at (List.getElem?_eq_getElem htl)
              rw [← pr_get htl] at hzL hzP hzH hzD hzrd
              rw [← pr_get htl] at hzus
              generalize y.pr t = p at *
              obtain ⟨lna, lnc, rfl, _⟩ := id hzL
              obtain ⟨pna, pnc, rfl, _⟩ := id hzP
              obtain ⟨hna, hnc, rfl, _⟩ := id hzH
              obtain ⟨dna, dnc, rfl, _⟩ := id hzD
              have g1 : Value.bool (decide ((0 : Int) ≤ p.job)) = .bool false := by rw [decide_eq_false (by omega)]
              have g2 : Value.bool (decide ((0 : Int) ≤ p.waits)) = .bool false := by rw [decide_eq_false (by omega)]
              have hh0 : p.holds.length = 0 := by rw [a3]; rfl
              have hl0 : p.lines.length = 0 := by rw [a4]; rfl
              have g3 : Value.bool (decide ((0 : Int) < (p.holds.length : Int) + (p.lines.length : Int))) = .bool false := by rw [a3, a4]; rfl
              refine cK (xT (cS (cd_block (cS (cR (sV (v_indexAddr (k := t) (congrArg some hzv) rfl sl25 rfl htl rfl) (sV (v_ldn rfl ld77 hzus hzrd) ?_)))))))
              refine st_alc al77 fun b24 => ?_
              refine st_stoW rfl rfl sz77 rfl rfl ?_
              refine sN (nK [24, 121, 122, 123] rfl (nT (cS (cS (cR (sV (vF rfl fa77_2 rfl) (sV (v_ldy rfl ld3) ?_)))))))
              refine sV (v_is g1 (v_geq rfl rfl)) (sV (vM rfl) (st_vg rfl rfl (vF rfl fa77_6 rfl) (st_vg rfl rfl (v_ldy rfl ld3) ?_)))
              refine st_vg rfl rfl (v_is g2 (v_geq rfl rfl)) (sV (vP rfl rfl) (sV (vM rfl) (st_vg rfl rfl (vF rfl fa77_5 rfl) (st_vg rfl rfl (v_ldy rfl ld75) ?_))))
              refine st_vg rfl rfl (v_len rfl Tryz.underlying75) (st_vg rfl rfl (vF rfl fa77_0 rfl) (st_vg rfl rfl (v_ldy rfl ld73) ?_))
              refine st_vg rfl rfl (v_len rfl Tryz.underlying73) (st_vg rfl rfl (v_add rfl rfl (by unfold I64 at *; omega)) (st_vg rfl rfl (v_is g3 (v_gtr rfl rfl)) (sV (vP rfl rfl) (sN (nK [24, 121, 122, 123, 144] rfl (nT (cd_false rfl ?_)))))))
              refine cK (xT (cS (cR (sV (vF rfl fa77_8 rfl) (sV (v_ldy rfl ld62) ?_)))))
              refine sV (v_len rfl Tryz.underlying62) (sV (vM rfl) (sN (nK [121, 122, 123, 146, 147, 148] rfl (nT (cd_block (cd_lq (σ := Nat) (fun k => [(121, .slice p2a y.procs.length p2c), (122, .int .i64 y.procs.length), (123, .int .i64 (t : Nat)), (146, .slice dna p.did.length dnc), (147, .int .i64 p.did.length), (148, .int .i64 (k : Nat))]) (fun _ => pt b18 (cl [ja2, .slice p2a y.procs.length p2c] 27) :: T4 :: S :: hr) (fun k => k ≤ p.did.length) (fun k => p.did.length - k) 0 (Nat.zero_le _) ?_))))))
              rintro k hk2
              refine cS (cR (sV (v_lss rfl rfl) (sN (nT (cS (cC rfl (fun h6 => ?_) (fun h6 => ?_)))))))
              · skip
                have hkl2 : k < p.did.length := by have := of_decide_eq_true h6; omega
                obtain ⟨c1, c2, c3, cus, hcv, hcus, hcrd, rfl⟩ := hzD.at (List.getElem?_eq_getElem hkl2)
                have hd := a5 _ (List.getElem_mem hkl2)
                generalize p.did[k] = d at *
                obtain ⟨dk, dj, dl, df⟩ := d
                obtain ⟨rfl, rfl⟩ := hd
                refine cK (xT (cS (cd_block (cS (cR (sV (v_indexAddr (k := k) (congrArg some hcv) rfl sl62 rfl hkl2 rfl) (sV (v_ldn rfl ld81 hcus hcrd) ?_)))))))
                refine st_alc al81 fun b26 => ?_
                refine st_stoW rfl rfl sz81 rfl rfl ?_
                refine sN (nK [26, 121, 122, 123, 146, 147, 148] rfl (nT (cS (cR (sV (vF rfl fa81_2 rfl) (sV (v_ldy rfl ld4) ?_))))))
                refine sV (vM rfl) (st_vg rfl rfl (vF rfl fa81_3 rfl) (st_vg rfl rfl (v_ldy rfl ld4) ?_))
                refine sV (vP rfl rfl) (sN (nK [121, 122, 123, 146, 147, 148, 157] rfl (nT (cd_false rfl ?_))))
                refine cK (xB (xT (cR (sV (v_add rfl rfl (by unfold I64 at *; omega)) (sV (vM rfl) (sN (nK [121, 122, 123, 146, 147, 148] rfl (nx_xt ?_))))))))
                refine xt_aq (k + 1) hkl2 (by show _ - _ < _ - _; omega)
              · skip
                refine cd_exit (xE (xE (xt_exit_block (xB (xT (cR (sV (v_add rfl rfl (by unfold I64 at *; omega)) (sV (vM rfl) (sN (nK [121, 122, 123] rfl (nx_xt ?_)))))))))))
                refine xt_aq (t + 1) htl (by show _ - _ < _ - _; omega)
            · skip
              refine cd_exit (xE (xE (xt_exit_block (xT (cS (cR (st_cl rfl rfl en13 rfl (sanity_ct) ?_)))))))
              rintro u6 h' ⟨rfl, rfl⟩
              simp only [List.nil_append]
              refine sV (vA rfl) (sN (nK [6] rfl (nT (cT (xt_law rfl ?_)))))
              refine Sub.sel (by repeat (first | exact Sel.here | apply Sel.there)) ?_
              repeat apply Sub.cons
              exact Sub.refl _
end
end Go.Wt
namespace Go.Proofs.YtboepbencndobaaGreat
open Go Go.RowKit Go.ChangeShapes Go.WideShapes Go.Ck Go.Wt
set_option maxRecDepth 100000 in
theorem waitNoRing_lifted (os : Os) (started : os.Started) (H : Type) (enc : TypeId × Value → H) :
    ReturnsInHanded {} Tryz.checked os 5 .any (Rows.waitNoRingSpec.pre6 enc Tryz.prog Tryz.f5 Rows.waitNoRingRow.domain false) (Rows.waitNoRingSpec.post enc Tryz.prog Tryz.f5 false true false false) := by
  refine returnsInHanded_of_change (C := Tryz.checked) (show ownKnob Tryz.prog.godebug = none by kernel_rfl) started (by kernel_rfl) Tryz.func5
    (ChangeSpec.witness6 (enc := enc) (C := Tryz.checked) false ⟨#[], #[.slice none 0 0, .int .u8 0, .slice none 0 0], []⟩ 8 (by kernel_rfl) (by kernel_rfl) (by kernel_rfl) (by kernel_rfl)) ?_
  intro W base args ds gs before hval0 hW hcnd _
  have hval : ∀ (j : Nat) t v, Tryz.f5.params[j]? = some t → args[j]? = some v → Value.okWide Tryz.prog W .any base t v := hval0
  have hW' := hW
  obtain ⟨p, q, hA0, hV, rfl, hfz, hnd⟩ := hW
  have hA : DataW.TrodAll enc Tryz.prog W 0 (fun _ => true) true Tryz.f5.params.toList args.toList ds p := hA0
  rw [Tryz.params5] at hA hval
  obtain ⟨v0, vs0, d0, ds0, p0, q0, hargs, rfl, rfl, h0, r0⟩ := trodAll_cons hA
  obtain ⟨v1, vs1, d1, ds1, p1, q1, rfl, rfl, rfl, h1, r1⟩ := trodAll_cons r0
  obtain ⟨v2, vs2, d2, ds2, p2, q2, rfl, rfl, rfl, h2, r2⟩ := trodAll_cons r1
  obtain ⟨rfl, rfl, rfl⟩ := trodAll_nil r2
  obtain rfl : args = #[v0, v1, v2] := by cases args; simp_all
  obtain ⟨rfl, rfl⟩ := trodVars_none hV
  obtain ⟨y0, e0⟩ := arg_one (ty := .slice (.slice itemTy)) (by kernel_rfl) (by kernel_rfl) (hval 0 64 v0 rfl rfl) h0
  obtain ⟨y1, e1⟩ := arg_one (ty := .int .u8) (by kernel_rfl) (by kernel_rfl) (hval 1 5 v1 rfl rfl) h1
  obtain ⟨y2, e2⟩ := arg_one (ty := intsTy) (by kernel_rfl) (by kernel_rfl) (hval 2 43 v2 rfl rfl) h2
  have s0 := items_of e0
  obtain ⟨rfl, w1⟩ := rep_kind e1
  obtain ⟨s2, a2⟩ := ints_of e2
  refine (ct_calls (waitNoRing_ct s0 (wf_u8 w1) s2 a2) fun v h' h => ⟨h.1, by rw [h.2]; exact .refl _⟩).mono fun e W' ⟨he, hk⟩ => ⟨_, he, ?_⟩
  exact law_post (tys := [.slice (.slice itemTy), .int .u8, intsTy]) hW' rfl (by kernel_rfl) Tryz.underlying4 (by rw [Tryz.params5]; kernel_rfl) rfl hk
theorem waitNoRing_holds : Rows.WaitNoRingSaid :=
  OpenClaim.holds_of_wide 5 Tryz.f5 rfl rfl rfl rfl rfl rfl rfl ⟨rfl, rfl, rfl, rfl, rfl⟩ rfl rfl rfl rfl rfl (by kernel_rfl) Tryz.func5 (by kernel_rfl)
    (of_decide_eq_true (by kernel_rfl)) (by unfold Func.isWrapper; first | (rw [if_pos (by decide +kernel)]; kernel_rfl) | (rw [if_neg (by decide +kernel)]; exact ⟨rfl, rfl⟩))
    (fun os started H enc _ => waitNoRing_lifted os started H enc)
end Go.Proofs.YtboepbencndobaaGreat
