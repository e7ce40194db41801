/-
  The reference: Orders, Replay. Conditions: what is read, that lists are not too long.
  Package wait: Replay. Conditions: what is read.
  WaitReplays: for every input the law answers true. Conditions: what is read, that numbers are those of the machine.
  What the orders of WaitReplays read as. No condition.
  WaitReplays: for every input the law answers true, and the input reads as it did. No condition.
-/
import Derived.Test.YtboepbencndobaaGreatM13
import Derived.Test.YtboepbencndobaaGreatM12
import Derived.Test.YtboepbencndobaaGreatM10
import Derived.Test.YtboepbencndobaaGreatM11
import Derived.Test.YtboepbencndobaaGreatM7
import Derived.Test.YtboepbencndobaaGreatRows
set_option linter.unusedVariables false
set_option linter.unusedSimpArgs false
namespace Go.Wt
open Go Go.Ck Go.Proofs Go.Proofs.YtboepbencndobaaGreat Fx
attribute [local irreducible] Go.Ck.Sub St Cd Xt Nx DrL LsW
section
variable {S : Res}
set_option maxRecDepth 100000 in
theorem rOrders_ct {ys : List Value} {y : Yard} (hy : yardR S ys y) (hf : Fit y) : CtN Tryz.prog 39 #[.agg ys.toArray] [S] fun u T => ∃ v, u = .agg #[v, .int .i64 (ordersE y).2] ∧ Row (Res.star [T, S]) 1 (nR (Res.star [T, S]) 2 kC) v (ordersE y).1 := by
 obtain ⟨jv, pv, rfl, hj, hp⟩ := id hy
 obtain ⟨aj, cj, rfl, _⟩ := id hj
 obtain ⟨ap, cp, rfl, _⟩ := id hp
 have hfp := hf.2.1
 unfold ordersE
 refine ct_of (n := 32) Tryz.func39 rfl rfl (len rfl) fun hr w0 => ?_
 refine cS (cR (st_bx rfl rfl fun b1 => ?_))
 refine st_alc al96 fun b2 => ?_
 refine sN (nK [1, 2] rfl (nT (cS (cR (sV (v_ldn rfl ld27 rfl rds_pt) ?_)))))
 refine st_clr rfl rfl en73 rfl (rRight_ct hy hf) ?_
 refine sV (vA rfl) (sN (nK [1, 2, 3] rfl (nT (cS (cS (cR (sV (vM rfl) (sV (v_neq rfl rfl) (sN (nK [1, 2, 3, 9] rfl (nT (cC rfl (fun h1 => ?_) (fun h1 => ?_)))))))))))))
 ·skip
  have hyr : y.right = false := by
   cases hyr : y.right with
   | false => rfl
   | true => rw [hyr] at h1; cases h1
  rw [hyr]
  refine cS (cR (sV (vM rfl) (sV (v_build (cells := [.slice none 0 0, .int .i64 2]) rfl (fun _ => by kernel_rfl)) ?_)))
  refine st_stoW rfl rfl sz96 rfl rfl ?_
  refine sN (nK [2] rfl (nT (cT (xR (xt_vw (vw_pure (φ := True) trivial) ?_)))))
  exact xt_retV (.cellN rfl ld96 rfl slq .nil) ⟨pureR True, rfl, .slice none 0 0, rfl, Row.nil⟩ sbr
 ·skip
  have hyr : y.right = true := by
   cases hyr : y.right with
   | true => rfl
   | false => rw [hyr] at h1; cases h1
  rw [if_pos hyr]
  refine cK (xT (cS (cR (sV (v_build (cells := [.slice none 0 0, .int .i64 0]) rfl (fun _ => by kernel_rfl)) ?_))))
  refine st_alc al96 fun b4 => ?_
  refine st_stoW rfl rfl sz96 rfl rfl ?_
  refine sN (nK [1, 2, 4] rfl (nT (cS (cS (cR (sV (vA rfl) (sN (nT (cB (cd_vw (vw_nil 74 1) (cd_lq (σ := Nat × Value × List Value) (fun s => [(1, .pointer (some ⟨b1, 0, none⟩)), (2, .pointer (some ⟨b2, 0, none⟩)), (4, .pointer (some ⟨b4, 0, none⟩)), (5, .int .i64 (s.1 : Nat))]) (fun s => pt b4 (cl [s.2.1, .int .i64 0] 96) :: VR s.2.1 74 1 (s.2.2.map fun h => [h]) :: pt b1 (cl [.slice aj y.jobs.length cj, .slice ap y.procs.length cp] 27) :: pt b2 (cl [.slice none 0 0, .int .i64 0] 96) :: S :: hr) (fun s => s.1 ≤ y.procs.length ∧ s.2.2.length = s.1 ∧ s.2.1.oneCell' = true ∧ ∀ (j : Nat) h (hj : j < y.procs.length), s.2.2[j]? = some h → Row S 2 (eqC kC) h (y.procs[j]).puts) (fun s => y.procs.length - s.1) (0, .slice none 0 0, []) ⟨Nat.zero_le _, rfl, rfl, fun j h hj hh => by simp at hh⟩ ?_)))))))))))
  rintro ⟨k, v, hs⟩ ⟨hk, hkl, h1, hall⟩
  simp only at hk hkl h1 hall
  dsimp only
  refine cS (cS (cR (sV (vM rfl) (sV (vF rfl fa27_1 rfl) (sV (vY rfl ld25) ?_)))))
  refine sV (v_len rfl Tryz.underlying25) (sV (v_lss rfl rfl) (sN (nK [1, 2, 4, 5, 17] rfl (nT (cC rfl (fun hd => ?_) (fun hd => ?_))))))
  ·skip
   have hlt : k < y.procs.length := by simpa using hd
   obtain ⟨b, off, cp2, us, hv2, hus, hrd, lv, pv', hv, dv, rfl, hL, hP, hH, hD⟩ := hp.at (List.getElem?_eq_getElem hlt)
   obtain ⟨pa, pc, rfl, _⟩ := id hP
   refine cK (xT (cS (cB (cd_drawh (ork [(0, 2), (1, 1), (2, 2), (3, 1), (4, 2), (5, 2), (6, 2), (7, 1), (8, 0), (9, 0), (10, 2), (11, 0)] .nil) (fun i => !(Nat.beq i 9 || Nat.beq i 11)) mixed (by kernel_rfl) ?_))))
   refine dV rfl (vF rfl fa96_0 rfl) (dr_v rfl (vY rfl ld92) ?_)
   refine dV rfl (vF rfl fa27_1 rfl) (dr_v rfl (vY rfl ld25) ?_)
   refine dV rfl (vM rfl) (dV rfl (vI (k := k) (congrArg some hv2) rfl sl25 rfl hlt rfl) (dV rfl (vF rfl fa77_1 rfl) (dr_v rfl (vY rfl ld74) ?_)))
   refine dr_eff rfl (st_buildSlice (cells := [.slice pa (y.procs[k]).puts.length pc]) rfl Tryz.underlying92 inf74 rfl rfl (by kernel_rfl) (ltn rfl) fun b28 => dr_nx ?_)
   refine dr_eff rfl (st_app (v := v) [[.slice pa (y.procs[k]).puts.length pc]] rfl rfl Tryz.underlying92 inf74 rfl (by decide) slq (by simp) rfl (fun j u2 hu2 => at_here (rd_cl (by simpa using hu2))) (by simp [Value.oneCell']) (by simp; omega) (by simp; omega) (ltn rfl) fun v' hv' _ => dr_nx ?_)
   refine dV rfl (vF rfl fa96_0 rfl) (dr_eff rfl (st_sto rfl rfl sz92 (dr_nx ?_)))
   refine dr_nil (nK [1, 2, 4, 5] rfl (nx_xt (xB (xT (cR (sV (vM rfl) (sV (v_add rfl rfl (by unfold I64 at *; omega)) (sV (vA rfl) (sN (nK [1, 2, 4, 5] rfl (nx_xt ?_)))))))))))
   rw [show hs.map (fun h => [h]) ++ [[Value.slice pa (y.procs[k]).puts.length pc]] = (hs ++ [Value.slice pa (y.procs[k]).puts.length pc]).map fun h => [h] by simp]
   refine xt_aq (k + 1, v', hs ++ [.slice pa (y.procs[k]).puts.length pc]) ⟨hlt, by simp; omega, hv', fun j h hj' hh => ?_⟩ (by show _ - _ < _ - _; omega)
   by_cases hjk : j < hs.length
   ·rw [List.getElem?_append_left hjk] at hh; exact hall j h hj' hh
   ·rw [List.getElem?_append_right (by omega)] at hh
    have hj0 : j = k := by
     have := (List.getElem?_eq_some_iff.1 hh).1
     simp at this; omega
    subst hj0
    rw [hkl, Nat.sub_self] at hh
    cases hh; exact hP
  ·skip
   have hkj : k = y.procs.length := by
    have : ¬ k < y.procs.length := by simpa using hd
    omega
   subst hkj
   refine cd_rowf (v := v) slq (fun va vc hve _ _ => ?_)
   generalize (hs.map fun h => [h]).length = vn at hve
   subst hve
   refine cd_exit (xE (xE (xY (xT (cS (cR (sV (v_ldn rfl ld96 rfl rds_pt) ?_)))))))
   refine st_stoW rfl rfl sz96 rfl rfl ?_
   refine sN (nK [2] rfl (nT (cT (xt_ok (r := VR (.slice va vn vc) 74 1 (hs.map fun h => [h])) slq fun hok => ?_))))
   have hfin : Row (Res.star [VR (.slice va vn vc) 74 1 (hs.map fun h => [h]), S]) 1 (nR (Res.star [VR (.slice va vn vc) 74 1 (hs.map fun h => [h]), S]) 2 kC) (.slice va vn vc) (y.procs.map (·.puts)) :=
    row_vr hok (by simp [hkl]) (rd_in .here) fun i us x g1 g2 => by
     have hil : i < y.procs.length := by have := (List.getElem?_eq_some_iff.1 g2).1; simpa using this
     have hhi : hs[i]? = some hs[i] := List.getElem?_eq_getElem (by omega)
     simp only [List.getElem?_map, hhi, Option.map_some, Option.some.injEq] at g1
     simp only [List.getElem?_map, List.getElem?_eq_getElem hil, Option.map_some, Option.some.injEq] at g2
     subst g1 g2
     exact ⟨_, rfl, (hall i _ hil hhi).mono (rd_in (.there .here)) fun _ _ _ h => h⟩
   exact xt_retV (.cellN rfl ld96 rfl slq .nil) ⟨_, rfl, .slice va vn vc, rfl, hfin⟩ sbr
theorem right_holds {y : Yard} (h : y.right = true) : ∀ p ∈ y.procs, p.holds.length ≤ 20 := fun p hp => by
 obtain ⟨i, hi, rfl⟩ := List.getElem_of_mem hp
 have hr := right_pr h hi
 rw [right_g] at hr
 simp only [Bool.and_eq_true, Bool.not_eq_true'] at hr
 have h3 := hr.1.2
 unfold Proc.g3 at h3
 simp only [Bool.or_eq_false_iff, decide_eq_false_iff_not] at h3
 omega
theorem find_ready {y : Yard} {g : Nat → Bool} {i : Nat} (h : y.ready.find? g = some i) : i < y.procs.length ∧ (y.pr i).goes = true := by
 have hm := List.mem_of_find?_eq_some h
 have h2 : i ∈ (List.range y.procs.length).filter fun i => (y.pr i).goes := hm
 rw [List.mem_filter] at h2
 exact ⟨List.mem_range.1 h2.1, h2.2⟩
structure RY (S T : Res) (jv pv : Value) (z : Yard) (jobs : List (List Move)) (n M : Nat) : Prop where
 live : Live z M
 jobs : z.jobs = jobs
 len : z.procs.length = n
 row : Row T 9 (procR T) pv z.procs
theorem RY.yard {S T : Res} {jv pv : Value} {z : Yard} {jobs : List (List Move)} {n M : Nat} (h : RY S T jv pv z jobs n M) (hj : Row S 1 (jobR S) jv jobs) : yardR (Res.star [T, S]) [jv, pv] z :=
 ⟨jv, pv, rfl, by rw [h.jobs]; exact jobsR.mono (rd_in (.there .here)) hj, procsR.mono (rd_in .here) h.row⟩
theorem RY.step_ct {S T : Res} {jv pv : Value} {z : Yard} {jobs : List (List Move)} {n M i : Nat} (h : RY S T jv pv z jobs n M) (hM : M ≤ 800000) (hj : Row S 1 (jobR S) jv jobs) (hi : i < n) (hg : (z.pr i).goes = true) : CtN Tryz.prog 91 #[.agg #[jv, pv], .int .i64 i] [T, S] (stepV jv (z.stepE i)) := by
 have hL := h.live
 have hlen := h.len
 have h12 := hL.len_pos
 exact ctn_star (rstep_ct (h.yard hj) (hL.fit (by omega)) (by have := hL.bd (B := 900000) (by omega) (by omega); rw [hlen] at this; exact this) (by omega) hi (fun hjb => right_job hL.right hlen hi hjb) (goes_lines hg) fun hf => right_holds (hL.step (by omega) hg hf).right)
theorem stepE_eq0 {z : Yard} {i : Nat} (h : (z.stepE i).2 = 0) : (z.stepE i).1 = z.step i := by
 unfold Yard.stepE at h ⊢
 split
 ·rename_i hf; rw [if_pos hf] at h; cases h
 ·rfl
end
section
variable {S : Res}
set_option maxHeartbeats 4000000 in
set_option maxRecDepth 100000 in
theorem rReplay_ct {jv ov : Value} {jobs : List (List Move)} {orders : List (List Key)} {steps : Int} (hj : Row S 1 (jobR S) jv jobs) (hf : Fits jobs) (ho : Row S 1 (nR S 2 kC) ov orders) (hol : orders.length ≤ 1000000) (hol2 : ∀ l ∈ orders, l.length ≤ 1000000) :
  CtN Tryz.prog 41 #[jv, ov, .int .i64 steps] [S] fun u T => ∃ ys', u = .agg (ys' ++ [.int .i64 (replayE jobs orders steps).2]).toArray ∧ yardR (Res.star [T, S]) ys' (replayE jobs orders steps).1 := by
 obtain ⟨oa, oc, rfl, _⟩ := id ho
 obtain ⟨ja, jc, rfl, _⟩ := id hj
 generalize hR0 : replayE jobs orders steps = R0
 unfold replayE at hR0
 have hbad3 : ∀ (i : Nat) (hi : i < orders.length), ¬ (orders[i]).length ≤ 400 → R0 = (Yard.nil, 3) := fun i hi hn => by
  rw [← hR0, if_pos]
  unfold tooMany
  rw [Bool.or_eq_true]
  right
  rw [Bool.not_eq_true', all_bad (g := fun l : List Key => decide ((l.length : Int) ≤ 400)) hi (by rw [decide_eq_false_iff_not]; omega)]
 refine ct_of (n := 94) Tryz.func41 rfl rfl (len rfl) fun hr w0 => ?_
 refine cS (cR (st_alc al32 fun b6 => ?_))
 refine sN (nT (cS (cS (cR (sV (vM rfl) (sV (v_len rfl Tryz.underlying92) (sV (v_gtr rfl rfl) (sN (nK [0, 1, 2, 6, 14] rfl (nT (cC rfl (fun h1 => ?_) (fun h1 => ?_))))))))))))
 ·skip
  have hr : R0 = (Yard.nil, 3) := by
   rw [← hR0, if_pos]
   unfold tooMany
   rw [show decide (12 < (orders.length : Int)) = true from h1]; rfl
  subst hr
  refine cS (cR (sV (v_build (cells := [.slice none 0 0, .slice none 0 0, .int .i64 3]) rfl (fun _ => by kernel_rfl)) ?_))
  refine st_stoW rfl rfl sz32 rfl rfl ?_
  refine sN (nK [6] rfl (nT (cT (xR (xt_vw (vw_pure (φ := True) trivial) ?_)))))
  exact xt_retV (.cellN rfl ld32 rfl slq .nil) ⟨pureR True, rfl, [.slice none 0 0, .slice none 0 0], rfl, nil_yard _⟩ sbr
 ·skip
  have hn12 : orders.length ≤ 12 := by have := of_decide_eq_false h1; omega
  refine cK (xT (cS (cS (cR (sV (vA rfl) (sN (nK [0, 1, 2, 6, 7] rfl (nT (cB (cd_lq (σ := Nat) (fun i => [(0, .slice ja jobs.length jc), (1, .slice oa orders.length oc), (2, .int .i64 steps), (6, .pointer (some ⟨b6, 0, none⟩)), (7, .int .i64 (i : Nat))]) (fun _ => pt b6 (cl [.slice none 0 0, .slice none 0 0, .int .i64 0] 32) :: S :: hr) (fun i => i ≤ orders.length ∧ ∀ (j : Nat) (hj : j < orders.length), j < i → decide (((orders[j]).length : Int) ≤ 400) = true) (fun i => orders.length - i) 0 ⟨Nat.zero_le _, fun j _ hj => by omega⟩ ?_))))))))))
  rintro i ⟨hi, hall⟩
  refine cS (cS (cR (sV (vM rfl) (sV (vM rfl) (sV (v_len rfl Tryz.underlying92) (sV (v_lss rfl rfl) (sN (nK [0, 1, 2, 6, 7, 19] rfl (nT (cC rfl (fun hd => ?_) (fun hd => ?_)))))))))))
  ·skip
   have hlt : i < orders.length := by simpa using hd
   obtain ⟨bo, oo, co, uo, hov, hrdo, uo2, huo, hO⟩ := ho.at1 (List.getElem?_eq_getElem hlt)
   simp only [List.cons.injEq, and_true] at huo
   subst huo
   obtain ⟨oa2, oc2, rfl, _⟩ := id hO
   refine cK (xT (cS (cB (cS (cR (sV (vM rfl) (sV (vM rfl) (sV (vI (k := i) (congrArg some hov) rfl sl92 rfl hlt rfl) (sV (vY rfl ld74) ?_)))))))))
   refine sV (v_len rfl Tryz.underlying74) (sV (v_gtr rfl rfl) (sN (nK [0, 1, 2, 6, 7, 27] rfl (nT (cC rfl (fun h2 => ?_) (fun h2 => ?_))))))
   ·skip
    have hr := hbad3 i hlt (by have := of_decide_eq_true h2; omega)
    subst hr
    refine cS (cR (sV (v_build (cells := [.slice none 0 0, .slice none 0 0, .int .i64 3]) rfl (fun _ => by kernel_rfl)) ?_))
    refine st_stoW rfl rfl sz32 rfl rfl ?_
    refine sN (nK [6] rfl (nT (cT (xW (xR (xR (xW (xR (xt_vw (vw_pure (φ := True) trivial) ?_)))))))))
    exact xt_retV (.cellN rfl ld32 rfl slq .nil) ⟨pureR True, rfl, [.slice none 0 0, .slice none 0 0], rfl, nil_yard _⟩ sbr
   ·skip
    refine cK (xB (xT (cR (sV (vM rfl) (sV (v_add rfl rfl (by unfold I64 at *; omega)) (sV (vA rfl) (sN (nK [0, 1, 2, 6, 7] rfl (nx_xt (xt_aq (i + 1) ⟨hlt, fun j hj' hji => ?_⟩ (by show _ - _ < _ - _; omega)))))))))))
    by_cases hjk : j = i
    ·subst hjk; have := of_decide_eq_false h2; exact decide_eq_true (by omega)
    ·exact hall j hj' (by omega)
  ·skip
   have hil : i = orders.length := by
    have : ¬ i < orders.length := by simpa using hd
    omega
   have hnt : tooMany orders = false := by
    unfold tooMany
    rw [show decide (12 < (orders.length : Int)) = false from h1, all_good (g := fun l : List Key => decide ((l.length : Int) ≤ 400)) (fun j hj' => hall j hj' (by omega))]; rfl
   rw [if_neg (by rw [hnt]; decide), firstE_two] at hR0
   refine cd_exit (xE (xE (xY (xT (cS (cR (sV (vM rfl) (sV (vM rfl) (sV (v_len rfl Tryz.underlying92) (st_cl rfl rfl en15 rfl (rnew0_ct hj hf (by unfold I64; omega)) ?_))))))))))
   rintro u h' ⟨T0, rfl, hnv⟩
   rcases hnv with ⟨hck, rfl⟩ | ⟨hck, pv0, rfl, hrow0⟩
   ·skip
    generalize check jobs orders.length = e1 at *
    rw [if_neg hck, if_pos hck] at hR0
    subst hR0
    simp only [List.cons_append, List.nil_append]
    refine st_alc al32 fun b8 => ?_
    refine st_stoW rfl rfl sz32 rfl rfl ?_
    refine sN (nK [1, 2, 6, 8] rfl (nT (cS (cS (cR (sV (vF rfl fa32_1 rfl) (sV (vY rfl ld28) ?_)))))))
    refine sV (v_neq rfl rfl) (sN (nK [1, 2, 6, 8, 35] rfl (nT (cC rfl (fun h2 => ?_) (fun h2 => ?_)))))
    ·skip
     refine cS (cR (sV (v_ldn rfl ld32 rfl rds_pt) ?_))
     refine st_stoW rfl rfl sz32 rfl rfl ?_
     refine sN (nK [6] rfl (nT (cT (xR ?_))))
     exact xt_retV (.cellN rfl ld32 rfl slq .nil) ⟨T0, rfl, [.slice none 0 0, .slice none 0 0], rfl, nil_yard _⟩ sbr
    ·skip
     exact absurd hck (by simpa using h2)
   ·skip
    rw [hck, if_pos rfl] at hR0
    rw [Int.toNat_natCast] at hrow0
    obtain ⟨pa0, pc0, rfl, _⟩ := id hrow0
    simp only [List.cons_append, List.nil_append]
    refine st_alc al32 fun b8 => ?_
    refine st_stoW rfl rfl sz32 rfl rfl ?_
    refine sN (nK [1, 2, 6, 8] rfl (nT (cS (cS (cR (sV (vF rfl fa32_1 rfl) (sV (vY rfl ld28) ?_)))))))
    refine sV (v_neq rfl rfl) (sN (nK [1, 2, 6, 8, 35] rfl (nT (cd_false rfl ?_))))
    refine cK (xT (cS (cS (cR (sV (vM rfl) (st_clr rfl rfl en89 rfl (in_ct steps 0 100000) ?_))))))
    refine sV (v_not rfl) (sN (nK [1, 2, 6, 8, 39] rfl (nT (cC rfl (fun h3 => ?_) (fun h3 => ?_)))))
    ·skip
     have hw : within steps 0 100000 = false := by simpa using h3
     have hcn : cntE steps = 1 := by unfold cntE; rw [if_neg (by rw [hw]; decide)]
     rw [hcn, if_pos (by decide)] at hR0
     subst hR0
     refine cS (cR (sV (v_build (cells := [.slice none 0 0, .slice none 0 0, .int .i64 1]) rfl (fun _ => by kernel_rfl)) ?_))
     refine st_stoW rfl rfl sz32 rfl rfl ?_
     refine sN (nK [6] rfl (nT (cT (xR ?_))))
     exact xt_retV (.cellN rfl ld32 rfl slq .nil) ⟨T0, rfl, [.slice none 0 0, .slice none 0 0], rfl, nil_yard _⟩ sbr
    ·skip
     have hw : within steps 0 100000 = true := by simpa using h3
     have hcn : cntE steps = 0 := by unfold cntE; rw [if_pos hw]
     rw [hcn, if_neg (by decide)] at hR0
     unfold within at hw
     rw [Bool.and_eq_true, decide_eq_true_eq, decide_eq_true_eq] at hw
     obtain ⟨N, rfl⟩ := Int.eq_ofNat_of_zero_le hw.1
     rw [Int.toNat_natCast] at hR0
     have hL0 := Live.new hck
     have hnl : (Yard.new jobs orders.length).procs.length = orders.length := by simp [Yard.new]
     have hjn : (Yard.new jobs orders.length).jobs = jobs := rfl
     generalize Yard.new jobs orders.length = y0 at *
     generalize hGo : Yard.gos (mayE orders) N y0 = GO at *
     have hord : ∀ T : Res, Row (Res.star [T, S]) 1 (nR (Res.star [T, S]) 2 kC) (.slice oa orders.length oc) orders := fun T => ho.mono (rd_in (.there .here)) fun us x _ h => by
      obtain ⟨v, h1, h2⟩ := h
      exact ⟨v, h1, h2.mono (rd_in (.there .here)) fun _ _ _ h => h⟩
     have hfirst : ∀ (z : Yard) (T : Res) (pv : Value) (M : Nat), RY S T (.slice ja jobs.length jc) pv z jobs orders.length M → M ≤ 800000 → CtN Tryz.prog 90 #[.agg #[.slice ja jobs.length jc, pv], .slice oa orders.length oc] [T, S] fun u _ => u = .int .i64 (optI (z.ready.find? (mayE orders z))) := fun z T pv M hz hM =>
      ctn_star (rfirst_ct (hz.yard hj) (hz.live.fit (by omega)) hz.len hz.live.right (hord T) rfl hol2)
     refine cK (xT (cS (cS (cR (sV (vA rfl) (sN (nK [1, 2, 6, 8, 9] rfl (nT (cB (cd_lq (σ := Nat × Yard × Value × Res) (fun s => [(1, .slice oa orders.length oc), (2, .int .i64 N), (6, .pointer (some ⟨b6, 0, none⟩)), (8, .pointer (some ⟨b8, 0, none⟩)), (9, .int .i64 (s.1 : Nat))]) (fun s => pt b8 (cl [.slice ja jobs.length jc, s.2.2.1, .int .i64 0] 32) :: s.2.2.2 :: pt b6 (cl [.slice none 0 0, .slice none 0 0, .int .i64 0] 32) :: S :: hr) (fun s => s.1 ≤ N ∧ RY S s.2.2.2 (.slice ja jobs.length jc) s.2.2.1 s.2.1 jobs orders.length (1 + s.1) ∧ Yard.gos (mayE orders) (N - s.1) s.2.1 = GO) (fun s => N - s.1) (0, y0, .slice pa0 y0.procs.length pc0, T0) ⟨Nat.zero_le _, ⟨hL0, hjn, hnl, hrow0⟩, hGo⟩ ?_))))))))))
     rintro ⟨k, z, pv, T⟩ ⟨hk, hz, hgz⟩
     simp only at hk hz hgz
     dsimp only
     have hzr := hz.row
     obtain ⟨pa, pc, rfl, _⟩ := id hzr
     rw [gos_eq] at hgz
     refine cS (cS (cR (sV (vM rfl) (sV (vM rfl) (sV (v_lss rfl rfl) (sN (nK [1, 2, 6, 8, 9, 43] rfl (nT (cC rfl (fun hd3 => ?_) (fun hd3 => ?_))))))))))
     ·skip
      have hkN : k < N := by have := of_decide_eq_true hd3; omega
      refine cK (xT (cS (cB (cS (cR (sV (vF rfl fa32_0 rfl) (sV (v_ldn (vs := [.slice ja jobs.length jc, .slice pa z.procs.length pc]) rfl ld27 rfl (rds_sub rds_pt rfl)) ?_)))))))
      refine sV (vM rfl) (st_cl rfl rfl en90 rfl (hfirst z T _ _ hz (by omega)) ?_)
      rintro u h' ⟨Tg, rfl, rfl⟩
      simp only [List.cons_append, List.nil_append]
      refine sV (vA rfl) (sN (nK [1, 2, 6, 8, 9, 10] rfl (nT (cS (cS (cR (sV (vM rfl) (sV (v_lss rfl rfl) (sN (nK [1, 2, 6, 8, 9, 10, 51] rfl (nT ?_)))))))))))
      cases hfd : z.ready.find? (mayE orders z) with
      | none =>
       rw [hfd] at hgz
       simp only at hgz
       refine cC rfl (fun hd4 => ?_) (fun hd4 => ?_)
       ·skip
        have hTn : z.ready.find? (mayE orders z) = none → GO = (z, 0) := fun _ => hgz.symm
        have hTs : ∀ i, z.ready.find? (mayE orders z) = some i → GO = (Yard.nil, 13) := fun i h => by rw [hfd] at h; cases h
        refine cd_exit (xE (xt_exit_block_ne (by decide) ?_))
        refine xE (xE (xY (xT (cS (cS (cR (sV (vF rfl fa32_0 rfl) (sV (v_ldn (vs := [.slice ja jobs.length jc, .slice pa z.procs.length pc]) rfl ld27 rfl (rds_sub rds_pt rfl)) ?_))))))))
        refine sV (vM rfl) (st_cl rfl rfl en90 rfl (hfirst z T _ _ hz (by omega)) ?_)
        rintro u h' ⟨Tg2, rfl, rfl⟩
        simp only [List.cons_append, List.nil_append]
        refine sV (v_geq rfl rfl) (sN (nK [1, 6, 8, 64] rfl (nT ?_)))
        cases hfd2 : z.ready.find? (mayE orders z) with
        | some i =>
         have hG := hTs i hfd2
         rw [hG, if_pos (by decide)] at hR0
         simp only at hR0
         subst hR0
         refine cC rfl (fun hd5 => ?_) (fun hd5 => ?_)
         ·skip
          refine cS (cR (sV (v_build (cells := [.slice none 0 0, .slice none 0 0, .int .i64 13]) rfl (fun _ => by kernel_rfl)) ?_))
          refine st_stoW rfl rfl sz32 rfl rfl ?_
          refine sN (nK [6] rfl (nT (cT (xR ?_))))
          exact xt_retV (.cellN rfl ld32 rfl slq .nil) ⟨T, rfl, [.slice none 0 0, .slice none 0 0], rfl, nil_yard _⟩ sbr
         ·skip
          exact absurd (of_decide_eq_false hd5) (by unfold optI; simp)
        | none =>
         have hG := hTn hfd2
         rw [hG, if_neg (fun h => h rfl)] at hR0
         simp only at hR0
         refine cC rfl (fun hd5 => ?_) (fun hd5 => ?_)
         ·skip
          exact absurd (of_decide_eq_true hd5) (by decide)
         ·skip
          refine cK (xT (cS (cS (cR (sV (vF rfl fa32_0 rfl) (sV (v_ldn (vs := [.slice ja jobs.length jc, .slice pa z.procs.length pc]) rfl ld27 rfl (rds_sub rds_pt rfl)) ?_))))))
          have hzf := hz.live.fit (M := 1 + k) (by omega)
          have hyz := hz.yard hj
          obtain ⟨_, _, hez, _, hpz⟩ := id hyz
          simp only [List.cons.injEq, and_true] at hez
          obtain ⟨rfl, rfl⟩ := hez
          refine st_cl rfl rfl en74 rfl (ctn_star (rready_ct hpz hzf.2.1 (fun i hi => right_waits hz.live.right hi) rfl)) ?_
          rintro u h' ⟨Tr, rfl, rfl, hur⟩
          simp only [List.cons_append, List.nil_append]
          rw [← ready_rdy]
          refine st_rowf (v := u) slq (fun va vc hve _ _ => ?_)
          simp only [List.length_map] at hve
          subst hve
          have hrl : z.ready.length ≤ 1000000 := by
           have h1 := rdy_len z.procs z.procs.length
           rw [← ready_rdy, List.length_map] at h1
           have := hzf.2.1; omega
          refine sV (v_len rfl Tryz.underlying43) (sV (v_gtr rfl rfl) (sN (nK [1, 6, 8, 70] rfl (nT (cC rfl (fun hd6 => ?_) (fun hd6 => ?_))))))
          ·skip
           have hne : z.ready ≠ [] := fun h => by rw [h] at hd6; exact absurd (of_decide_eq_true hd6) (by decide)
           rw [if_pos hne] at hR0
           subst hR0
           refine cS (cR (sV (v_build (cells := [.slice none 0 0, .slice none 0 0, .int .i64 11]) rfl (fun _ => by kernel_rfl)) ?_))
           refine st_stoW rfl rfl sz32 rfl rfl ?_
           refine sN (nK [6] rfl (nT (cT (xR ?_))))
           exact xt_retV (.cellN rfl ld32 rfl slq .nil) ⟨T, rfl, [.slice none 0 0, .slice none 0 0], rfl, nil_yard _⟩ sbr
          ·skip
           have hnil : z.ready = [] := List.eq_nil_of_length_eq_zero (by have := of_decide_eq_false hd6; omega)
           rw [if_neg (fun h => h hnil)] at hR0
           have hbad : ∀ (i : Nat) (hi : i < orders.length), ¬ (orders[i]).length ≤ (z.pr i).puts.length → R0 = (Yard.nil, 11) := fun i hi hn => by
            rw [← hR0, if_pos]
            rw [List.all_eq_false]
            refine ⟨i, by simpa using hi, ?_⟩
            rw [List.getD_eq_getElem?_getD, List.getElem?_eq_getElem hi, Option.getD_some]
            simpa using hn
           refine cK (xT (cS (cS (cR (sV (vA rfl) (sN (nK [1, 6, 8, 11] rfl (nT (cB (cd_lq (σ := Nat) (fun i => [(1, .slice oa orders.length oc), (6, .pointer (some ⟨b6, 0, none⟩)), (8, .pointer (some ⟨b8, 0, none⟩)), (11, .int .i64 (i : Nat))]) (fun _ => pt b8 (cl [.slice ja jobs.length jc, .slice pa z.procs.length pc, .int .i64 0] 32) :: T :: pt b6 (cl [.slice none 0 0, .slice none 0 0, .int .i64 0] 32) :: S :: hr) (fun i => i ≤ orders.length ∧ ∀ (j : Nat) (hj : j < orders.length), j < i → (orders[j]).length ≤ (z.pr j).puts.length) (fun i => orders.length - i) 0 ⟨Nat.zero_le _, fun j _ hj => by omega⟩ ?_))))))))))
           rintro i ⟨hi, hall2⟩
           refine cS (cS (cR (sV (vM rfl) (sV (vM rfl) (sV (v_len rfl Tryz.underlying92) (sV (v_lss rfl rfl) (sN (nK [1, 6, 8, 11, 75] rfl (nT (cC rfl (fun hd7 => ?_) (fun hd7 => ?_)))))))))))
           ·skip
            have hlt : i < orders.length := by simpa using hd7
            have hzl : i < z.procs.length := by rw [hz.len]; exact hlt
            obtain ⟨bo, oo, co, uo, hov, hrdo, uo2, huo, hO⟩ := ho.at1 (List.getElem?_eq_getElem hlt)
            simp only [List.cons.injEq, and_true] at huo
            subst huo
            obtain ⟨oa2, oc2, rfl, _⟩ := id hO
            obtain ⟨bt, ot, ct, ust, hvt, hust, hrdt, lv, qv, hv, dv, rfl, hL, hP, hH, hD⟩ := hzr.at (List.getElem?_eq_getElem hzl)
            obtain ⟨qa, qc, rfl, _⟩ := id hP
            have hb2 := hbad i hlt
            have hgd2 : (orders[i]).length ≤ (z.pr i).puts.length → ∀ (j : Nat) (hj : j < orders.length), j < i + 1 → (orders[j]).length ≤ (z.pr j).puts.length := fun h j hj' hji => by
             by_cases hjk : j = i
             ·subst hjk; exact h
             ·exact hall2 j hj' (by omega)
            rw [pr_get hzl] at hb2 hgd2
            refine cK (xT (cS (cB (cS (cd_drawh (ork [(0, 2), (1, 2), (2, 2), (3, 1), (4, 2), (5, 2), (6, 2), (7, 1), (8, 2), (9, 2), (10, 2), (11, 1), (12, 2), (13, 2)] .nil) (fun _ => true) mixed (by kernel_rfl) ?_)))))
            refine dV rfl (vM rfl) (dV rfl (vM rfl) (dV rfl (vI (k := i) (congrArg some hov) rfl sl92 rfl hlt rfl) (dr_v rfl (vY rfl ld74) ?_)))
            refine dV rfl (v_len rfl Tryz.underlying74) (dV rfl (vF rfl fa32_0 rfl) (dV rfl (vF rfl fa27_1 rfl) (dr_v rfl (vY rfl ld25) ?_)))
            refine dV rfl (vM rfl) (dV rfl (vI (k := i) (congrArg some hvt) rfl sl25 rfl hzl rfl) (dV rfl (vF rfl fa77_1 rfl) (dr_v rfl (vY rfl ld74) ?_)))
            refine dV rfl (v_len rfl Tryz.underlying74) (dV rfl (v_gtr rfl rfl) (dr_nil (nK [1, 6, 8, 11, 91] rfl (nT (cC rfl (fun hd8 => ?_) (fun hd8 => ?_))))))
            ·skip
             have hr := hb2 (by have := of_decide_eq_true hd8; omega)
             subst hr
             refine cS (cR (sV (v_build (cells := [.slice none 0 0, .slice none 0 0, .int .i64 11]) rfl (fun _ => by kernel_rfl)) ?_))
             refine st_stoW rfl rfl sz32 rfl rfl ?_
             refine sN (nK [6] rfl (nT (cT (xW (xR (xR (xW (xR ?_))))))))
             exact xt_retV (.cellN rfl ld32 rfl slq .nil) ⟨T, rfl, [.slice none 0 0, .slice none 0 0], rfl, nil_yard _⟩ sbr
            ·skip
             refine cK (xB (xT (cR (sV (vM rfl) (sV (v_add rfl rfl (by unfold I64 at *; omega)) (sV (vA rfl) (sN (nK [1, 6, 8, 11] rfl (nx_xt ?_)))))))))
             refine xt_aq (i + 1) ⟨hlt, hgd2 (by have := of_decide_eq_false hd8; omega)⟩ (by show _ - _ < _ - _; omega)
           ·skip
            have hil : i = orders.length := by
             have : ¬ i < orders.length := by simpa using hd7
             omega
            rw [if_neg (by
             rw [Bool.not_eq_false, List.all_eq_true]
             intro j hj'
             have hjl := List.mem_range.1 hj'
             rw [List.getD_eq_getElem?_getD, List.getElem?_eq_getElem hjl, Option.getD_some]
             exact decide_eq_true (hall2 j hjl (by omega)))] at hR0
            subst hR0
            refine cd_exit (xE (xE (xY (xT (cS (cR (sV (v_ldn rfl ld32 rfl rds_pt) ?_)))))))
            refine st_stoW rfl rfl sz32 rfl rfl ?_
            refine sN (nK [6] rfl (nT (cT ?_)))
            exact xt_retV (.cellN rfl ld32 rfl slq .nil) ⟨T, rfl, [.slice ja jobs.length jc, .slice pa z.procs.length pc], rfl, hyz⟩ sbr
       ·skip
        exact absurd (of_decide_eq_false hd4) (by decide)
      | some i =>
       obtain ⟨hi, hgo⟩ := find_ready hfd
       rw [hz.len] at hi
       rw [hfd, show N - k = (N - k - 1) + 1 by omega] at hgz
       simp only at hgz
       refine cC rfl (fun hd4 => ?_) (fun hd4 => ?_)
       ·skip
        exact absurd (of_decide_eq_true hd4) (by unfold optI; simp)
       ·skip
        refine cK (xT (cS (cR (sV (vF rfl fa32_0 rfl) (sV (v_ldn (vs := [.slice ja jobs.length jc, .slice pa z.procs.length pc]) rfl ld27 rfl (rds_sub rds_pt rfl)) ?_)))))
        refine sV (vM rfl) (st_cl rfl rfl en91 rfl (hz.step_ct (by omega) hj hi hgo) ?_)
        rintro u h' ⟨T2, rfl, pv2, hsv⟩
        simp only [List.cons_append, List.nil_append]
        rcases hsv with ⟨h0, rfl, hrow2⟩ | ⟨h0, rfl⟩
        ·skip
         rw [if_pos h0] at hgz
         have hL2 := hz.live.stepE (by rw [hz.len]; exact hi) hgo h0
         have hs2 := stepE_eq0 h0
         have hn2 : (z.stepE i).1.procs.length = orders.length := by rw [stepE_len hz.live (by rw [hz.len]; exact hi) hgo h0, hz.len]
         have hj2 : (z.stepE i).1.jobs = jobs := by rw [hs2, step_jobs]; exact hz.jobs
         obtain ⟨pa2, pc2, rfl, _⟩ := id hrow2
         refine st_stoW rfl rfl sz32 rfl rfl ?_
         refine sN (nK [1, 2, 6, 8, 9] rfl (nT (cS (cR (sV (vF rfl fa32_1 rfl) (sV (vY rfl ld28) ?_))))))
         refine sV (v_neq rfl rfl) (sN (nK [1, 2, 6, 8, 9, 58] rfl (nT (cd_false rfl ?_))))
         refine cK (xB (xT (cR (sV (vM rfl) (sV (v_add rfl rfl (by unfold I64 at *; omega)) (sV (vA rfl) (sN (nK [1, 2, 6, 8, 9] rfl (nx_xt ?_)))))))))
         refine xt_aq (k + 1, (z.stepE i).1, .slice pa2 (z.stepE i).1.procs.length pc2, T2) ⟨hkN, ⟨by rw [← Nat.add_assoc]; exact hL2, hj2, hn2, hrow2⟩, by show Yard.gos _ (N - (k + 1)) _ = GO; rw [show N - (k + 1) = N - k - 1 by omega]; exact hgz⟩ (by show N - (k + 1) < N - k; omega)
        ·skip
         rw [if_neg (by rw [h0]; decide)] at hgz
         have hg3 : GO.2 = 3 := by rw [← hgz]; exact h0
         rw [hg3, if_pos (by decide)] at hR0
         subst hR0
         refine st_stoW rfl rfl sz32 rfl rfl ?_
         refine sN (nK [1, 2, 6, 8, 9] rfl (nT (cS (cR (sV (vF rfl fa32_1 rfl) (sV (vY rfl ld28) ?_))))))
         refine sV (v_neq rfl rfl) (sN (nK [1, 2, 6, 8, 9, 58] rfl (nT (cd_true rfl ?_))))
         refine cS (cR (sV (v_ldn rfl ld32 rfl rds_pt) ?_))
         refine st_stoW rfl rfl sz32 rfl rfl ?_
         refine sN (nK [6] rfl (nT (cT (xW (xR (xR (xW (xR ?_))))))))
         exact xt_retV (.cellN rfl ld32 rfl slq .nil) ⟨T2, rfl, [.slice none 0 0, .slice none 0 0], rfl, nil_yard _⟩ sbr
     ·skip
      have hkN : N - k = 0 := by have := of_decide_eq_false hd3; omega
      rw [hkN] at hgz
      have hTn : z.ready.find? (mayE orders z) = none → GO = (z, 0) := fun h => by rw [h] at hgz; exact hgz.symm
      have hTs : ∀ i, z.ready.find? (mayE orders z) = some i → GO = (Yard.nil, 13) := fun i h => by rw [h] at hgz; exact hgz.symm
      refine cd_exit (xE (xE (xY (xT (cS (cS (cR (sV (vF rfl fa32_0 rfl) (sV (v_ldn (vs := [.slice ja jobs.length jc, .slice pa z.procs.length pc]) rfl ld27 rfl (rds_sub rds_pt rfl)) ?_)))))))))
      refine sV (vM rfl) (st_cl rfl rfl en90 rfl (hfirst z T _ _ hz (by omega)) ?_)
      rintro u h' ⟨Tg2, rfl, rfl⟩
      simp only [List.cons_append, List.nil_append]
      refine sV (v_geq rfl rfl) (sN (nK [1, 6, 8, 64] rfl (nT ?_)))
      cases hfd2 : z.ready.find? (mayE orders z) with
      | some i =>
       have hG := hTs i hfd2
       rw [hG, if_pos (by decide)] at hR0
       simp only at hR0
       subst hR0
       refine cC rfl (fun hd5 => ?_) (fun hd5 => ?_)
       ·skip
        refine cS (cR (sV (v_build (cells := [.slice none 0 0, .slice none 0 0, .int .i64 13]) rfl (fun _ => by kernel_rfl)) ?_))
        refine st_stoW rfl rfl sz32 rfl rfl ?_
        refine sN (nK [6] rfl (nT (cT (xR ?_))))
        exact xt_retV (.cellN rfl ld32 rfl slq .nil) ⟨T, rfl, [.slice none 0 0, .slice none 0 0], rfl, nil_yard _⟩ sbr
       ·skip
        exact absurd (of_decide_eq_false hd5) (by unfold optI; simp)
      | none =>
       have hG := hTn hfd2
       rw [hG, if_neg (fun h => h rfl)] at hR0
       simp only at hR0
       refine cC rfl (fun hd5 => ?_) (fun hd5 => ?_)
       ·skip
        exact absurd (of_decide_eq_true hd5) (by decide)
       ·skip
        refine cK (xT (cS (cS (cR (sV (vF rfl fa32_0 rfl) (sV (v_ldn (vs := [.slice ja jobs.length jc, .slice pa z.procs.length pc]) rfl ld27 rfl (rds_sub rds_pt rfl)) ?_))))))
        have hzf := hz.live.fit (M := 1 + k) (by omega)
        have hyz := hz.yard hj
        obtain ⟨_, _, hez, _, hpz⟩ := id hyz
        simp only [List.cons.injEq, and_true] at hez
        obtain ⟨rfl, rfl⟩ := hez
        refine st_cl rfl rfl en74 rfl (ctn_star (rready_ct hpz hzf.2.1 (fun i hi => right_waits hz.live.right hi) rfl)) ?_
        rintro u h' ⟨Tr, rfl, rfl, hur⟩
        simp only [List.cons_append, List.nil_append]
        rw [← ready_rdy]
        refine st_rowf (v := u) slq (fun va vc hve _ _ => ?_)
        simp only [List.length_map] at hve
        subst hve
        have hrl : z.ready.length ≤ 1000000 := by
         have h1 := rdy_len z.procs z.procs.length
         rw [← ready_rdy, List.length_map] at h1
         have := hzf.2.1; omega
        refine sV (v_len rfl Tryz.underlying43) (sV (v_gtr rfl rfl) (sN (nK [1, 6, 8, 70] rfl (nT (cC rfl (fun hd6 => ?_) (fun hd6 => ?_))))))
        ·skip
         have hne : z.ready ≠ [] := fun h => by rw [h] at hd6; exact absurd (of_decide_eq_true hd6) (by decide)
         rw [if_pos hne] at hR0
         subst hR0
         refine cS (cR (sV (v_build (cells := [.slice none 0 0, .slice none 0 0, .int .i64 11]) rfl (fun _ => by kernel_rfl)) ?_))
         refine st_stoW rfl rfl sz32 rfl rfl ?_
         refine sN (nK [6] rfl (nT (cT (xR ?_))))
         exact xt_retV (.cellN rfl ld32 rfl slq .nil) ⟨T, rfl, [.slice none 0 0, .slice none 0 0], rfl, nil_yard _⟩ sbr
        ·skip
         have hnil : z.ready = [] := List.eq_nil_of_length_eq_zero (by have := of_decide_eq_false hd6; omega)
         rw [if_neg (fun h => h hnil)] at hR0
         have hbad : ∀ (i : Nat) (hi : i < orders.length), ¬ (orders[i]).length ≤ (z.pr i).puts.length → R0 = (Yard.nil, 11) := fun i hi hn => by
          rw [← hR0, if_pos]
          rw [List.all_eq_false]
          refine ⟨i, by simpa using hi, ?_⟩
          rw [List.getD_eq_getElem?_getD, List.getElem?_eq_getElem hi, Option.getD_some]
          simpa using hn
         refine cK (xT (cS (cS (cR (sV (vA rfl) (sN (nK [1, 6, 8, 11] rfl (nT (cB (cd_lq (σ := Nat) (fun i => [(1, .slice oa orders.length oc), (6, .pointer (some ⟨b6, 0, none⟩)), (8, .pointer (some ⟨b8, 0, none⟩)), (11, .int .i64 (i : Nat))]) (fun _ => pt b8 (cl [.slice ja jobs.length jc, .slice pa z.procs.length pc, .int .i64 0] 32) :: T :: pt b6 (cl [.slice none 0 0, .slice none 0 0, .int .i64 0] 32) :: S :: hr) (fun i => i ≤ orders.length ∧ ∀ (j : Nat) (hj : j < orders.length), j < i → (orders[j]).length ≤ (z.pr j).puts.length) (fun i => orders.length - i) 0 ⟨Nat.zero_le _, fun j _ hj => by omega⟩ ?_))))))))))
         rintro i ⟨hi, hall2⟩
         refine cS (cS (cR (sV (vM rfl) (sV (vM rfl) (sV (v_len rfl Tryz.underlying92) (sV (v_lss rfl rfl) (sN (nK [1, 6, 8, 11, 75] rfl (nT (cC rfl (fun hd7 => ?_) (fun hd7 => ?_)))))))))))
         ·skip
          have hlt : i < orders.length := by simpa using hd7
          have hzl : i < z.procs.length := by rw [hz.len]; exact hlt
          obtain ⟨bo, oo, co, uo, hov, hrdo, uo2, huo, hO⟩ := ho.at1 (List.getElem?_eq_getElem hlt)
          simp only [List.cons.injEq, and_true] at huo
          subst huo
          obtain ⟨oa2, oc2, rfl, _⟩ := id hO
          obtain ⟨bt, ot, ct, ust, hvt, hust, hrdt, lv, qv, hv, dv, rfl, hL, hP, hH, hD⟩ := hzr.at (List.getElem?_eq_getElem hzl)
          obtain ⟨qa, qc, rfl, _⟩ := id hP
          have hb2 := hbad i hlt
          have hgd2 : (orders[i]).length ≤ (z.pr i).puts.length → ∀ (j : Nat) (hj : j < orders.length), j < i + 1 → (orders[j]).length ≤ (z.pr j).puts.length := fun h j hj' hji => by
           by_cases hjk : j = i
           ·subst hjk; exact h
           ·exact hall2 j hj' (by omega)
          rw [pr_get hzl] at hb2 hgd2
          refine cK (xT (cS (cB (cS (cd_drawh (ork [(0, 2), (1, 2), (2, 2), (3, 1), (4, 2), (5, 2), (6, 2), (7, 1), (8, 2), (9, 2), (10, 2), (11, 1), (12, 2), (13, 2)] .nil) (fun _ => true) mixed (by kernel_rfl) ?_)))))
          refine dV rfl (vM rfl) (dV rfl (vM rfl) (dV rfl (vI (k := i) (congrArg some hov) rfl sl92 rfl hlt rfl) (dr_v rfl (vY rfl ld74) ?_)))
          refine dV rfl (v_len rfl Tryz.underlying74) (dV rfl (vF rfl fa32_0 rfl) (dV rfl (vF rfl fa27_1 rfl) (dr_v rfl (vY rfl ld25) ?_)))
          refine dV rfl (vM rfl) (dV rfl (vI (k := i) (congrArg some hvt) rfl sl25 rfl hzl rfl) (dV rfl (vF rfl fa77_1 rfl) (dr_v rfl (vY rfl ld74) ?_)))
          refine dV rfl (v_len rfl Tryz.underlying74) (dV rfl (v_gtr rfl rfl) (dr_nil (nK [1, 6, 8, 11, 91] rfl (nT (cC rfl (fun hd8 => ?_) (fun hd8 => ?_))))))
          ·skip
           have hr := hb2 (by have := of_decide_eq_true hd8; omega)
           subst hr
           refine cS (cR (sV (v_build (cells := [.slice none 0 0, .slice none 0 0, .int .i64 11]) rfl (fun _ => by kernel_rfl)) ?_))
           refine st_stoW rfl rfl sz32 rfl rfl ?_
           refine sN (nK [6] rfl (nT (cT (xW (xR (xR (xW (xR ?_))))))))
           exact xt_retV (.cellN rfl ld32 rfl slq .nil) ⟨T, rfl, [.slice none 0 0, .slice none 0 0], rfl, nil_yard _⟩ sbr
          ·skip
           refine cK (xB (xT (cR (sV (vM rfl) (sV (v_add rfl rfl (by unfold I64 at *; omega)) (sV (vA rfl) (sN (nK [1, 6, 8, 11] rfl (nx_xt ?_)))))))))
           refine xt_aq (i + 1) ⟨hlt, hgd2 (by have := of_decide_eq_false hd8; omega)⟩ (by show _ - _ < _ - _; omega)
         ·skip
          have hil : i = orders.length := by
           have : ¬ i < orders.length := by simpa using hd7
           omega
          rw [if_neg (by
           rw [Bool.not_eq_false, List.all_eq_true]
           intro j hj'
           have hjl := List.mem_range.1 hj'
           rw [List.getD_eq_getElem?_getD, List.getElem?_eq_getElem hjl, Option.getD_some]
           exact decide_eq_true (hall2 j hjl (by omega)))] at hR0
          subst hR0
          refine cd_exit (xE (xE (xY (xT (cS (cR (sV (v_ldn rfl ld32 rfl rds_pt) ?_)))))))
          refine st_stoW rfl rfl sz32 rfl rfl ?_
          refine sN (nK [6] rfl (nT (cT ?_)))
          exact xt_retV (.cellN rfl ld32 rfl slq .nil) ⟨T, rfl, [.slice ja jobs.length jc, .slice pa z.procs.length pc], rfl, hyz⟩ sbr
end
end Go.Wt
namespace Go.Wt
open Go Go.Ck Go.Proofs Go.Proofs.YtboepbencndobaaGreat Fx
attribute [local irreducible] Go.Ck.Sub St Cd Xt Nx DrL LsW
section
variable {S : Res}
set_option maxHeartbeats 2000000 in
set_option maxRecDepth 100000 in
theorem Replay1_ct {jv ov : Value} {jobs : List (List Move)} {orders : List (List Key)} {steps : Int} (hj : Row S 1 (jobR S) jv jobs) (hf : Fits jobs) (ho : Row S 1 (nR S 2 kC) ov orders) (hol : orders.length ≤ 1000000) (hol2 : ∀ l ∈ orders, l.length ≤ 1000000) :
  CtN Tryz.prog 40 #[jv, ov, .int .i64 steps] [S] fun u T => ∃ ys', u = .tuple #[.agg ys'.toArray, .int .i64 (replayE jobs orders steps).2] ∧ yardR T ys' (replayE jobs orders steps).1 := by
 obtain ⟨oa, oc, hov, _⟩ := id ho
 subst hov
 unfold replayE
 refine ct_ofM (n := 72) Tryz.func40 rfl rfl (len rfl) fun hr w0 => ?_
 refine cS (cR (st_bx rfl rfl fun b4 => ?_))
 refine st_alc al27 fun b6 => ?_
 refine st_alc al28 fun b7 => ?_
 refine sN (nK [0, 2, 4, 6, 7] rfl (nT (cS (cS (cR (sV (vY rfl ld92) ?_))))))
 refine sV (v_len rfl Tryz.underlying92) (sV (v_gtr rfl rfl) (sV (vM rfl) (st_cut (k := 8) (d := 19) (v := .bool (decide (12 < (orders.length : Int)) || !orders.all fun l => decide ((l.length : Int) ≤ 400))) (fun hcut => bool_want (b := decide (12 < (orders.length : Int))) false (fun hg => ?_) (fun hg => ?_)) ?_)))
 ·refine st_sk rfl rfl hg ?_
  iterate 2 refine st_sk rfl rfl hg ?_
  refine sV (vQ (bE rfl hg) rfl) ?_
  exact hcut _ (uH (by first | rfl | (rw [hg]; rfl) | simp_all) (uS rfl (uS rfl (uS rfl (uR)))))
 ·skip
  refine sG rfl (bG rfl hg) (vY rfl ld92) ?_
  refine st_clrg rfl (bG rfl hg) rfl rfl en83 rfl (al83_ct (g := fun l : List Key => decide ((l.length : Int) ≤ 400)) ho hol en84 fun x hx u hu => short_ct hu) ?_
  refine sG rfl (bG rfl hg) (v_not rfl) (sV (vP (bE rfl hg) rfl) ?_)
  exact hcut _ (uH (by first | rfl | (rw [hg]; rfl) | simp_all) (uS rfl (uS rfl (uS rfl (uR)))))
 refine sN (nK [0, 2, 4, 6, 7, 19] rfl (nT (cC rfl (fun h1 => ?_) (fun h1 => ?_))))
 ·skip
  have h1' : tooMany orders = true := h1
  rw [if_pos h1']
  refine cS (cR (sV (v_build (cells := [.slice none 0 0, .slice none 0 0]) rfl (fun _ => by kernel_rfl)) ?_))
  refine st_stoW rfl rfl sz27 rfl rfl ?_
  refine st_sto rfl rfl sz28 ?_
  refine sN (nK [6, 7] rfl (nT (cT (xR (xt_vw (vw_pure (φ := True) trivial) (xt_retMV (bs := []) (k := pt b6 (cl [.slice none 0 0, .slice none 0 0] 27) :: pt b7 (cl [.int .i64 3] 28) :: ([pureR True, S] ++ hr)) rfl (.cellN rfl ld27 rfl slq (.cell1 rfl ld28 (at_there (at_here (rd_cl rfl))) .nil)) ⟨pureR True, rfl, [.slice none 0 0, .slice none 0 0], rfl, nil_yard _⟩ ?_ ?_))))))
  ·exact Sub.cons (Sub.cons (Sub.refl _))
  ·unfold marks
   simp only [List.cons_append, List.nil_append, List.map_nil]
   exact sbr
 ·skip
  have h1' : tooMany orders = false := h1
  rw [if_neg (by simp [h1'])]
  have hn12 : orders.length ≤ 12 := by
   simp only [Bool.or_eq_false_iff, decide_eq_false_iff_not] at h1
   omega
  refine cK (xT (cS (cR (sV (vM rfl) (sV (vY rfl ld92) ?_)))))
  refine sV (v_len rfl Tryz.underlying92) (st_cl rfl rfl en14 rfl (new_ct hj hf (by unfold I64; omega)) ?_)
  rintro u h' ⟨T0, rfl, ys0, rfl, hy0⟩
  obtain ⟨ja, pa, rfl, hc1, hc2⟩ := yardR_cells hy0
  refine sV (vM rfl) (sV (v_extract rfl rfl) (sV (v_extract rfl rfl) (st_alc al27 fun b8 => ?_)))
  refine st_stoW rfl rfl sz27 rfl (by simp [hc1, hc2]) ?_
  refine sV (vA rfl) (sN (nK [2, 4, 6, 7, 8, 9] rfl (nT (cS (cS (cR (sV (vM rfl) (sV (vM rfl) (st_clr rfl rfl en85 rfl (counted_ct steps) ?_)))))))))
  generalize hcnt : cntE steps = c1
  generalize hchk : check jobs orders.length = e1
  refine st_buildSlice (cells := [.int .i64 e1, .int .i64 c1]) rfl Tryz.underlying166 inf28 rfl rfl (by kernel_rfl) (ltn rfl) fun b31 => ?_
  refine st_cl rfl rfl en62 rfl (first_ct (S := pt b31 (cl [.int .i64 e1, .int .i64 c1] 28)) (l := [e1, c1]) (row_pt rfl (by simp [iC]) rfl (by decide)) (by simp)) ?_
  rintro u h' ⟨rfl, rfl⟩
  refine sV (vA rfl) (sN (nK [2, 4, 6, 7, 8, 9] rfl (nT (cS (cR (sV (vM rfl) (sV (v_neq rfl rfl) (sN (nK [2, 4, 6, 7, 8, 9, 34] rfl (nT (cC rfl (fun h2 => ?_) (fun h2 => ?_))))))))))))
  ·skip
   have h2' : firstE [e1, c1] ≠ 0 := by simpa using h2
   rw [if_pos h2']
   refine cS (cR (sV (v_build (cells := [.slice none 0 0, .slice none 0 0]) rfl (fun _ => by kernel_rfl)) ?_))
   refine sV (vM rfl) (st_stoW rfl rfl sz27 rfl rfl ?_)
   refine st_sto rfl rfl sz28 ?_
   refine sN (nK [6, 7] rfl (nT (cT (xR (xt_vw (vw_pure (φ := True) trivial) (xt_retMV (bs := []) (k := pt b6 (cl [.slice none 0 0, .slice none 0 0] 27) :: pt b7 (cl [.int .i64 (firstE [e1, c1])] 28) :: ([pureR True, S] ++ hr)) rfl (.cellN rfl ld27 rfl slq (.cell1 rfl ld28 (at_there (at_here (rd_cl rfl))) .nil)) ⟨pureR True, rfl, [.slice none 0 0, .slice none 0 0], rfl, nil_yard _⟩ ?_ ?_))))))
   ·exact Sub.cons (Sub.cons (Sub.refl _))
   ·unfold marks
    simp only [List.cons_append, List.nil_append, List.map_nil]
    exact sbr
  ·skip
   have h2' : firstE [e1, c1] = 0 := by simpa using h2
   rw [if_neg (fun h => h h2')]
   obtain ⟨he0, hc0⟩ := first2_zero h2'
   rw [← hcnt] at hc0
   rw [← hchk] at he0
   obtain ⟨hs0, hs1⟩ := cnt_zero hc0
   obtain ⟨n, rfl⟩ := Int.eq_ofNat_of_zero_le hs0
   rw [Int.toNat_natCast]
   have hnew : newY jobs orders.length = Yard.new jobs orders.length := by unfold newY; rw [if_pos he0, Int.toNat_natCast]
   rw [hnew] at hy0
   have hL0 := Live.new he0
   have hnl : (Yard.new jobs orders.length).procs.length = orders.length := by simp [Yard.new]
   generalize hyn : Yard.new jobs orders.length = y0 at *
   have hmay : ∀ (z : Yard) (T : Res) (jv pv : Value) (i m : Nat), Live z m → z.procs.length = y0.procs.length → z.jobs = y0.jobs → m ≤ 900000 → yardR T [jv, pv] z → i < z.procs.length → Reads Tryz.prog 87 (#[] ++ [.agg #[jv, pv], .int .i64 i].toArray ++ #[.pointer (some ⟨b4, 0, none⟩)]) [T, Res.star [pt b4 (cl [.slice oa orders.length oc] 92), S]] (.bool (mayE orders z i)) := fun z T jv pv i m hz hzn _ hm hyz hi =>
    may_ct (n := orders.length) hyz (hz.fit (by omega)) (hzn.trans hnl) (by omega) (fun h => right_job hz.right (hzn.trans hnl) (by omega) h) ho rfl hol2
   refine cd_pv (pv_pack (L := [pt b4 (cl [.slice oa orders.length oc] 92), S])) ?_
   refine cK (xT (cS (cR (sV (v_ldn rfl ld27 rfl rds_pt) ?_))))
   refine sV (vM rfl) (sV (v_makeFunc rfl rfl) (st_cl rfl rfl en86 rfl (goes_ct (T0 := T0) (S := Res.star [pt b4 (cl [.slice oa orders.length oc] 92), S]) (mayE orders) hy0 hL0 (by omega) en87 hmay) ?_))
   rintro u h' ⟨T, ys', rfl, rfl, hz⟩
   obtain ⟨ja2, pa2, rfl, hd1, hd2⟩ := yardR_cells hz
   have hgl := gos_live (mayE orders) n hL0
   generalize hge : Yard.gos (mayE orders) n y0 = ge at *
   obtain ⟨z, e2⟩ := ge
   simp only at hz hgl ⊢
   simp only [List.cons_append, List.nil_append]
   refine st_pv (pv_unpack (L := [pt b4 (cl [.slice oa orders.length oc] 92), S])) ?_
   refine sV (vM rfl) (sV (v_extract rfl rfl) (sV (v_extract rfl rfl) (st_stoW rfl rfl sz27 rfl (by simp [hd1, hd2]) ?_)))
   refine sV (vA rfl) (sN (nK [4, 6, 7, 8, 9] rfl (nT (cS (cS (cR (sV (vM rfl) (sV (v_neq rfl rfl) (sN (nK [4, 6, 7, 8, 9, 45] rfl (nT (cC rfl (fun h3 => ?_) (fun h3 => ?_)))))))))))))
   ·skip
    have h3' : e2 ≠ 0 := by simpa using h3
    rw [if_pos h3']
    refine cS (cR (sV (v_build (cells := [.slice none 0 0, .slice none 0 0]) rfl (fun _ => by kernel_rfl)) ?_))
    refine sV (vM rfl) (st_stoW rfl rfl sz27 rfl rfl ?_)
    refine st_sto rfl rfl sz28 ?_
    refine sN (nK [6, 7] rfl (nT (cT (xR (xt_vw (vw_pure (φ := True) trivial) (xt_retMV (bs := []) (k := pt b6 (cl [.slice none 0 0, .slice none 0 0] 27) :: pt b7 (cl [.int .i64 e2] 28) :: ([pureR True, S] ++ hr)) rfl (.cellN rfl ld27 rfl slq (.cell1 rfl ld28 (at_there (at_here (rd_cl rfl))) .nil)) ⟨pureR True, rfl, [.slice none 0 0, .slice none 0 0], rfl, nil_yard _⟩ ?_ ?_))))))
    ·exact Sub.cons (Sub.cons (Sub.refl _))
    ·unfold marks
     simp only [List.cons_append, List.nil_append, List.map_nil]
     exact sbr
   ·skip
    have h3' : e2 = 0 := by simpa using h3
    rw [if_neg (fun h => h h3')]
    obtain ⟨hzL, hzn, hzj⟩ := hgl h3'
    have hzf := hzL.fit (by omega)
    obtain ⟨_, _, heq, hzj2, hzp⟩ := id hz
    simp only [List.cons.injEq, and_true] at heq
    obtain ⟨rfl, rfl⟩ := heq
    refine cK (xT (cS (cS (cR (sV (v_ldn rfl ld27 rfl rds_pt) ?_)))))
    refine st_cl rfl rfl en72 rfl (going_ct (jv := ja2) (pv := pa2)) ?_
    rintro u h' ⟨d1, rfl, rfl⟩
    refine sN (nK [4, 6, 7, 8, 49] rfl (nT (cB ?_)))
    simp only [List.cons_append, List.nil_append]
    refine cd_pv (pv_drop (r := pt b31 (cl [.int .i64 e1, .int .i64 c1] 28))) ?_
    simp only [List.nil_append]
    refine cd_range' rfl en112 fun yl db rec hst hpe hps has hbo hkn2 => ?_
    refine ⟨_, Ct.perm (going1_ct (σ := Unit) (S := T) (yl := yl) (jv := ja2) (b1 := d1) (fun _ => pt yl (.loop rec) :: pt db (.deferred (some [])) :: pt b4 (cl [.slice oa orders.length oc] 92) :: pt b8 (cl [ja2, pa2] 27) :: pt b6 (cl [.slice none 0 0, .slice none 0 0] 27) :: pt b7 (cl [.int .i64 0] 28) :: S :: hr)
     (fun i _ => ∀ j, j < i → (z.pr j).goes = false) (fun i h' => i < z.procs.length ∧ (z.pr i).goes = true ∧ ∃ rec' : Loop, rec'.state ≠ .busy ∧ rec'.pending = some .ret ∧ h' = pt yl (.loop rec') :: pt db (.deferred (some [])) :: pt b6 (cl [.slice none 0 0, .slice none 0 0] 27) :: pt b7 (cl [.int .i64 11] 28) :: S :: hr) () (fun j hj => absurd hj (Nat.not_lt_zero _)) hzp hzf.2.1 ?_ ?_) ?_, ?_⟩
    ·rintro i ⟨⟩ hi hg hb
     rw [← pr_get hi] at hg
     refine Yc.perm (yc_of (n := 72) (rec := rec) (args := [.int .i64 i]) (hf := T :: pt db (.deferred (some [])) :: pt b4 (cl [.slice oa orders.length oc] 92) :: pt b8 (cl [ja2, pa2] 27) :: pt b6 (cl [.slice none 0 0, .slice none 0 0] 27) :: pt b7 (cl [.int .i64 0] 28) :: S :: hr) (by rw [hps]; rfl) hkn2 (by rw [hps]; decide) ?_) (.swap _ _ _)
     intro hr2 w1
     rw [has, hps, hbo]
     simp only [List.cons_append, List.nil_append]
     refine cK (xt_mid rfl slq (by first | rfl | assumption) ?_)
     refine cB (cS (cR (sV (v_build (cells := [.slice none 0 0, .slice none 0 0]) rfl (fun _ => by kernel_rfl)) ?_)))
     refine st_stoW rfl rfl sz27 rfl rfl ?_
     refine st_sto rfl rfl sz28 ?_
     refine sN (nK [6, 7] rfl (nT (cT (xW (xt_round_ret slq (.inr ⟨rfl, _, rfl, hi, hg, { ({ rec with state := .busy } : Loop) with state := .done, pending := some .ret }, by simp, rfl, rfl⟩) ?_)))))
     exact sbr
    ·rintro i ⟨⟩ hi hg hb j hj
     rw [← pr_get hi] at hg
     by_cases hji : j = i
     ·subst hji; exact hg
     ·exact hb j (by omega)
    ·exact (by repeat (first | exact Pm.refl | refine Pm.cons slq ?_) : Pm _ _).perm
    ·rintro v' h' ⟨rfl, (⟨⟨⟩, hnone, rfl⟩ | ⟨i, h0, ⟨hi, hg, rec', hbusy, hpend, rfl⟩, rfl⟩)⟩
     ·have hrd0 : z.ready = [] := by
       unfold Yard.ready
       rw [List.filter_eq_nil_iff]
       intro j hj
       rw [hnone j (List.mem_range.1 hj)]; simp
      rw [if_neg (fun h => h hrd0)]
      refine ⟨rec, _, slq, (by rw [hst]; simp), ?_⟩
      rw [hpe]
      dsimp only
      refine xB (xT (cS (cS (cR (sV (vY rfl ld92) ?_)))))
      refine sV (v_len rfl Tryz.underlying92) (sV (vM rfl) (sN (nK [6, 7, 8, 52, 53, 54] rfl (nT (cB (cd_loopD (σ := Nat) (fun _ => [mk db]) (fun i => [(6, .pointer (some ⟨b6, 0, none⟩)), (7, .pointer (some ⟨b7, 0, none⟩)), (8, .pointer (some ⟨b8, 0, none⟩)), (52, .slice oa orders.length oc), (53, .int .i64 orders.length), (54, .int .i64 (i : Nat))]) (fun _ => pt b8 (cl [ja2, pa2] 27) :: T :: pt db (.deferred (some [])) :: pt b6 (cl [.slice none 0 0, .slice none 0 0] 27) :: pt b7 (cl [.int .i64 0] 28) :: S :: hr) (fun i => i ≤ orders.length ∧ ∀ j, j < i → (orders.getD j []).length ≤ (z.pr j).puts.length) (fun i => orders.length - i) 0 ⟨Nat.zero_le _, fun j hj => absurd hj (Nat.not_lt_zero _)⟩ rfl ⟨rfl, rfl, rfl, rfl, rfl, rfl, trivial⟩ sbr ?_))))))
      rintro i ⟨hi, hall⟩
      refine cS (cR (sV (v_lss rfl rfl) (sN (nT (cS (cC rfl (fun hd => ?_) (fun hd => ?_)))))))
      ·skip
       have hlt : i < orders.length := by simpa using hd
       have hiz : i < z.procs.length := by omega
       obtain ⟨ob, oo, oc2, ou, hov, hrdo, ov2, hou, hO⟩ := ho.at1 (List.getElem?_eq_getElem hlt)
       simp only [List.cons.injEq, and_true] at hou
       subst hou
       obtain ⟨oa3, oc3, rfl, _⟩ := id hO
       obtain ⟨b, off, cp2, us, hzv, hus, hrd, lv, pv', hv, dv, rfl, hL, hP, hH, hD⟩ := hzp.at (List.getElem?_eq_getElem hiz)
       subst hzv
       obtain ⟨ap', cp', rfl, _⟩ := id hP
       have hog : orders.getD i [] = orders[i] := by rw [List.getD_eq_getElem?_getD, List.getElem?_eq_getElem hlt]; rfl
       have hpz := pr_get hiz
       refine cK (xT (cS (cB (cS (cR (sV (vM rfl) (sV (vI (k := i) (congrArg some hov) rfl sl92 rfl hlt rfl) (sV (vY rfl ld74) ?_))))))))
       refine sV (vA rfl) (sV (vA rfl) (sN (nK [6, 7, 8, 10, 11, 52, 53, 54] rfl (nT (cS (cR (sV (vM rfl) (sV (v_len rfl Tryz.underlying74) (sV (vF rfl fa27_1 rfl) (sV (vY rfl ld25) ?_))))))))))
       refine sV (vM rfl) (sV (vI (k := i) rfl rfl sl25 rfl hiz rfl) (sV (vF rfl fa77_1 rfl) (sV (vY rfl ld74) ?_)))
       refine sV (v_len rfl Tryz.underlying74) (sV (v_gtr rfl rfl) (sN (nK [6, 7, 8, 52, 53, 54, 68] rfl (nT (cC rfl (fun hgt => ?_) (fun hgt => ?_))))))
       ·skip
        have hgt2 : ¬ (orders.getD i []).length ≤ (z.pr i).puts.length := by rw [hog, hpz]; have := of_decide_eq_true hgt; omega
        have hfa : ((List.range orders.length).all fun i => decide ((orders.getD i []).length ≤ (z.pr i).puts.length)) = false := by
         rw [List.all_eq_false]
         exact ⟨i, List.mem_range.2 hlt, by simpa using hgt2⟩
        rw [if_pos hfa]
        refine cS (cR (sV (v_build (cells := [.slice none 0 0, .slice none 0 0]) rfl (fun _ => by kernel_rfl)) ?_))
        refine st_stoW rfl rfl sz27 rfl rfl ?_
        refine st_sto rfl rfl sz28 ?_
        refine sN (nK [6, 7] rfl (nT (cT (xW (xR (xR (xW (xR (xt_vw (vw_pure (φ := True) trivial) (xt_retMV (bs := [db]) (k := pt b6 (cl [.slice none 0 0, .slice none 0 0] 27) :: pt b7 (cl [.int .i64 11] 28) :: ([pureR True, S] ++ hr)) rfl (.cellN rfl ld27 rfl slq (.cell1 rfl ld28 (at_there (at_here (rd_cl rfl))) .nil)) ⟨pureR True, rfl, [.slice none 0 0, .slice none 0 0], rfl, nil_yard _⟩ ?_ ?_))))))))))
        ·exact Sub.cons (Sub.cons (Sub.refl _))
        ·unfold marks
         simp only [List.cons_append, List.nil_append, List.map_cons, List.map_nil]
         exact sbr
       ·skip
        have hgt2 : (orders.getD i []).length ≤ (z.pr i).puts.length := by rw [hog, hpz]; have := of_decide_eq_false hgt; omega
        refine cK (xB (xT (cR (sV (v_add rfl rfl (by unfold I64 at *; omega)) (sV (vM rfl) (sN (nK [6, 7, 8, 52, 53, 54] rfl (nx_xt (xt_againD (i + 1) ⟨hlt, fun j hj => ?_⟩ (by show _ - _ < _ - _; omega) rfl ⟨rfl, rfl, rfl, rfl, rfl, rfl, trivial⟩ ?_)))))))))
        ·by_cases hji : j = i
         ·subst hji; exact hgt2
         ·exact hall j (by omega)
        ·exact sbr
      ·skip
       have hin : i = orders.length := by
        have : ¬ i < orders.length := by simpa using hd
        omega
       have hfa : ((List.range orders.length).all fun i => decide ((orders.getD i []).length ≤ (z.pr i).puts.length)) = true := by
        rw [List.all_eq_true]
        intro j hj
        simpa using hall j (by rw [hin]; exact List.mem_range.1 hj)
       rw [if_neg (by rw [hfa]; simp)]
       refine cd_exit (xE (xE (xY (xT (cS (cR (sV (v_ldn rfl ld27 rfl rds_pt) ?_)))))))
       refine st_stoW rfl rfl sz27 rfl (by simp [hd1, hd2]) ?_
       refine st_sto rfl rfl sz28 ?_
       refine sN (nK [6, 7] rfl (nT (cT (xt_retMV (bs := [db]) (k := pt b6 (cl [ja2, pa2] 27) :: pt b7 (cl [.int .i64 0] 28) :: ([T, S] ++ hr)) rfl (.cellN rfl ld27 rfl slq (.cell1 rfl ld28 (at_there (at_here (rd_cl rfl))) .nil)) ⟨T, rfl, [ja2, pa2], rfl, hz⟩ ?_ ?_))))
       ·exact Sub.cons (Sub.cons (Sub.refl _))
       ·unfold marks
        simp only [List.cons_append, List.nil_append, List.map_cons, List.map_nil]
        exact sbr
     ·have hrd0 : z.ready ≠ [] := fun h => by
       have hm : i ∈ z.ready := by unfold Yard.ready; rw [List.mem_filter]; exact ⟨List.mem_range.2 hi, hg⟩
       rw [h] at hm; simp at hm
      rw [if_pos hrd0]
      refine ⟨rec', _, slq, hbusy, ?_⟩
      rw [hpend]
      dsimp only
      refine cT (xW (xR (xt_vw (vw_pure (φ := True) trivial) (xt_retMV (bs := [db]) (k := pt b6 (cl [.slice none 0 0, .slice none 0 0] 27) :: pt b7 (cl [.int .i64 11] 28) :: ([pureR True, S] ++ hr)) rfl (.cellN rfl ld27 rfl slq (.cell1 rfl ld28 (at_there (at_here (rd_cl rfl))) .nil)) ⟨pureR True, rfl, [.slice none 0 0, .slice none 0 0], rfl, nil_yard _⟩ ?_ ?_))))
      ·exact Sub.cons (Sub.cons (Sub.refl _))
      ·unfold marks
       simp only [List.cons_append, List.nil_append, List.map_cons, List.map_nil]
       exact sbr
end
end Go.Wt
namespace Go.Wt
open Go Go.Ck Go.Proofs Go.Proofs.YtboepbencndobaaGreat Fx
attribute [local irreducible] Go.Ck.Sub St Cd Xt Nx DrL LsW
theorem nil_fit : Fit Yard.nil := ⟨⟨by simp [Yard.nil], fun l hl => by cases hl⟩, by simp [Yard.nil], fun p hp => by cases hp⟩
theorem replay_fit {jobs : List (List Move)} {orders : List (List Key)} {steps : Int} (hs : steps ≤ 100000 ∨ 100000 < steps) : Fit (replayE jobs orders steps).1 := by
 unfold replayE
 split
 ·exact nil_fit
 ·rename_i h0
  split
  ·exact nil_fit
  ·rename_i h1
   split
   ·exact nil_fit
   ·rename_i h2
    split
    ·exact nil_fit
    ·split
     ·exact nil_fit
     ·have h1' : firstE [check jobs orders.length, cntE steps] = 0 := Classical.byContradiction h1
      obtain ⟨hc, hcn⟩ := first2_zero h1'
      obtain ⟨hs0, hs1⟩ := cnt_zero hcn
      have h2' : (Yard.gos (mayE orders) steps.toNat (Yard.new jobs orders.length)).2 = 0 := Classical.byContradiction h2
      exact ((gos_live (mayE orders) steps.toNat (Live.new hc) h2').1).fit (by omega)
section
variable {S : Res}
set_option maxHeartbeats 2000000 in
set_option maxRecDepth 100000 in
theorem waitReplays_ct {ys : List Value} {y : Yard} {jv ov : Value} {jobs : List (List Move)} {orders : List (List Key)} {steps : Int} (hy : yardR S ys y) (hj : Row S 1 (jobR S) jv jobs) (ho : Row S 1 (nR S 2 kC) ov orders) (hst : I64 steps) :
  Ct Tryz.prog 9 #[.agg ys.toArray, jv, ov, .int .i64 steps] [S] fun u h' => u = .bool true ∧ h' = [S] := by
 obtain ⟨jvy, pvy, rfl, hjy, hpy⟩ := id hy
 obtain ⟨yja, yjc, rfl, _⟩ := id hjy
 obtain ⟨ypa, ypc, rfl, _⟩ := id hpy
 obtain ⟨ja, jc, rfl, _⟩ := id hj
 obtain ⟨oa, oc, rfl, _⟩ := id ho
 have hol := ho.lenle
 unfold maxLen at hol
 refine ct_of (n := 132) Tryz.func9 rfl rfl (len rfl) fun hr w0 => ?_
 refine cS (cR (st_bx rfl rfl fun b4 => ?_))
 refine sV (vA rfl) (sN (nK [1, 2, 3, 4, 8] rfl (nT (cS (cS (cR (sV (v_ldn rfl ld27 rfl rds_pt) ?_)))))))
 refine st_clr rfl rfl en19 rfl (small_ct hy) ?_
 refine sV (v_not rfl) (sV (vM rfl) (st_cut (k := 8) (d := 25) (v := .bool (!smallE y || !fewE jobs)) (fun hcut => bool_want (b := !smallE y) false (fun hg => ?_) (fun hg => ?_)) ?_))
 ·refine st_sk rfl rfl hg ?_
  iterate 2 refine st_sk rfl rfl hg ?_
  refine sV (vQ (bE rfl hg) rfl) ?_
  exact hcut _ (uH (by first | rfl | (rw [hg]; rfl) | simp_all) (uS rfl (uS rfl (uS rfl (uR)))))
 ·skip
  refine sG rfl (bG rfl hg) (vM rfl) (st_clrg rfl (bG rfl hg) rfl rfl en12 rfl (few_ct hj) ?_)
  refine sG rfl (bG rfl hg) (v_not rfl) (sV (vP (bE rfl hg) rfl) ?_)
  exact hcut _ (uH (by first | rfl | (rw [hg]; rfl) | simp_all) (uS rfl (uS rfl (uS rfl (uR)))))
 refine sV (vM rfl) (st_cut (k := 13) (d := 30) (v := .bool (!smallE y || !fewE jobs || decide (14 < (orders.length : Int)))) (fun hcut => bool_want (b := !smallE y || !fewE jobs) false (fun hg => ?_) (fun hg => ?_)) ?_)
 ·refine st_sk rfl rfl hg ?_
  iterate 2 refine st_sk rfl rfl hg ?_
  refine sV (vQ (bE rfl hg) rfl) ?_
  exact hcut _ (uH (by first | rfl | (rw [hg]; rfl) | simp_all) (uS rfl (uS rfl (uS rfl (uR)))))
 ·skip
  refine sG rfl (bG rfl hg) (vM rfl) (sG rfl (bG rfl hg) (v_len rfl Tryz.underlying92) (sG rfl (bG rfl hg) (v_gtr rfl rfl) (sV (vP (bE rfl hg) rfl) ?_)))
  exact hcut _ (uH (by first | rfl | (rw [hg]; rfl) | simp_all) (uS rfl (uS rfl (uS rfl (uR)))))
 refine sV (vM rfl) (st_cut (k := 21) (d := 38) (v := .bool (!smallE y || !fewE jobs || decide (14 < (orders.length : Int)) || (decide (300 < steps) && decide (steps ≤ 100000)))) (fun hcut => bool_want (b := !smallE y || !fewE jobs || decide (14 < (orders.length : Int))) false (fun hg => ?_) (fun hg => ?_)) ?_)
 ·refine st_sk rfl rfl hg ?_
  iterate 2 refine st_sk rfl rfl hg ?_
  refine st_sku rfl rfl ?_
  refine st_sku rfl rfl ?_
  refine st_sk rfl rfl hg ?_
  refine sV (vQ (bE rfl hg) rfl) ?_
  exact hcut _ (uH (by first | rfl | (rw [hg]; rfl) | simp_all) (uS rfl (uS rfl (uS rfl (uS rfl (uS rfl (uS rfl (uR))))))))
 ·skip
  refine sG rfl (bG rfl hg) (vM rfl) (sG rfl (bG rfl hg) (v_gtr rfl rfl) (sG rfl (bG rfl hg) (vM rfl) (st_cut (k := 20) (d := 37) (v := .bool (decide (300 < steps) && decide (steps ≤ 100000))) (fun hcut => bool_want (b := decide (300 < steps)) true (fun hg1 => ?_) (fun hg1 => ?_)) ?_)))
  ·refine st_sk rfl rfl hg1 ?_
   refine st_sk rfl rfl hg1 ?_
   refine sG rfl (bG rfl hg) (vP (bE rfl hg1) rfl) ?_
   exact hcut _ (uH (by first | rfl | (rw [hg1]; rfl) | simp_all) (uS rfl (uS rfl (uR))))
  ·skip
   refine sG rfl (bG rfl hg1) (vM rfl) (sG rfl (bG rfl hg1) (v_leq rfl rfl) (sG rfl (bG rfl hg) (vQ (bE rfl hg1) rfl) ?_))
   exact hcut _ (uH (by first | rfl | (rw [hg1]; rfl) | simp_all) (uS rfl (uS rfl (uR))))
  refine sV (vP (bE rfl hg) rfl) ?_
  exact hcut _ (uH (by first | rfl | (rw [hg]; rfl) | simp_all) (by repeat (first | exact uR | refine uS rfl ?_)))
 refine sN (nK [1, 2, 3, 4, 8, 38] rfl (nT (cC rfl (fun h0 => ?_) (fun h0 => ?_))))
 ·skip
  refine cS (cR (st_cl rfl rfl en13 rfl (sanity_ct) ?_))
  rintro u h' ⟨rfl, rfl⟩
  refine sV (vA rfl) (sN (nK [8] rfl (nT (cT (xR (xt_law rfl ?_))))))
  refine Sub.sel slq ?_
  repeat apply Sub.cons
  exact Sub.refl _
 ·skip
  rw [Bool.or_eq_false_iff, Bool.or_eq_false_iff, Bool.or_eq_false_iff, Bool.not_eq_false', Bool.not_eq_false', decide_eq_false_iff_not] at h0
  obtain ⟨⟨⟨hsm, hfew⟩, hor⟩, _⟩ := h0
  have hfy := small_fit hsm
  have hfj := few_Fits hfew
  refine cK (xT (cS (cS (cR (sV (vA rfl) (sN (nK [1, 2, 3, 4, 8, 9] rfl (nT (cB (cd_lq (σ := Nat) (fun i => [(1, .slice ja jobs.length jc), (2, .slice oa orders.length oc), (3, .int .i64 steps), (4, .pointer (some ⟨b4, 0, none⟩)), (9, .int .i64 (i : Nat))]) (fun _ => pt b4 (cl [.slice yja y.jobs.length yjc, .slice ypa y.procs.length ypc] 27) :: S :: hr) (fun i => i ≤ orders.length ∧ ∀ (j : Nat) (hj : j < orders.length), j < i → (orders[j]).length ≤ 410) (fun i => orders.length - i) 0 ⟨Nat.zero_le _, fun j _ hj => by omega⟩ ?_))))))))))
  rintro i ⟨hi, hall⟩
  refine cS (cS (cR (sV (vM rfl) (sV (vM rfl) (sV (v_len rfl Tryz.underlying92) (sV (v_lss rfl rfl) (sN (nK [1, 2, 3, 4, 9, 43] rfl (nT (cC rfl (fun hd => ?_) (fun hd => ?_)))))))))))
  ·skip
   have hlt : i < orders.length := by simpa using hd
   obtain ⟨bo, oo, co, uo, hov, hrdo, uo2, huo, hO⟩ := ho.at1 (List.getElem?_eq_getElem hlt)
   simp only [List.cons.injEq, and_true] at huo
   subst huo
   obtain ⟨oa2, oc2, rfl, _⟩ := id hO
   have hll := hO.lenle
   unfold maxLen at hll
   have hgood : (orders[i]).length ≤ 410 → ∀ (j : Nat) (hj : j < orders.length), j < i + 1 → (orders[j]).length ≤ 410 := fun h j hj' hji => by
    by_cases hjk : j = i
    ·subst hjk; exact h
    ·exact hall j hj' (by omega)
   generalize orders[i] = l at *
   refine cK (xT (cS (cB (cS (cR (sV (vM rfl) (sV (vM rfl) (sV (vI (k := i) (congrArg some hov) rfl sl92 rfl hlt rfl) (sV (vY rfl ld74) ?_)))))))))
   refine sV (v_len rfl Tryz.underlying74) (sV (v_gtr rfl rfl) (sV (vM rfl) (st_cut (k := 14) (d := 59) (v := .bool (decide (30 < (l.length : Int)) && decide ((l.length : Int) ≤ 400))) (fun hcut => bool_want (b := decide (30 < (l.length : Int))) true (fun hg => ?_) (fun hg => ?_)) ?_)))
   ·refine st_sk rfl rfl hg ?_
    iterate 5 refine st_sk rfl rfl hg ?_
    refine sV (vP (bE rfl hg) rfl) ?_
    exact hcut _ (uH (by first | rfl | (rw [hg]; rfl) | simp_all) (uS rfl (uS rfl (uS rfl (uS rfl (uS rfl (uS rfl (uR))))))))
   ·skip
    refine sG rfl (bG rfl hg) (vM rfl) (sG rfl (bG rfl hg) (vM rfl) (sG rfl (bG rfl hg) (vI (k := i) (congrArg some hov) rfl sl92 rfl hlt rfl) (sG rfl (bG rfl hg) (vY rfl ld74) ?_)))
    refine sG rfl (bG rfl hg) (v_len rfl Tryz.underlying74) (sG rfl (bG rfl hg) (v_leq rfl rfl) (sV (vQ (bE rfl hg) rfl) ?_))
    exact hcut _ (uH (by first | rfl | (rw [hg]; rfl) | simp_all) (uS rfl (uS rfl (uS rfl (uS rfl (uS rfl (uS rfl (uR))))))))
   refine sV (vM rfl) (st_cut (k := 22) (d := 67) (v := .bool ((decide (30 < (l.length : Int)) && decide ((l.length : Int) ≤ 400)) || decide (410 < (l.length : Int)))) (fun hcut => bool_want (b := decide (30 < (l.length : Int)) && decide ((l.length : Int) ≤ 400)) false (fun hg => ?_) (fun hg => ?_)) ?_)
   ·refine st_sk rfl rfl hg ?_
    iterate 5 refine st_sk rfl rfl hg ?_
    refine sV (vQ (bE rfl hg) rfl) ?_
    exact hcut _ (uH (by first | rfl | (rw [hg]; rfl) | simp_all) (uS rfl (uS rfl (uS rfl (uS rfl (uS rfl (uS rfl (uR))))))))
   ·skip
    refine sG rfl (bG rfl hg) (vM rfl) (sG rfl (bG rfl hg) (vM rfl) (sG rfl (bG rfl hg) (vI (k := i) (congrArg some hov) rfl sl92 rfl hlt rfl) (sG rfl (bG rfl hg) (vY rfl ld74) ?_)))
    refine sG rfl (bG rfl hg) (v_len rfl Tryz.underlying74) (sG rfl (bG rfl hg) (v_gtr rfl rfl) (sV (vP (bE rfl hg) rfl) ?_))
    exact hcut _ (uH (by first | rfl | (rw [hg]; rfl) | simp_all) (uS rfl (uS rfl (uS rfl (uS rfl (uS rfl (uS rfl (uR))))))))
   refine sN (nK [1, 2, 3, 4, 9, 67] rfl (nT (cC rfl (fun hq => ?_) (fun hq => ?_))))
   ·skip
    refine cS (cR (st_cl rfl rfl en13 rfl (sanity_ct) ?_))
    rintro u h' ⟨rfl, rfl⟩
    refine sV (vA rfl) (sN (nK [8] rfl (nT (cT (xW (xR (xR (xW (xR (xt_law rfl ?_))))))))))
    refine Sub.sel slq ?_
    repeat apply Sub.cons
    exact Sub.refl _
   ·skip
    refine cK (xB (xT (cR (sV (vM rfl) (sV (v_add rfl rfl (by unfold I64 at *; omega)) (sV (vA rfl) (sN (nK [1, 2, 3, 4, 9] rfl (nx_xt ?_)))))))))
    refine xt_aq (i + 1) ⟨hlt, hgood (by
     rw [Bool.or_eq_false_iff, decide_eq_false_iff_not] at hq
     omega)⟩ (by show _ - _ < _ - _; omega)
  ·skip
   have hil : i = orders.length := by
    have : ¬ i < orders.length := by simpa using hd
    omega
   have hol2 : ∀ l ∈ orders, l.length ≤ 1000000 := fun l hl => by
    obtain ⟨j, hj', rfl⟩ := List.getElem_of_mem hl
    have := hall j hj' (by omega)
    omega
   refine cd_exit (xE (xE (xY (xT (cS (cR (sV (v_ldn rfl ld27 rfl rds_pt) ?_)))))))
   refine st_cl rfl rfl en38 rfl (Orders_ct hy hfy) ?_
   rintro u h' ⟨T1, rfl, v1, rfl, hr1⟩
   obtain ⟨o1, c1, rfl, _⟩ := id hr1
   refine sV (vM rfl) (sV (v_extract rfl rfl) (sV (v_extract rfl rfl) (sV (vA rfl) (sV (vA rfl) (sN (nK [1, 2, 3, 4, 10, 11] rfl (nT (cS (cR (sV (v_ldn rfl ld27 rfl rds_pt) ?_))))))))))
   refine st_cl rfl rfl en39 rfl (rOrders_ct hy hfy) ?_
   rintro u h' ⟨T2, rfl, v2, rfl, hr2⟩
   obtain ⟨o2, c2, rfl, _⟩ := id hr2
   have hpl : ∀ l ∈ (ordersE y).1, l.length ≤ 1000000 := fun l hl => by
    unfold ordersE at hl
    split at hl
    ·obtain ⟨p, hp, rfl⟩ := List.mem_map.1 hl
     exact (hfy.2.2 p hp).2.1
    ·cases hl
   have hpn : (ordersE y).1.length ≤ 1000000 := by
    unfold ordersE
    split
    ·simp only [List.length_map]; exact hfy.2.1
    ·simp
   generalize ordersE y = oe at *
   obtain ⟨ol, e1⟩ := oe
   simp only at hr1 hr2 hpl hpn ⊢
   simp only [List.cons_append, List.nil_append]
   refine st_alc al96 fun b12 => ?_
   refine st_stoW rfl rfl sz96 rfl rfl ?_
   refine sN (nK [1, 2, 3, 10, 11, 12] rfl (nT (cS (cR (sV (vM rfl) (sV (vM rfl) (sV (vM rfl) (st_cl rfl rfl en40 rfl (Replay1_ct hj hfj ho (by omega) hol2) ?_))))))))
   rintro u h' ⟨T3, rfl, ys3, rfl, hy3⟩
   obtain ⟨ja3, pa3, rfl, hc1, hc2⟩ := yardR_cells hy3
   simp only [List.cons_append, List.nil_append]
   refine sV (vM rfl) (sV (v_extract rfl rfl) (sV (v_extract rfl rfl) (st_alc al27 fun b13 => ?_)))
   refine st_stoW rfl rfl sz27 rfl (by simp [hc1, hc2]) ?_
   refine sV (vA rfl) (sN (nK [1, 2, 3, 10, 11, 12, 13, 14] rfl (nT (cS (cR (sV (vM rfl) (sV (vM rfl) (sV (vM rfl) (st_cl rfl rfl en41 rfl (rReplay_ct hj hfj ho (by omega) hol2) ?_)))))))))
   rintro u h' ⟨T4, rfl, ys4, rfl, hy4⟩
   obtain ⟨ja4, pa4, rfl, hd1, hd2⟩ := yardR_cells hy4
   simp only [List.cons_append, List.nil_append]
   have hrf := replay_fit (jobs := jobs) (orders := orders) (steps := steps) (by omega)
   generalize replayE jobs orders steps = rp at *
   obtain ⟨rz, re⟩ := rp
   simp only at hy3 hy4 hrf ⊢
   refine st_alc al32 fun b15 => ?_
   refine st_stoW rfl rfl sz32 rfl (by rw [List.all_cons, List.all_cons, hd1, hd2]; rfl) ?_
   refine sN (nK [10, 11, 12, 13, 14, 15] rfl (nT (cS (cR (sV (v_ldn rfl ld27 rfl rds_pt) ?_)))))
   refine sV (vF rfl fa32_0 rfl) (sV (v_ldn (vs := [ja4, pa4]) rfl ld27 rfl (rds_sub rds_pt rfl)) ?_)
   refine st_clr rfl rfl en16 rfl (reads_star (sameYards_ct (S := Res.star [T3, T4, S]) (hy3.mono (rd_in .here)) (hy4.mono rd_tail) hrf)) ?_
   rw [show decide (rz = rz) = true from decide_eq_true rfl]
   refine sV (vA rfl) (sN (nK [10, 11, 12, 14, 15, 16] rfl (nT (cS (cS (cR (sV (vM rfl) (sV (v_len rfl Tryz.underlying92) (sV (vF rfl fa96_0 rfl) (sV (vY rfl ld92) ?_))))))))))
   refine sV (v_len rfl Tryz.underlying92) (sV (v_is (show Value.bool ((ol.length : Int) != (ol.length : Int)) = .bool false by simp) (v_neq rfl rfl)) ?_)
   refine sN (nK [10, 11, 12, 14, 15, 16, 96] rfl (nT (cd_false rfl ?_)))
   refine cK (xT (cS (cS (cR (sV (vA rfl) (sN (nK [10, 11, 12, 14, 15, 16, 17] rfl (nT (cB (cd_lq (σ := Nat) (fun i => [(10, .slice o1 ol.length c1), (11, .int .i64 e1), (12, .pointer (some ⟨b12, 0, none⟩)), (14, .int .i64 re), (15, .pointer (some ⟨b15, 0, none⟩)), (16, .bool true), (17, .int .i64 (i : Nat))]) (fun _ => pt b12 (cl [.slice o2 ol.length c2, .int .i64 e1] 96) :: pt b15 (cl [ja4, pa4, .int .i64 re] 32) :: T1 :: T2 :: S :: hr) (fun i => i ≤ ol.length) (fun i => ol.length - i) 0 (Nat.zero_le _) ?_))))))))))
   intro i2 hi2
   refine cS (cS (cR (sV (vM rfl) (sV (vM rfl) (sV (v_len rfl Tryz.underlying92) (sV (v_lss rfl rfl) (sN (nK [10, 11, 12, 14, 15, 16, 17, 100] rfl (nT (cC rfl (fun hd2 => ?_) (fun hd2 => ?_)))))))))))
   ·skip
    have hlt : i2 < ol.length := by simpa using hd2
    obtain ⟨k1, k2, k5, ku, hkv, hkrd, kv, hku, hA⟩ := hr1.at1 (List.getElem?_eq_getElem hlt)
    obtain ⟨k1', k2', k5', ku', hkv', hkrd', kv', hku', hA'⟩ := hr2.at1 (List.getElem?_eq_getElem hlt)
    simp only [List.cons.injEq, and_true] at hku hku'
    subst hku hku'
    obtain ⟨aa, ac, rfl, _⟩ := id hA
    obtain ⟨aa', ac', rfl, _⟩ := id hA'
    refine cd_pv (pv_pack (L := [T2, S])) ?_
    refine cK (xT (cS (cB (cd_drawh (ork [(0, 2), (1, 2), (2, 2), (3, 2), (4, 2), (5, 1), (6, 2), (7, 1), (8, 2), (9, 2), (10, 1), (11, 1), (12, 2), (13, 2)] .nil) (fun _ => true) mixed (by kernel_rfl) ?_))))
    refine dV rfl (vM rfl) (dV rfl (vM rfl) (dp_vg rfl rfl rfl (vM rfl) (dp_vg rfl rfl rfl (vM rfl) (dp_vg rfl rfl rfl (vI (k := i2) (congrArg some hkv) rfl sl92 rfl hlt rfl) (dr_vg rfl rfl rfl (vY rfl ld74) ?_)))))
    refine dp_vg rfl rfl rfl (vF rfl fa96_0 rfl) (dr_vg rfl rfl rfl (vY rfl ld92) ?_)
    refine dp_vg rfl rfl rfl (vM rfl) (dp_vg rfl rfl rfl (vI (k := i2) (congrArg some hkv') rfl sl92 rfl hlt rfl) (dr_vg rfl rfl rfl (vY rfl ld74) ?_))
    refine dr_clrg rfl rfl rfl rfl rfl en42 rfl (reads_star (same42_ct (S := Res.star [T1, Res.star [T2, S]]) (hA.mono (rd_in .here) fun _ _ _ h => h) (hA'.mono (rd_in (.there .here)) fun _ _ _ h => h) (hpl _ (List.getElem_mem hlt)))) ?_
    rw [show (ol[i2] == ol[i2]) = true from beq_self_eq_true _]
    refine dV rfl (vQ rfl rfl) (dV rfl (vA rfl) (dr_nil (nK [10, 11, 12, 14, 15, 16, 17] rfl (nx_xt (xB (xT (cR (sV (vM rfl) (sV (v_add rfl rfl (by unfold I64 at *; omega)) (sV (vA rfl) (sN (nK [10, 11, 12, 14, 15, 16, 17] rfl (nx_xt (xt_pv (pv_unpack (L := [T2, S])) ?_))))))))))))))
    refine xt_aq (i2 + 1) hlt (by show _ - _ < _ - _; omega)
   ·skip
    refine cd_exit (xE (xE (xY (xT (cS (cR (st_cl rfl rfl en13 rfl (sanity_ct) ?_)))))))
    rintro u h' ⟨rfl, rfl⟩
    refine sV (vM rfl) (sG rfl rfl (vM rfl) (sV (vQ rfl rfl) (sV (vM rfl) (sG rfl rfl (vM rfl) (sG rfl rfl (vF rfl fa96_1 rfl) (sG rfl rfl (vY rfl ld28) ?_))))))
    refine sG rfl rfl (v_is (show Value.bool (e1 == e1) = .bool true by simp) (v_eql rfl rfl)) ?_
    refine sV (vQ rfl rfl) (sV (vM rfl) (sG rfl rfl (vM rfl) (sG rfl rfl (vF rfl fa32_1 rfl) (sG rfl rfl (vY rfl ld28) ?_))))
    refine sG rfl rfl (v_is (show Value.bool (re == re) = .bool true by simp) (v_eql rfl rfl)) ?_
    refine sV (vQ rfl rfl) (sV (vA rfl) (sN (nK [8] rfl (nT (cT (xt_law rfl ?_))))))
    refine Sub.sel slq ?_
    repeat apply Sub.cons
    exact Sub.refl _
end
end Go.Wt
namespace Go.Wt
open Go Go.RowKit Go.ChangeShapes Go.WideShapes Go.Ck
def orderOf (x : (Ty.slice keyTy).D) : List Key := (show List keyTy.D from x).map keyOf
theorem order_of {r : Res} {us : List Value} {x : (Ty.slice keyTy).D} (hl : us.length = 1) (h : Rep r (.slice keyTy) us x) : nR r 2 kC us (orderOf x) := by
 obtain ⟨a, rfl⟩ := one_cell hl
 exact ⟨a, rfl, row_of keyOf (eqC kC) (fun _ _ h => key_of h) h⟩
theorem orders_of {r : Res} {v : Value} {y : (Ty.slice (.slice keyTy)).D} (h : Rep r (.slice (.slice keyTy)) [v] y) : Row r 1 (nR r 2 kC) v ((show List (Ty.slice keyTy).D from y).map orderOf) :=
 row_of (t := .slice keyTy) orderOf (nR r 2 kC) (fun _ _ h => order_of (rep_len (t := keyTy) h) h) h
end Go.Wt
namespace Go.Proofs.YtboepbencndobaaGreat
open Go Go.RowKit Go.ChangeShapes Go.WideShapes Go.Ck Go.Wt
set_option maxRecDepth 100000 in
theorem waitReplays_lifted (os : Os) (started : os.Started) (H : Type) (enc : TypeId × Value → H) :
  ReturnsInHanded {} Tryz.checked os 9 .any (Rows.waitReplaysSpec.pre6 enc Tryz.prog Tryz.f9 Rows.waitReplaysRow.domain false) (Rows.waitReplaysSpec.post enc Tryz.prog Tryz.f9 false true false false) := by
 refine returnsInHanded_of_change (C := Tryz.checked) (show ownKnob Tryz.prog.godebug = none by kernel_rfl) started (by kernel_rfl) Tryz.func9
  (ChangeSpec.witness6 (enc := enc) (C := Tryz.checked) false ⟨#[], #[.agg #[.slice none 0 0, .slice none 0 0], .slice none 0 0, .slice none 0 0, .int .i64 0], []⟩ 8 (by kernel_rfl) (by kernel_rfl) (by kernel_rfl) (by kernel_rfl)) ?_
 intro W base args ds gs before hval0 hW hcnd _
 have hval : ∀ (j : Nat) t v, Tryz.f9.params[j]? = some t → args[j]? = some v → Value.okWide Tryz.prog W .any base t v := hval0
 have hW' := hW
 obtain ⟨p, q, hA0, hV, rfl, hfz, hnd⟩ := hW
 have hA : DataW.TrodAll enc Tryz.prog W 0 (fun _ => true) true Tryz.f9.params.toList args.toList ds p := hA0
 rw [Tryz.params9] at hA hval
 obtain ⟨v0, vs0, d0, ds0, p0, q0, hargs, rfl, rfl, h0, r0⟩ := trodAll_cons hA
 obtain ⟨v1, vs1, d1, ds1, p1, q1, rfl, rfl, rfl, h1, r1⟩ := trodAll_cons r0
 obtain ⟨v2, vs2, d2, ds2, p2, q2, rfl, rfl, rfl, h2, r2⟩ := trodAll_cons r1
 obtain ⟨v3, vs3, d3, ds3, p3, q3, rfl, rfl, rfl, h3, r3⟩ := trodAll_cons r2
 obtain ⟨rfl, rfl, rfl⟩ := trodAll_nil r3
 obtain rfl : args = #[v0, v1, v2, v3] := by cases args; simp_all
 obtain ⟨rfl, rfl⟩ := trodVars_none hV
 obtain ⟨y0, e0⟩ := arg_rep (ty := yardTy) (by kernel_rfl) h0
 have g0 := okWide_agg (Tryz.underlying27) (hval 0 27 v0 rfl rfl)
 obtain ⟨y1, e1⟩ := arg_one (ty := .slice jobTy) (by kernel_rfl) (by kernel_rfl) (hval 1 22 v1 rfl rfl) h1
 obtain ⟨y2, e2⟩ := arg_one (ty := .slice (.slice keyTy)) (by kernel_rfl) (by kernel_rfl) (hval 2 92 v2 rfl rfl) h2
 obtain ⟨y3, e3⟩ := arg_one (ty := .int .i64) (by kernel_rfl) (by kernel_rfl) (hval 3 3 v3 rfl rfl) h3
 have s0 := yard_of e0
 have c0 : v0 = .agg (v0.cells.toList).toArray := by rw [Array.toArray_toList]; exact g0
 generalize v0.cells.toList = us0 at s0 c0
 subst c0
 have s1 := jobs_of e1
 have s2 := orders_of e2
 obtain ⟨rfl, w3⟩ := rep_kind e3
 refine (ct_calls (waitReplays_ct s0 s1 s2 (wf_I64 w3)) fun v h' h => ⟨h.1, by rw [h.2]; exact .refl _⟩).mono fun e W' ⟨he, hk⟩ => ⟨_, he, ?_⟩
 exact law_post (tys := [yardTy, .slice jobTy, .slice (.slice keyTy), .int .i64]) hW' rfl (by kernel_rfl) Tryz.underlying4 (by rw [Tryz.params9]; kernel_rfl) rfl hk
theorem waitReplays_holds : Rows.WaitReplaysSaid :=
 OpenClaim.holds_of_wide 9 Tryz.f9 rfl rfl rfl rfl rfl rfl rfl ⟨rfl, rfl, rfl, rfl, rfl⟩ rfl rfl rfl rfl rfl (by kernel_rfl) Tryz.func9 (by kernel_rfl)
  (of_decide_eq_true (by kernel_rfl)) (by unfold Func.isWrapper; first | (rw [if_pos (by decide +kernel)]; kernel_rfl) | (rw [if_neg (by decide +kernel)]; exact ⟨rfl, rfl⟩))
  (fun os started H enc _ => waitReplays_lifted os started H enc)
end Go.Proofs.YtboepbencndobaaGreat
