/-
  Package wait: for whom one waits; rings. Conditions: what is read, that lists are not too long.
  Package wait: Ring, CheckRing, Orders. Conditions: what is read, that lists are not too long.
  Rings: what the search for one finds. Nothing of the program is named here. No condition.
  Where nobody can go on all is idle, or there is a ring; a ring stays one. Nothing of the program is named here. No condition.
  Jobs that send requests to greater processors alone: no ring, nothing failed; such jobs made. Nothing of the program is named here. No condition.
  Package wait: Orders, Blocks. Conditions: what is read, that lists are not too long.
  Package wait: Blocks. Conditions: what is read, that lists are not too long.
-/
import Derived.Test.YtboepbencndobaaGreatM7
import Derived.Test.YtboepbencndobaaGreatM4
import Derived.Test.YtboepbencndobaaGreatM5
set_option linter.unusedVariables false
set_option linter.unusedSimpArgs false
namespace Go.Wt
open Go Go.Ck Go.Proofs Go.Proofs.YtboepbencndobaaGreat Fx
attribute [local irreducible] St Cd Xt Nx DrL LsW
def Proc.waitsFor (p : Proc) : Int := if 0 ≤ p.waits then p.waits else if p.state = 4 then (p.lines.headD Line.none).key.1 else -1
theorem right_pr {y : Yard} (h : y.right = true) {i : Nat} (hi : i < y.procs.length) : (y.procs[i]).right i y = true := by
  unfold Yard.right at h
  rw [Bool.and_eq_true] at h
  have := List.all_eq_true.1 h.2 i (by simpa using hi)
  rwa [pr_get hi] at this
theorem state4 {p : Proc} (h : p.state = 4) : ∃ l ls, p.lines = l :: ls := by
  unfold Proc.state at h
  split at h
  · cases h
  · split at h
    · cases h
    · cases hl : p.lines with
      | nil => rw [hl] at h; cases h
      | cons l ls => exact ⟨l, ls, rfl⟩
theorem waitsFor_lt {y : Yard} (h : y.right = true) {i : Nat} (hi : i < y.procs.length) (h0 : 0 ≤ (y.procs[i]).waitsFor) : ((y.procs[i]).waitsFor).toNat < y.procs.length := by
  have hr := right_pr h hi
  generalize y.procs[i] = p at *
  rw [right_g] at hr
  simp only [Bool.and_eq_true, Bool.not_eq_true'] at hr
  obtain ⟨⟨⟨_, h2⟩, _⟩, h4⟩ := hr
  unfold Proc.waitsFor at h0 ⊢
  split at h0
  · rename_i hw
    rw [if_pos hw]
    unfold Proc.g2 within at h2
    simp only [Bool.or_eq_false_iff, Bool.not_eq_false', Bool.and_eq_true, decide_eq_true_eq] at h2
    omega
  · rename_i hw
    rw [if_neg hw]
    split at h0
    · rename_i hs
      rw [if_pos hs]
      obtain ⟨l, ls, hl⟩ := state4 hs
      rw [hl] at h0 ⊢
      unfold Proc.g4 at h4
      rw [hl] at h4
      simp only [Bool.or_eq_false_iff, Bool.not_eq_false', List.all_cons, Bool.and_eq_true] at h4
      have := h4.1.1.1.1
      unfold lineOk keyed within at this
      simp only [Bool.and_eq_true, decide_eq_true_eq] at this
      simp only [List.headD_cons] at h0 ⊢
      omega
    · omega
section
variable {S : Res}
set_option maxRecDepth 100000 in
theorem waits_ct {jv pv : Value} {procs : List Proc} {i : Nat} (hp : Row S 9 (procR S) pv procs) (hi : i < procs.length) : Reads Tryz.prog 81 #[.agg #[jv, pv], .int .i64 i] [S] (.int .i64 (procs[i]).waitsFor) := by
  obtain ⟨b, off, cp2, us, rfl, hus, hrd, lv, pv', hv, dv, rfl, hL, hP, hH, hD⟩ := hp.at (List.getElem?_eq_getElem hi)
  have hst := state_ct (jv := jv) hp hi
  obtain ⟨al, cl', rfl, _⟩ := id hL
  obtain ⟨ap', cp', rfl, _⟩ := id hP
  obtain ⟨ah, ch', rfl, _⟩ := id hH
  obtain ⟨ad, cd', rfl, _⟩ := id hD
  generalize hpe : procs[i] = p at *
  generalize hw : p.waitsFor = w
  unfold Proc.waitsFor at hw
  refine ct_of (n := 28) Tryz.func81 rfl rfl (len rfl) fun hr w0 => ?_
  refine cS (cR (st_bx rfl rfl fun b2 => ?_))
  refine sV (vA rfl) (sN (nK [1, 2, 4] rfl (nT (cS (cR (sV (vF rfl fa27_1 rfl) (sV (v_ldy rfl ld25) ?_)))))))
  refine sV (vM rfl) (sV (v_indexAddr (k := i) rfl rfl sl25 rfl hi rfl) (sV (v_ldn rfl ld77 hus hrd) ?_))
  refine st_alc al77 fun b5 => ?_
  refine st_stoW rfl rfl sz77 rfl rfl ?_
  refine sN (nK [1, 2, 4, 5] rfl (nT (cS (cd_block (cS (cR (sV (vF rfl fa77_6 rfl) (sV (v_ldy rfl ld3) ?_))))))))
  refine sV (v_geq rfl rfl) (sV (vA rfl) (sN (nK [1, 2, 4, 5, 11] rfl (nT (cC rfl (fun h1 => ?_) (fun h1 => ?_))))))
  · skip
    refine cS (cR (sV (vF rfl fa77_6 rfl) (sV (v_ldy rfl ld3) ?_)))
    refine sV (vA rfl) (sN (nK [4] rfl (nT (cT (xt_ret_block (xR ?_))))))
    rw [if_pos (by simpa using h1)] at hw
    subst hw
    exact xt_rt rfl ⟨rfl, rfl⟩
  · skip
    rw [if_neg (by simpa using h1)] at hw
    refine cS (cR (sV (v_ldn rfl ld27 rfl rds_pt) ?_))
    refine sV (vM rfl) (st_clr rfl rfl en68 rfl (hst) ?_)
    refine sV (v_eql rfl rfl) (sV (vA rfl) (sN (nK [4, 5, 17] rfl (nT (cC rfl (fun h2 => ?_) (fun h2 => ?_))))))
    · skip
      refine cS (cR (sV (vF rfl fa77_0 rfl) (sV (v_ldy rfl ld73) ?_)))
      have h2' : p.state = 4 := by simpa using h2
      rw [if_pos h2'] at hw
      obtain ⟨l, ls, hl⟩ := state4 h2'
      rw [hl] at hw
      obtain ⟨b2, o2, cp3, us2, hv2, hus2, hrd2, av, rfl, hA⟩ := hL.at (show p.lines[0]? = some l by rw [hl]; rfl)
      refine sV (v_indexAddr (k := 0) (congrArg some hv2) rfl sl73 rfl (by rw [hl]; simp) rfl) ?_
      refine sV (vF rfl fa120_0 rfl) (sV (vF rfl fa79_0 rfl) (sV (v_ldy rfl ld3) ?_))
      refine sV (vA rfl) (sN (nK [4] rfl (nT (cT (xt_ret_block (xR ?_))))))
      subst hw
      exact xt_rt rfl ⟨rfl, rfl⟩
    · skip
      rw [if_neg (by simpa using h2)] at hw
      subst hw
      refine cK (xB (xT (cS (cR (sV (vA rfl) (sN (nK [4] rfl (nT (cT ?_)))))))))
      exact xt_rt rfl ⟨rfl, rfl⟩
end
def ringAt (w : Nat → Int) (n i : Nat) : Nat → List Int → Int → Option (List Int)
  | 0, _, _ => none
  | f + 1, l, x => if 0 ≤ x ∧ l.length ≤ n then (if x = i then (if 1 < l.length then some l else none) else ringAt w n i f (l ++ [x]) (w x.toNat)) else none
def Yard.wf (y : Yard) (i : Nat) : Int := (y.pr i).waitsFor
def ringE (y : Yard) : List Int := ((List.range y.procs.length).findSome? fun i => ringAt y.wf y.procs.length i (y.procs.length + 1) [(i : Int)] (y.wf i)).getD []
theorem ringE_some {y : Yard} {i : Nat} {l : List Int} (hi : i < y.procs.length) (hl : ringAt y.wf y.procs.length i (y.procs.length + 1) [(i : Int)] (y.wf i) = some l) (hb : ∀ k, k < i → ringAt y.wf y.procs.length k (y.procs.length + 1) [(k : Int)] (y.wf k) = none) : ringE y = l := by
  have key : ∀ (n m : Nat), m ≤ i → i < m + n → ((List.range' m n).findSome? fun i => ringAt y.wf y.procs.length i (y.procs.length + 1) [(i : Int)] (y.wf i)) = some l := by
    intro n
    induction n with
    | zero => intro m h1 h2; omega
    | succ n ih =>
      intro m h1 h2
      rw [List.range'_succ, List.findSome?_cons]
      by_cases hm : m = i
      · subst hm; rw [hl]
      · rw [hb m (by omega)]; exact ih (m + 1) (by omega) (by omega)
  unfold ringE
  rw [List.range_eq_range', key _ 0 (Nat.zero_le _) (by omega)]
  rfl
theorem ringE_none {y : Yard} (hb : ∀ k, k < y.procs.length → ringAt y.wf y.procs.length k (y.procs.length + 1) [(k : Int)] (y.wf k) = none) : ringE y = [] := by
  unfold ringE
  rw [List.findSome?_eq_none_iff.2 fun k hk => hb k (by simpa using hk)]
  rfl
section
variable {S : Res}
set_option maxRecDepth 100000 in
theorem ring_ct {ys : List Value} {y : Yard} (hy : yardR S ys y) (hf : Fit y) (hyr : y.right = true) : CtN Tryz.prog 77 #[.agg ys.toArray] [S] fun u T => T = VR u 3 1 ((ringE y).map iC) ∧ u.oneCell' = true := by
  obtain ⟨jv, pv, rfl, hj, hp⟩ := id hy
  obtain ⟨ap, cp, rfl, _⟩ := id hp
  have hfp := hf.2.1
  refine ct_of (n := 47) Tryz.func77 rfl rfl (len rfl) fun hr w0 => ?_
  refine cS (cR (st_bx rfl rfl fun b1 => ?_))
  refine sV (vA rfl) (sN (nK [1, 2] rfl (nT (cS (cS (cR (sV (vF rfl fa27_1 rfl) (sV (v_ldy rfl ld25) ?_))))))))
  refine sV (v_len rfl Tryz.underlying25) (sV (vM rfl) (sN (nK [1, 2, 8, 9] rfl (nT (cd_block (cd_lp (σ := Nat) (fun i => [(1, .pointer (some ⟨b1, 0, none⟩)), (8, .int .i64 y.procs.length), (9, .int .i64 (i : Nat))]) (fun _ => pt b1 (cl [jv, .slice ap y.procs.length cp] 27) :: S :: hr) (fun i => i ≤ y.procs.length ∧ ∀ k, k < i → ringAt y.wf y.procs.length k (y.procs.length + 1) [(k : Int)] (y.wf k) = none) (fun i => y.procs.length - i) 0 ⟨Nat.zero_le _, fun k hk => by omega⟩ ?_))))))
  rintro i ⟨hi, hall⟩
  refine cS (cR (sV (v_lss rfl rfl) (sN (nT (cS (cC rfl (fun hd => ?_) (fun hd => ?_)))))))
  · skip
    have hlt : i < y.procs.length := by simpa using hd
    refine cK (xT (cS (cd_block (cS (cR (sV (vM rfl) (sV (vA rfl) (sN (nK [1, 3, 8, 9] rfl (nT (cS (cR (sV (vM rfl) (st_buildSlice (cells := [.int .i64 i]) rfl Tryz.underlying43 inf3 rfl rfl (by kernel_rfl) (ltn rfl) fun b13 => ?_))))))))))))))
    refine sV (vA rfl) (sN (nK [1, 3, 4, 8, 9] rfl (nT (cS (cR (sV (v_ldn rfl ld27 rfl rds_pt) ?_))))))
    refine sV (vM rfl) (st_clr rfl rfl en81 rfl (waits_ct hp hlt) ?_)
    refine sV (vA rfl) (sN (nK [1, 3, 4, 5, 8, 9] rfl (nT (cd_block ?_))))
    have hwi : (y.procs[i]).waitsFor = y.wf i := by unfold Yard.wf; rw [pr_get hlt]
    rw [hwi]
    refine cd_pv (pv_of (E := 3) (sz := 1) [iC (i : Int)] rfl (by simp [iC]) rfl (show 1 ≤ maxLen by decide)) ?_
    generalize hg0 : ringAt y.wf y.procs.length i (y.procs.length + 1) [(i : Int)] (y.wf i) = g0
    refine cd_lp (σ := List Int × Int × Value) (fun s => [(1, .pointer (some ⟨b1, 0, none⟩)), (3, .int .i64 (i : Nat)), (4, s.2.2), (5, .int .i64 s.2.1), (8, .int .i64 y.procs.length), (9, .int .i64 (i : Nat))]) (fun s => VR s.2.2 3 1 (s.1.map iC) :: pt b1 (cl [jv, .slice ap y.procs.length cp] 27) :: S :: hr) (fun s => 1 ≤ s.1.length ∧ s.1.length ≤ y.procs.length + 1 ∧ (0 ≤ s.2.1 → s.2.1.toNat < y.procs.length) ∧ ringAt y.wf y.procs.length i (y.procs.length + 2 - s.1.length) s.1 s.2.1 = g0) (fun s => y.procs.length + 1 - s.1.length) ([(i : Int)], y.wf i, .slice (some ⟨b13, 0, none⟩) 1 1) ⟨by simp, by simp, fun h => by rw [← hwi] at h ⊢; exact waitsFor_lt hyr hlt h, hg0⟩ ?_
    rintro ⟨l, x, v⟩ ⟨hl1, hln, hx, hg⟩
    simp only at hl1 hln hx hg
    refine cd_row (v := v) (by repeat (first | exact Sel.here | apply Sel.there)) (fun h0 hr0 => by simp at hr0; subst hr0; simp at hl1) (fun vb vo vc hve _ _ => ?_)
    simp only [List.length_map] at hve
    subst hve
    refine cS (cS (cR (sV (vM rfl) (sV (v_geq rfl rfl) (sV (vM rfl) (st_cut (k := 10) (d := 26) (v := .bool (decide (0 ≤ x) && decide ((l.length : Int) ≤ y.procs.length))) (fun hcut => bool_want (b := decide (0 ≤ x)) true (fun hg => ?_) (fun hg => ?_)) ?_))))))
    · refine st_sk rfl rfl hg ?_
      refine st_sk rfl rfl hg ?_
      refine st_sk rfl rfl hg ?_
      refine st_sk rfl rfl hg ?_
      refine st_sk rfl rfl hg ?_
      refine st_sk rfl rfl hg ?_
      refine sV (vP (bool_ev rfl hg) rfl) ?_
      exact hcut _ (ssub_head (by first | rfl | (rw [hg]; rfl) | simp_all) (uS rfl (uS rfl (uS rfl (uS rfl (uS rfl (uS rfl (ssub_refl))))))))
    · skip
      refine st_vg rfl (bG rfl hg) (vM rfl) (st_vg rfl (bG rfl hg) (v_len rfl Tryz.underlying43) (st_vg rfl (bG rfl hg) (vF rfl fa27_1 rfl) (st_vg rfl (bG rfl hg) (v_ldy rfl ld25) ?_)))
      refine st_vg rfl (bG rfl hg) (v_len rfl Tryz.underlying25) (st_vg rfl (bG rfl hg) (v_leq rfl rfl) (sV (v_pick_true (bool_ev rfl hg) rfl) ?_))
      exact hcut _ (ssub_head (by first | rfl | (rw [hg]; rfl) | simp_all) (uS rfl (uS rfl (uS rfl (uS rfl (uS rfl (uS rfl (ssub_refl))))))))
    refine sN (nK [1, 3, 4, 5, 8, 9, 26] rfl (nT ?_))
    rw [show y.procs.length + 2 - l.length = (y.procs.length + 1 - l.length) + 1 by omega] at hg
    unfold ringAt at hg
    refine cC rfl (fun h1 => ?_) (fun h1 => ?_)
    · skip
      refine cK (xT (cS (cd_block (cS (cS (cR (sV (vM rfl) (sV (vM rfl) (sV (v_eql rfl rfl) (sV (vM rfl) ?_))))))))))
      have h1' : 0 ≤ x ∧ l.length ≤ y.procs.length := by simp at h1; omega
      rw [if_pos h1'] at hg
      refine st_cut (k := 8) (d := 37) (v := .bool ((x == (i : Int)) && decide (1 < (l.length : Int)))) (fun hcut => bool_want (b := (x == (i : Int))) true (fun hg => ?_) (fun hg => ?_)) ?_
      · refine st_sk rfl rfl hg ?_
        refine st_sk rfl rfl hg ?_
        refine st_sk rfl rfl hg ?_
        refine sV (vP (bool_ev rfl hg) rfl) ?_
        exact hcut _ (ssub_head (by first | rfl | (rw [hg]; rfl) | simp_all) (uS rfl (uS rfl (uS rfl (ssub_refl)))))
      · skip
        refine st_vg rfl (bG rfl hg) (vM rfl) (st_vg rfl (bG rfl hg) (v_len rfl Tryz.underlying43) (st_vg rfl (bG rfl hg) (v_gtr rfl rfl) (sV (v_pick_true (bool_ev rfl hg) rfl) ?_)))
        exact hcut _ (ssub_head (by first | rfl | (rw [hg]; rfl) | simp_all) (uS rfl (uS rfl (uS rfl (ssub_refl)))))
      refine sN (nK [1, 3, 4, 5, 8, 9, 37] rfl (nT (cC rfl (fun h2 => ?_) (fun h2 => ?_))))
      · skip
        refine cS (cR (sV (vM rfl) (sV (vA rfl) (sN (nK [1, 2, 3, 4, 5, 8, 9] rfl (nT (cT (xR (xt_ret_block (xR (xR (xt_ret_block (xt_ret_block (xR (xR ?_)))))))))))))))
        refine xt_ret_block (xR ?_)
        have h2' : x = i ∧ 1 < l.length := by simp at h2; omega
        rw [if_pos h2'.1, if_pos h2'.2] at hg
        subst hg
        rw [ringE_some hlt hg0 hall]
        exact xt_rt rfl ⟨_, rfl, rfl, rfl⟩
      · skip
        refine cK (xT (cS (cS (cR (sV (vM rfl) (sV (vM rfl) (sV (v_eql rfl rfl) (sN (nK [1, 3, 4, 5, 8, 9, 41] rfl (nT (cC rfl (fun h3 => ?_) (fun h3 => ?_))))))))))))
        · skip
          refine cd_exit (xE (xt_exit_block_ne (by decide) ?_))
          refine xE (xE (xt_exit_block (xB (xT (cR (sV (v_add rfl rfl (by unfold I64 at *; omega)) (sV (vM rfl) (sN (nK [1, 8, 9] rfl (nx_xt ?_))))))))))
          have h3' : x = i := by simpa using h3
          have h4 : ¬ 1 < l.length := fun h => by rw [h3] at h2; simp at h2; omega
          rw [if_pos h3', if_neg h4] at hg
          subst hg
          refine xt_ag (i + 1) ⟨hlt, fun k hk => ?_⟩ (by show _ - _ < _ - _; omega)
          by_cases hki : k = i
          · subst hki; exact hg0
          · exact hall k (by omega)
        · skip
          refine cK (xT (cR (sV (vM rfl) (sV (vM rfl) ?_))))
          have h3' : ¬ x = i := by simpa using h3
          rw [if_neg h3'] at hg
          obtain ⟨x', rfl⟩ := Int.eq_ofNat_of_zero_le h1'.1
          have hx' := hx h1'.1
          rw [Int.toNat_natCast] at hx' hg
          refine st_buildSlice (cells := [.int .i64 (x' : Int)]) rfl Tryz.underlying43 inf3 rfl rfl (by kernel_rfl) (ltn rfl) fun b44 => ?_
          refine st_app [iC (x' : Int)] rfl rfl Tryz.underlying43 inf3 rfl (by decide) (by repeat (first | exact Sel.here | apply Sel.there)) (by simp [iC]) rfl (fun j u2 hu2 => at_here (rd_cl (by simpa [iC] using hu2))) (by simp [iC, Value.oneCell']) (by simp; omega) (by simp; omega) (ltn rfl) fun v' hv' _ => ?_
          refine sV (vA rfl) (sN (nK [1, 3, 4, 5, 8, 9] rfl (nx_xt (xB (xT (cR (sV (v_ldn rfl ld27 rfl rds_pt) ?_)))))))
          refine sV (vM rfl) (st_clr rfl rfl en81 rfl (waits_ct hp hx') ?_)
          refine sV (vA rfl) (sN (nK [1, 3, 4, 5, 8, 9] rfl (nx_xt ?_)))
          have hwx : (y.procs[x']).waitsFor = y.wf x' := by unfold Yard.wf; rw [pr_get hx']
          rw [hwx]
          refine xt_pv (pv_eq (show VR v' 3 1 (l.map iC ++ [iC (x' : Int)]) = VR v' 3 1 ((l ++ [(x' : Int)]).map iC) by simp)) ?_
          refine xt_ag (l ++ [(x' : Int)], y.wf x', v') ⟨by simp, by simp; omega, fun h => by rw [← hwx] at h ⊢; exact waitsFor_lt hyr hx' h, by rw [← hg]; congr 1; simp⟩ (by simp; omega)
    · skip
      refine cd_exit (xE (xE (xt_exit_block (xB (xT (cR (sV (v_add rfl rfl (by unfold I64 at *; omega)) (sV (vM rfl) (sN (nK [1, 8, 9] rfl (nx_xt ?_)))))))))))
      have h1' : ¬ (0 ≤ x ∧ l.length ≤ y.procs.length) := fun h => by simp at h1; omega
      rw [if_neg h1'] at hg
      subst hg
      refine xt_ag (i + 1) ⟨hlt, fun k hk => ?_⟩ (by show _ - _ < _ - _; omega)
      by_cases hki : k = i
      · subst hki; exact hg0
      · exact hall k (by omega)
  · skip
    refine cd_exit (xE (xE (xt_exit_block (xT (cS (cR (sV (vA rfl) (sN (nK [2] rfl (nT (cT ?_)))))))))))
    have hin : i = y.procs.length := by have : ¬ i < y.procs.length := by simpa using hd
                                        omega
    rw [ringE_none (fun k hk => hall k (by omega))]
    refine xt_vw (vw_nil 3 1) ?_
    exact xt_rt rfl ⟨_, rfl, rfl, rfl⟩
end
end Go.Wt
namespace Go.Wt
open Go Go.Ck Go.Proofs Go.Proofs.YtboepbencndobaaGreat Fx
attribute [local irreducible] St Cd Xt Nx DrL LsW
section
variable {P : Program} {e : Env} {h : SH} {ty : TypeId}
theorem v_remp {t t' : TypeId} {x y : Operand} {a b : Int} (hx : e.ev? x = some (.int .i64 a)) (hy : e.ev? y = some (.int .i64 b)) (ha : 0 ≤ a) (hb : 0 < b) (hr : I64 b) : Vop P e h (.binOp .rem t x y t') ty (.int .i64 (a % b)) :=
  ⟨by simp, by simp, fun ρ w d pos after g hρ _ => by
    have h1 : a.tmod b = a % b := Int.tmod_eq_emod_of_nonneg ha
    have h2 : 0 ≤ a % b := Int.emod_nonneg a (by omega)
    have h3 : a % b < b := Int.emod_lt_of_pos a hb
    have hw : IntKind.i64.wrap (a.tmod b) = a % b := by rw [h1]; exact I64.wrap (by unfold I64 at *; omega)
    have hb0 : ¬ b = 0 := by omega
    simp [execOp, hρ x _ hx, hρ y _ hy, eqGuard_rem, binOp_rem, Op.intDiv, hb0, hw]
    try exact h1⟩
end
def ringYE (y : Yard) : List Int × Bool × Int := if y.right = true then (ringE y, decide (0 < ((ringE y).length : Int)), 0) else ([], false, 2)
section
variable {S : Res}
set_option maxRecDepth 100000 in
theorem Ring_ct {ys : List Value} {y : Yard} (hy : yardR S ys y) (hf : Fit y) : CtN Tryz.prog 32 #[.agg ys.toArray] [S] fun u T => ∃ v, u = .tuple #[v, .bool (ringYE y).2.1, .int .i64 (ringYE y).2.2] ∧ T = VR v 3 1 ((ringYE y).1.map iC) := by
  obtain ⟨jv, pv, rfl, hj, hp⟩ := id hy
  obtain ⟨ap, cp, rfl, _⟩ := id hp
  unfold ringYE
  refine ct_of (n := 18) Tryz.func32 rfl rfl (len rfl) fun hr w0 => ?_
  refine cS (cR (st_bx rfl rfl fun b1 => ?_))
  refine sV (vA rfl) (sV (vA rfl) (sV (vA rfl) (sN (nK [1, 2, 3, 4] rfl (nT (cS (cS (cR (sV (v_ldn rfl ld27 rfl rds_pt) ?_)))))))))
  refine st_clr rfl rfl en67 rfl (opened_ct (l := []) hy hf Row.nil (by simp)) ?_
  refine sV (vA rfl) (sN (nK [1, 2, 3, 4, 5] rfl (nT (cS (cR (sV (vM rfl) (sV (v_neq rfl rfl) (sN (nK [1, 2, 3, 4, 5, 10] rfl (nT ?_))))))))))
  rw [openedE_nil]
  refine cC rfl (fun h1 => ?_) (fun h1 => ?_)
  · skip
    have h2 : ¬ y.right = true := fun h => by rw [if_pos h] at h1; cases h1
    refine cS (cR (sV (vM rfl) (sV (vA rfl) (sV (vA rfl) (sV (vA rfl) (sN (nK [1, 2, 3, 4] rfl (nT (cT (xR ?_))))))))))
    rw [if_neg h2, if_neg h2]
    refine xt_vw (vw_nil 3 1) ?_
    exact xt_rt rfl ⟨VR (.slice none 0 0) 3 1 [], rfl, .slice none 0 0, rfl, rfl⟩
  · skip
    have h2 : y.right = true := by
      cases hr : y.right with
      | true => rfl
      | false => rw [hr] at h1; cases h1
    rw [if_pos h2, if_pos h2]
    refine cK (xT (cS (cR (sV (v_ldn rfl ld27 rfl rds_pt) ?_))))
    refine st_cl rfl rfl en77 rfl (ring_ct hy hf h2) ?_
    rintro v h' ⟨T, rfl, rfl, hv⟩
    refine sV (vA rfl) (sN (nK [2, 3, 4, 6] rfl (nT (cS (cd_row (v := v) (by repeat (first | exact Sel.here | apply Sel.there)) (fun h0 hr0 => ?_) (fun vb vo vc hve _ _ => ?_))))))
    · have hl0 : ringE y = [] := by simpa using hr0
      subst h0
      rw [hl0]
      refine cR (sV (vM rfl) (sV (vM rfl) (sV (v_len rfl Tryz.underlying43) (sV (v_gtr rfl rfl) (sV (vA rfl) (sV (vA rfl) (sV (vA rfl) (sN (nK [2, 3, 4] rfl (nT (cT ?_)))))))))))
      exact xt_rt rfl ⟨VR (.slice none 0 0) 3 1 [], rfl, .slice none 0 0, rfl, rfl⟩
    · simp only [List.length_map] at hve
      subst hve
      refine cR (sV (vM rfl) (sV (vM rfl) (sV (v_len rfl Tryz.underlying43) (sV (v_gtr rfl rfl) (sV (vA rfl) (sV (vA rfl) (sV (vA rfl) (sN (nK [2, 3, 4] rfl (nT (cT ?_)))))))))))
      exact xt_rt rfl ⟨VR (.slice (some ⟨vb, vo, none⟩) (ringE y).length vc) 3 1 ((ringE y).map iC), rfl, .slice (some ⟨vb, vo, none⟩) (ringE y).length vc, rfl, rfl⟩
def ringOk (y : Yard) (l : List Int) (i : Nat) (x : Int) : Bool := within x 0 ((y.procs.length : Int) - 1) && !(l.take i).contains x && y.wf x.toNat == l.getD ((i + 1) % l.length) 0
def checkRingE (y : Yard) (l : List Int) : Int := if y.right = true then (if l.length < 2 ∨ y.procs.length < l.length then 11 else if ((List.range l.length).all fun i => ringOk y l i (l.getD i 0)) = true then 0 else 11) else 2
theorem take_snoc_contains {l : List Int} {i : Nat} (hi : i < l.length) (x : Int) : (l.take (i + 1)).contains x = (if x = l[i] then true else (l.take i).contains x) := by
  rw [List.take_succ_eq_append_getElem hi]
  generalize l.take i = t
  generalize l[i] = z
  by_cases h : x = z <;> simp [h]
set_option maxHeartbeats 1000000 in
set_option maxRecDepth 100000 in
theorem CheckRing_ct {ys : List Value} {y : Yard} {rv : Value} {l : List Int} (hy : yardR S ys y) (hf : Fit y) (hv : Row S 1 (eqC iC) rv l) (hl : l.length ≤ 1000000) : Reads Tryz.prog 36 #[.agg ys.toArray, rv] [S] (.int .i64 (checkRingE y l)) := by
  obtain ⟨jv, pv, rfl, hj, hp⟩ := id hy
  obtain ⟨ap, cp, rfl, _⟩ := id hp
  obtain ⟨ar, cr, hrv, _⟩ := id hv
  have hfp := hf.2.1
  unfold checkRingE
  refine ct_of (n := 62) Tryz.func36 rfl rfl (len rfl) fun hr w0 => ?_
  refine cS (cR (st_bx rfl rfl fun b2 => ?_))
  refine sV (vA rfl) (sN (nK [1, 2, 4] rfl (nT (cS (cS (cR (sV (v_ldn rfl ld27 rfl rds_pt) ?_)))))))
  refine st_clr rfl rfl en67 rfl (opened_ct (l := []) hy hf Row.nil (by simp)) ?_
  refine sV (vA rfl) (sN (nK [1, 2, 4, 5] rfl (nT (cS (cR (sV (vM rfl) (sV (v_neq rfl rfl) (sN (nK [1, 2, 4, 5, 12] rfl (nT ?_))))))))))
  rw [openedE_nil]
  refine cC rfl (fun h1 => ?_) (fun h1 => ?_)
  · skip
    have h2 : ¬ y.right = true := fun h => by rw [if_pos h] at h1; cases h1
    refine cS (cR (sV (vM rfl) (sV (vA rfl) (sN (nK [1, 2, 4] rfl (nT (cT (xR ?_))))))))
    rw [if_neg h2, if_neg h2]
    exact xt_rt rfl ⟨rfl, rfl⟩
  · skip
    have h2 : y.right = true := by
      cases hr : y.right with
      | true => rfl
      | false => rw [hr] at h1; cases h1
    rw [if_pos h2]
    refine cK (xT (cS (cS (cR (sV (vM rfl) (sV (v_len (congrArg some hrv) Tryz.underlying43) (sV (v_lss rfl rfl) (sV (vM rfl) (st_cut (k := 11) (d := 24) (v := .bool (decide ((l.length : Int) < 2) || decide ((y.procs.length : Int) < l.length))) (fun hcut => bool_want (b := decide ((l.length : Int) < 2)) false (fun hg => ?_) (fun hg => ?_)) ?_)))))))))
    · refine st_sk rfl rfl hg ?_
      refine st_sk rfl rfl hg ?_
      refine st_sk rfl rfl hg ?_
      refine st_sk rfl rfl hg ?_
      refine st_sk rfl rfl hg ?_
      refine st_sk rfl rfl hg ?_
      refine sV (v_pick_true (bool_ev rfl hg) rfl) ?_
      exact hcut _ (ssub_head (by first | rfl | (rw [hg]; rfl) | simp_all) (uS rfl (uS rfl (uS rfl (uS rfl (uS rfl (uS rfl (ssub_refl))))))))
    · skip
      refine st_vg rfl (bG rfl hg) (vM rfl) (st_vg rfl (bG rfl hg) (v_len (congrArg some hrv) Tryz.underlying43) (st_vg rfl (bG rfl hg) (vF rfl fa27_1 rfl) (st_vg rfl (bG rfl hg) (v_ldy rfl ld25) ?_)))
      refine st_vg rfl (bG rfl hg) (v_len rfl Tryz.underlying25) (st_vg rfl (bG rfl hg) (v_gtr rfl rfl) (sV (vP (bool_ev rfl hg) rfl) ?_))
      exact hcut _ (ssub_head (by first | rfl | (rw [hg]; rfl) | simp_all) (uS rfl (uS rfl (uS rfl (uS rfl (uS rfl (uS rfl (ssub_refl))))))))
    refine sN (nK [1, 2, 4, 24] rfl (nT (cC rfl (fun h3 => ?_) (fun h3 => ?_))))
    · skip
      refine cS (cR (sV (vA rfl) (sN (nK [1, 2, 4] rfl (nT (cT (xR ?_)))))))
      rw [if_pos (by simp at h3; omega)]
      exact xt_rt rfl ⟨rfl, rfl⟩
    · skip
      have h3' : ¬ (l.length < 2 ∨ y.procs.length < l.length) := fun h => by simp at h3; omega
      rw [if_neg h3']
      refine cK (xT (cS (cR (st_makeMap (ltn rfl) fun b25 => ?_))))
      refine sV (vA rfl) (sN (nK [1, 2, 4, 6] rfl (nT (cS (cS (cR (sV (vM rfl) (sV (v_len (congrArg some hrv) Tryz.underlying43) (sV (vM rfl) (sN (nT (cd_block (cd_lp (σ := Nat × List (Int × Value)) (fun s => [(1, rv), (2, .pointer (some ⟨b2, 0, none⟩)), (6, .map (some b25)), (26, rv), (27, .int .i64 l.length), (28, .int .i64 (s.1 : Nat))]) (fun s => mpr b25 s.2 :: pt b2 (cl [jv, .slice ap y.procs.length cp] 27) :: S :: hr) (fun s => s.1 ≤ l.length ∧ (∀ x, (mlook s.2 x).getD (.bool false) = .bool ((l.take s.1).contains x)) ∧ ∀ (k : Nat) x, k < s.1 → l[k]? = some x → ringOk y l k x = true) (fun s => l.length - s.1) (0, []) ⟨Nat.zero_le _, fun x => by simp [mlook], fun k x hk => by omega⟩ ?_)))))))))))))
      rintro ⟨i, m⟩ ⟨hi, hm, hall⟩
      simp only at hi hm hall
      refine cS (cR (sV (v_lss rfl rfl) (sN (nT (cS (cC rfl (fun hd => ?_) (fun hd => ?_)))))))
      · skip
        have hlt : i < l.length := by simpa using hd
        obtain ⟨b, off, cp2, u, hv2, hrd, hX⟩ := hv.at1 (List.getElem?_eq_getElem hlt)
        cases hX
        have hnx : (i + 1) % l.length < l.length := Nat.mod_lt _ (by omega)
        obtain ⟨b', off', cp2', u', hv2', hrd', hX'⟩ := hv.at1 (List.getElem?_eq_getElem hnx)
        cases hX'
        have hgd : l.getD ((i + 1) % l.length) 0 = l[(i + 1) % l.length] := by rw [List.getD_eq_getElem?_getD, List.getElem?_eq_getElem hnx]; rfl
        have hmx := hm l[i]
        have hok : ringOk y l i l[i] = (within l[i] 0 ((y.procs.length : Int) - 1) && !(l.take i).contains l[i] && y.wf l[i].toNat == l[(i + 1) % l.length]) := by unfold ringOk; rw [hgd]
        generalize hxe : l[i] = x at *
        refine cK (xT (cS (cd_block (cS (cR (sV (vM rfl) (sV (v_indexAddr (k := i) (congrArg some hv2) rfl sl43 rfl hlt rfl) (sV (v_ldy rfl ld3) ?_))))))))
        refine sV (vA rfl) (sV (vA rfl) (sN (nK [1, 2, 6, 7, 8, 26, 27, 28] rfl (nT (cS (cS (cd_drawh (ork [(0, 2), (1, 2), (2, 1), (3, 2), (4, 2), (5, 1), (6, 2), (7, 2), (8, 2), (9, 2), (10, 1), (11, 2), (12, 2), (13, 1), (14, 2), (15, 1), (16, 2), (17, 2), (18, 2), (19, 2), (20, 2), (21, 2), (22, 2), (23, 1), (24, 2), (25, 2)] .nil) (fun _ => true) mixed (by kernel_rfl) ?_)))))))
        refine dV rfl (vM rfl) (dV rfl (vF rfl fa27_1 rfl) (dr_v rfl (v_ldy rfl ld25) ?_))
        refine dV rfl (v_len rfl Tryz.underlying25) (dV rfl (v_sub rfl rfl (by unfold I64 at *; omega)) (dr_clr rfl rfl rfl en80 rfl (within_ct x 0 ((y.procs.length : Int) - 1)) ?_))
        refine dV rfl (v_not rfl) (dV rfl (vM rfl) (dr_cut (k := 4) (d := 44) (v := .bool (!within x 0 ((y.procs.length : Int) - 1) || (l.take i).contains x)) (fun hcut => bool_want (b := (!within x 0 ((y.procs.length : Int) - 1))) false (fun hg => ?_) (fun hg => ?_)) ?_))
        · refine dp_sk rfl rfl rfl hg ?_
          refine dp_sk rfl rfl rfl hg ?_
          refine dr_sk rfl rfl rfl hg ?_
          refine dV rfl (v_pick_true (bool_ev rfl hg) rfl) ?_
          exact hcut _ (ssub_head (by first | rfl | (rw [hg]; rfl) | simp_all) (uS rfl (uS rfl (uS rfl (ssub_refl)))))
        · skip
          refine dp_vg rfl rfl (bG rfl hg) (vM rfl) (dp_vg rfl rfl (bG rfl hg) (vM rfl) (dr_vg rfl rfl (bG rfl hg) (v_lookup rfl rfl mp145 inf4 (by repeat (first | exact Sel.here | apply Sel.there))) ?_))
          rw [hmx]
          refine dV rfl (vP (bool_ev rfl hg) rfl) ?_
          exact hcut _ (ssub_head (by first | rfl | (rw [hg]; rfl) | simp_all) (uS rfl (uS rfl (uS rfl (ssub_refl)))))
        refine dV rfl (vM rfl) (dr_cut (k := 13) (d := 58) (v := .bool ((!within x 0 ((y.procs.length : Int) - 1) || (l.take i).contains x) || (y.wf x.toNat != l[(i + 1) % l.length]))) (fun hcut => bool_want (b := (!within x 0 ((y.procs.length : Int) - 1) || (l.take i).contains x)) false (fun hg => ?_) (fun hg => ?_)) ?_)
        · refine dr_sk rfl rfl rfl hg ?_
          refine dp_sk rfl rfl rfl hg ?_
          refine dr_sk rfl rfl rfl hg ?_
          refine dp_sk rfl rfl rfl hg ?_
          refine dp_sk rfl rfl rfl hg ?_
          refine dp_sk rfl rfl rfl hg ?_
          refine dp_sk rfl rfl rfl hg ?_
          refine dp_sk rfl rfl rfl hg ?_
          refine dp_sk rfl rfl rfl hg ?_
          refine dp_sk rfl rfl rfl hg ?_
          refine dr_sk rfl rfl rfl hg ?_
          refine dp_sk rfl rfl rfl hg ?_
          refine dV rfl (v_pick_true (bool_ev rfl hg) rfl) ?_
          exact hcut _ (ssub_head (by first | rfl | (rw [hg]; rfl) | simp_all) (uS rfl (uS rfl (uS rfl (uS rfl (uS rfl (uS rfl (uS rfl (uS rfl (uS rfl (uS rfl (uS rfl (uS rfl (ssub_refl))))))))))))))
        · skip
          have hw1 : within x 0 ((y.procs.length : Int) - 1) = true := by
            cases hw : within x 0 ((y.procs.length : Int) - 1) with
            | true => rfl
            | false => rw [hw] at hg; cases hg
          have hx0 : 0 ≤ x ∧ x.toNat < y.procs.length := by unfold within at hw1; simp at hw1; omega
          have hwx : Reads Tryz.prog 81 #[.agg #[jv, .slice ap y.procs.length cp], .int .i64 x] [S] (.int .i64 (y.wf x.toNat)) := by
            have := waits_ct (jv := jv) hp hx0.2
            rw [Int.toNat_of_nonneg hx0.1] at this
            unfold Yard.wf; rw [pr_get hx0.2]; exact this
          refine dr_vg rfl rfl (bG rfl hg) (v_ldn rfl ld27 rfl rds_pt) ?_
          refine dp_vg rfl rfl (bG rfl hg) (vM rfl) (dr_clrg rfl rfl (bG rfl hg) rfl rfl en81 rfl (hwx) ?_)
          refine dp_vg rfl rfl (bG rfl hg) (vM rfl) (dp_vg rfl rfl (bG rfl hg) (vM rfl) (dp_vg rfl rfl (bG rfl hg) (v_add rfl rfl (by unfold I64 at *; omega)) (dp_vg rfl rfl (bG rfl hg) (vM rfl) (dp_vg rfl rfl (bG rfl hg) (v_len (congrArg some hrv) Tryz.underlying43) (dp_vg rfl rfl (bG rfl hg) (v_remp rfl rfl (by omega) (by omega) (by unfold I64; omega)) ?_)))))
          refine dp_vg rfl rfl (bG rfl hg) (v_indexAddr (k := (i + 1) % l.length) (congrArg some hv2') rfl sl43 (by simp [Int.natCast_emod]) hnx rfl) ?_
          refine dr_vg rfl rfl (bG rfl hg) (v_ldy rfl ld3) ?_
          refine dp_vg rfl rfl (bG rfl hg) (v_neq rfl rfl) (dV rfl (vP (bool_ev rfl hg) rfl) ?_)
          exact hcut _ (ssub_head (by first | rfl | (rw [hg]; rfl) | simp_all) (uS rfl (uS rfl (uS rfl (uS rfl (uS rfl (uS rfl (uS rfl (uS rfl (uS rfl (uS rfl (uS rfl (uS rfl (ssub_refl))))))))))))))
        refine dr_nil (nK [1, 2, 6, 8, 26, 27, 28, 58] rfl (nT (cC rfl (fun h4 => ?_) (fun h4 => ?_))))
        · skip
          refine cS (cR (sV (vA rfl) (sN (nK [1, 2, 4, 6, 8, 26, 27, 28] rfl (nT (cT (xR (xt_ret_block (xR (xR (xt_ret_block (xR ?_))))))))))))
          have hbad : ((List.range l.length).all fun i => ringOk y l i (l.getD i 0)) = false := by
            rw [List.all_eq_false]
            refine ⟨i, by simpa using hlt, ?_⟩
            rw [List.getD_eq_getElem?_getD, List.getElem?_eq_getElem hlt, Option.getD_some, hxe, hok]
            intro h
            simp only [Bool.and_eq_true, Bool.not_eq_true', beq_iff_eq] at h
            rw [h.1.1, h.1.2, h.2] at h4
            simp at h4
          rw [if_neg (by rw [hbad]; simp)]
          exact xt_rt rfl ⟨rfl, rfl⟩
        · skip
          refine cK (xT (cR (sV (vM rfl) (sV (vM rfl) (st_mapUpdate rfl rfl rfl mp145 (by repeat (first | exact Sel.here | apply Sel.there)) ?_)))))
          refine sN (nK [1, 2, 6, 26, 27, 28] rfl (nx_xt (xB (xT (cR (sV (v_add rfl rfl (by unfold I64 at *; omega)) (sV (vM rfl) (sN (nK [1, 2, 6, 26, 27, 28] rfl (nx_xt (xt_ag (i + 1, mupd m x (.bool true)) ⟨hlt, fun z => ?_, fun k z hk hz => ?_⟩ (by show _ - _ < _ - _; omega))))))))))))
          · show (mlook (mupd m x (.bool true)) z).getD (.bool false) = .bool ((l.take (i + 1)).contains z)
            rw [mlook_upd, take_snoc_contains hlt, hxe]
            by_cases hz : z = x
            · simp [hz]
            · simp only [hz, if_false]; exact hm z
          · by_cases hki : k = i
            · subst hki
              rw [List.getElem?_eq_getElem hlt, hxe] at hz
              cases hz
              rw [hok]
              simp only [Bool.or_eq_false_iff, Bool.not_eq_false', bne_eq_false_iff_eq] at h4
              rw [h4.1.1, h4.1.2, h4.2]; simp
            · exact hall k z (by show k < i; have : k < i + 1 := hk; omega) hz
      · skip
        refine cd_exit (xE (xE (xt_exit_block (xT (cS (cR (sV (vA rfl) (sN (nK [4] rfl (nT (cT ?_)))))))))))
        have hin : i = l.length := by have : ¬ i < l.length := by simpa using hd
                                      omega
        rw [if_pos (List.all_eq_true.2 fun k hk => by
          have hkl : k < l.length := by simpa using hk
          rw [List.getD_eq_getElem?_getD, List.getElem?_eq_getElem hkl]
          exact hall k _ (by rw [hin]; exact hkl) (List.getElem?_eq_getElem hkl))]
        exact xt_rt rfl ⟨rfl, rfl⟩
end
end Go.Wt
namespace Go.Wt
def orb (w : Nat → Int) (i : Nat) : Nat → Int
  | 0 => i
  | k + 1 => if 0 ≤ orb w i k then w (orb w i k).toNat else -1
section
variable {w : Nat → Int} {n i : Nat}
theorem orb_succ {k : Nat} (h : 0 ≤ orb w i k) : orb w i (k + 1) = w (orb w i k).toNat := by
  show (if 0 ≤ orb w i k then w (orb w i k).toNat else -1) = _
  rw [if_pos h]
theorem map_orb_succ (k : Nat) : (List.range k).map (orb w i) ++ [orb w i k] = (List.range (k + 1)).map (orb w i) := by rw [List.range_succ, List.map_append]; rfl
theorem ringAt_some : ∀ {f m : Nat} {r : List Int}, 1 ≤ m → ringAt w n i f ((List.range m).map (orb w i)) (orb w i m) = some r →
    ∃ k, m ≤ k ∧ k ≤ n ∧ 2 ≤ k ∧ orb w i k = i ∧ (∀ j, m ≤ j → j < k → orb w i j ≠ i ∧ 0 ≤ orb w i j) ∧ r = (List.range k).map (orb w i)
  | 0, _, _, _, h => by simp [ringAt] at h
  | f + 1, m, r, hm, h => by
    unfold ringAt at h
    simp only [List.length_map, List.length_range] at h
    split at h
    · rename_i hc
      split at h
      · rename_i hx
        split at h
        · rename_i h1
          exact ⟨m, Nat.le_refl _, hc.2, h1, hx, fun j h1 h2 => by omega, (Option.some.inj h).symm⟩
        · cases h
      · rename_i hx
        rw [map_orb_succ, ← orb_succ hc.1] at h
        obtain ⟨k, h1, h2, h3, h4, h5, h6⟩ := ringAt_some (by omega) h
        refine ⟨k, by omega, h2, h3, h4, fun j hj1 hj2 => ?_, h6⟩
        by_cases e : j = m
        · subst e; exact ⟨hx, hc.1⟩
        · exact h5 j (by omega) hj2
    · cases h
theorem ringAt_of : ∀ {f m k : Nat}, 1 ≤ m → n + 1 ≤ f + m → m ≤ k → k ≤ n → 2 ≤ k → orb w i k = i → (∀ j, m ≤ j → j < k → orb w i j ≠ i ∧ 0 ≤ orb w i j) → ringAt w n i f ((List.range m).map (orb w i)) (orb w i m) = some ((List.range k).map (orb w i))
  | 0, m, k, h1, h2, h3, h4, _, _, _ => by omega
  | f + 1, m, k, h1, h2, h3, h4, h5, h6, h7 => by
    unfold ringAt
    simp only [List.length_map, List.length_range]
    by_cases e : m = k
    · subst e
      rw [if_pos ⟨by omega, h4⟩, if_pos h6, if_pos (by omega)]
    · have hj := h7 m (Nat.le_refl _) (by omega)
      rw [if_pos ⟨hj.2, by omega⟩, if_neg hj.1, map_orb_succ, ← orb_succ hj.2]
      exact ringAt_of (by omega) (by omega) (by omega) h4 h5 h6 fun j a b => h7 j (by omega) b
def Back (w : Nat → Int) (n i k : Nat) : Prop := 2 ≤ k ∧ k ≤ n ∧ orb w i k = i ∧ ∀ j, 1 ≤ j → j < k → orb w i j ≠ i ∧ 0 ≤ orb w i j
theorem orb_one : orb w i 1 = w i := by
  rw [orb_succ (by show (0 : Int) ≤ i; omega)]; rfl
theorem ring_some {r : List Int} (h : ringAt w n i (n + 1) [(i : Int)] (w i) = some r) : ∃ k, Back w n i k ∧ r = (List.range k).map (orb w i) := by
  have h' : ringAt w n i (n + 1) ((List.range 1).map (orb w i)) (orb w i 1) = some r := by rw [orb_one]; exact h
  obtain ⟨k, _, h2, h3, h4, h5, h6⟩ := ringAt_some (Nat.le_refl _) h'
  exact ⟨k, ⟨h3, h2, h4, h5⟩, h6⟩
theorem ring_of {k : Nat} (h : Back w n i k) : ringAt w n i (n + 1) [(i : Int)] (w i) = some ((List.range k).map (orb w i)) := by
  have := ringAt_of (w := w) (n := n) (i := i) (f := n + 1) (m := 1) (k := k) (Nat.le_refl _) (by omega) (by have := h.1; omega) h.2.1 h.1 h.2.2.1 h.2.2.2
  rw [orb_one] at this
  exact this
theorem ring_iff_none : ringAt w n i (n + 1) [(i : Int)] (w i) = none ↔ ∀ k, ¬ Back w n i k := by
  refine ⟨fun h k hk => ?_, fun h => ?_⟩
  · rw [ring_of hk] at h; cases h
  · cases hr : ringAt w n i (n + 1) [(i : Int)] (w i) with
    | none => rfl
    | some r => obtain ⟨k, hk, _⟩ := ring_some hr; exact absurd hk (h k)
/-! ## Orbits -/
theorem orb_add {a : Nat} (h : 0 ≤ orb w i a) : ∀ (k : Nat), orb w i (a + k) = orb w (orb w i a).toNat k
  | 0 => by show orb w i a = (((orb w i a).toNat : Nat) : Int); omega
  | k + 1 => by
    show (if 0 ≤ orb w i (a + k) then w (orb w i (a + k)).toNat else -1) = (if 0 ≤ orb w (orb w i a).toNat k then w (orb w (orb w i a).toNat k).toNat else -1)
    rw [orb_add h k]
theorem nodup_lt : ∀ (n : Nat) {l : List Nat}, l.Nodup → (∀ x ∈ l, x < n) → l.length ≤ n
  | 0, l, _, h => by
    cases l with
    | nil => simp
    | cons a t => have := h a (by simp); omega
  | n + 1, l, hd, h => by
    by_cases hn : n ∈ l
    · have h1 := nodup_lt n (l := l.erase n) (hd.erase n) fun x hx => by
        have h2 := (hd.mem_erase_iff).1 hx
        have := h x h2.2
        have := h2.1
        omega
      rw [List.length_erase_of_mem hn] at h1
      omega
    · have := nodup_lt n (l := l) hd fun x hx => by
        have := h x hx
        have : x ≠ n := fun e => hn (e ▸ hx)
        omega
      omega
theorem pigeon {n : Nat} {g : Nat → Nat} (h : ∀ k, k ≤ n → g k < n) : ∃ a b, a < b ∧ b ≤ n ∧ g a = g b := by
  by_cases hd : ((List.range (n + 1)).map g).Nodup
  · have := nodup_lt n hd fun x hx => by
      obtain ⟨k, hk, rfl⟩ := List.mem_map.1 hx
      exact h k (by have := List.mem_range.1 hk; omega)
    simp at this; omega
  · unfold List.Nodup at hd
    rw [List.pairwise_iff_getElem] at hd
    refine Classical.byContradiction fun hno => hd fun a b ha hb hab he => hno ?_
    simp only [List.length_map, List.length_range] at ha hb
    exact ⟨a, b, hab, by omega, by simpa using he⟩
theorem back_of {k : Nat} (hw : ∀ i, i < n → w i < n) (hi : i < n) (hs : w i ≠ i) (hk : 1 ≤ k) (h0 : orb w i k = i) (hp : ∀ j, j < k → 0 ≤ orb w i j) : ∃ k, Back w n i k := by
  have hex : ∃ m, ∃ k, k ≤ m ∧ 1 ≤ k ∧ orb w i k = i ∧ ∀ j, j < k → 0 ≤ orb w i j := ⟨k, k, Nat.le_refl _, hk, h0, hp⟩
  obtain ⟨k, hk, h0, hp, hmin⟩ : ∃ k, 1 ≤ k ∧ orb w i k = i ∧ (∀ j, j < k → 0 ≤ orb w i j) ∧ ∀ j, 1 ≤ j → j < k → orb w i j ≠ i := by
    have key : ∀ m, (∃ k, k ≤ m ∧ 1 ≤ k ∧ orb w i k = i ∧ ∀ j, j < k → 0 ≤ orb w i j) → ∃ k, 1 ≤ k ∧ orb w i k = i ∧ (∀ j, j < k → 0 ≤ orb w i j) ∧ ∀ j, 1 ≤ j → j < k → orb w i j ≠ i := by
      intro m
      induction m with
      | zero => rintro ⟨k, h1, h2, _⟩; omega
      | succ m ih =>
        rintro ⟨k, h1, h2, h3, h4⟩
        by_cases hm : ∃ j, 1 ≤ j ∧ j < k ∧ orb w i j = i
        · obtain ⟨j, a, b, c⟩ := hm
          exact ih ⟨j, by omega, a, c, fun j' hj' => h4 j' (by omega)⟩
        · exact ⟨k, h2, h3, h4, fun j a b c => hm ⟨j, a, b, c⟩⟩
    obtain ⟨m, hm⟩ := hex
    exact key m hm
  have hlt : ∀ j, j < k → (orb w i j).toNat < n := by
    intro j
    induction j with
    | zero => intro _; show ((i : Int)).toNat < n; omega
    | succ j ih =>
      intro hj
      have h1 := ih (by omega)
      have h2 := hp j (by omega)
      have h3 := hp (j + 1) hj
      rw [orb_succ h2] at h3 ⊢
      have := hw _ h1
      omega
  have hkn : k ≤ n := by
    rcases Nat.lt_or_ge n k with hc | hc
    · exfalso
      obtain ⟨a, b, hab, hb, he⟩ := pigeon (n := n) (g := fun j => (orb w i j).toNat) fun j hj => hlt j (by omega)
      have ea := hp a (by omega)
      have eb := hp b (by omega)
      have hs1 := orb_add ea (k - b)
      have hs2 := orb_add eb (k - b)
      rw [he] at hs1
      have e1 : b + (k - b) = k := by omega
      rw [e1, h0] at hs2
      rw [← hs2] at hs1
      exact hmin (a + (k - b)) (by omega) (by omega) hs1
    · exact hc
  have h2 : 2 ≤ k := by
    rcases Nat.lt_or_ge k 2 with hc | hc
    · exfalso
      have : k = 1 := by omega
      subst this
      rw [orb_one] at h0
      exact hs h0
    · exact hc
  exact ⟨k, h2, hkn, h0, fun j a b => ⟨hmin j a b, hp j b⟩⟩
theorem back_nodup {k : Nat} (h : Back w n i k) {a b : Nat} (hab : a < b) (hb : b < k) : orb w i a ≠ orb w i b := fun he => by
  obtain ⟨h2, hkn, h0, hmin⟩ := h
  have ha : 0 ≤ orb w i a := by
    by_cases e : a = 0
    · subst e; show (0 : Int) ≤ i; omega
    · exact (hmin a (by omega) (by omega)).2
  have hb0 := (hmin b (by omega) hb).2
  have hs1 := orb_add ha (k - b)
  have hs2 := orb_add hb0 (k - b)
  rw [he] at hs1
  have e1 : b + (k - b) = k := by omega
  rw [e1, h0] at hs2
  rw [← hs2] at hs1
  exact (hmin (a + (k - b)) (by omega) (by omega)).1 hs1
end
/-! ## The ring that is found -/
section
variable {y : Yard}
theorem findSome_first {α β : Type} {f : α → Option β} {r : β} : ∀ {l : List α}, l.findSome? f = some r → ∃ a ∈ l, f a = some r
  | [], h => by simp at h
  | a :: l, h => by
    rw [List.findSome?_cons] at h
    cases hf : f a with
    | some b => rw [hf] at h; cases h; exact ⟨a, by simp, hf⟩
    | none =>
      rw [hf] at h
      obtain ⟨x, hx, hxr⟩ := findSome_first h
      exact ⟨x, by simp [hx], hxr⟩
theorem ringE_cases (y : Yard) : (ringE y = [] ∧ ∀ i, i < y.procs.length → ∀ k, ¬ Back y.wf y.procs.length i k) ∨ ∃ i k, i < y.procs.length ∧ Back y.wf y.procs.length i k ∧ ringE y = (List.range k).map (orb y.wf i) := by
  unfold ringE
  cases h : (List.range y.procs.length).findSome? fun i => ringAt y.wf y.procs.length i (y.procs.length + 1) [(i : Int)] (y.wf i) with
  | none =>
    left
    refine ⟨rfl, fun i hi => ?_⟩
    rw [List.findSome?_eq_none_iff] at h
    exact ring_iff_none.1 (h i (List.mem_range.2 hi))
  | some r =>
    right
    obtain ⟨i, hi, hr⟩ := findSome_first h
    obtain ⟨k, hk, rfl⟩ := ring_some hr
    exact ⟨i, k, List.mem_range.1 hi, hk, rfl⟩
structure IsRing (w : Nat → Int) (n : Nat) (l : List Int) : Prop where
  len : 2 ≤ l.length ∧ l.length ≤ n
  lt : ∀ (i : Nat) x, l[i]? = some x → 0 ≤ x ∧ x < n
  next : ∀ (i : Nat) x, l[i]? = some x → l[(i + 1) % l.length]? = some (w x.toNat)
  nd : l.Nodup
theorem checkRing_iff {l : List Int} (hr : y.right = true) : checkRingE y l = 0 ↔ IsRing y.wf y.procs.length l := by
  unfold checkRingE
  rw [if_pos hr]
  refine ⟨fun h => ?_, fun h => ?_⟩
  · split at h
    · cases h
    · rename_i hl
      split at h
      · rename_i ha
        rw [List.all_eq_true] at ha
        have hx : ∀ (i : Nat) x, l[i]? = some x → ringOk y l i x = true := fun i x hi => by
          have hlt := (List.getElem?_eq_some_iff.1 hi).1
          have := ha i (List.mem_range.2 hlt)
          rw [List.getD_eq_getElem?_getD, hi] at this
          exact this
        unfold ringOk at hx
        simp only [Bool.and_eq_true, within_iff, Bool.not_eq_true', beq_iff_eq] at hx
        have hlt : ∀ (i : Nat) x, l[i]? = some x → 0 ≤ x ∧ x < y.procs.length := fun i x hi => by have := (hx i x hi).1.1; omega
        refine ⟨by omega, hlt, fun i x hi => ?_, ?_⟩
        · have := (hx i x hi).2
          rw [this, List.getD_eq_getElem?_getD]
          have h1 : (i + 1) % l.length < l.length := Nat.mod_lt _ (by omega)
          rw [List.getElem?_eq_getElem h1]; rfl
        · unfold List.Nodup
          rw [List.pairwise_iff_getElem]
          intro a b ha hb hab he
          have h1 := (hx b l[b] (List.getElem?_eq_getElem hb)).1.2
          have h2 : l[b] ∈ l.take b := by
            rw [← he, List.mem_take_iff_getElem]
            exact ⟨a, by omega, rfl⟩
          simp [h2] at h1
      · cases h
  · have hl := h.len
    rw [if_neg (by omega), if_pos]
    rw [List.all_eq_true]
    intro i hi
    have hi := List.mem_range.1 hi
    have hx : l[i]? = some l[i] := List.getElem?_eq_getElem hi
    rw [List.getD_eq_getElem?_getD, hx, Option.getD_some]
    unfold ringOk
    have h1 := h.lt i _ hx
    have h2 := h.next i _ hx
    simp only [Bool.and_eq_true, within_iff, Bool.not_eq_true', beq_iff_eq]
    refine ⟨⟨by omega, ?_⟩, by rw [List.getD_eq_getElem?_getD, h2]; rfl⟩
    have h3 := h.nd
    unfold List.Nodup at h3
    rw [List.pairwise_iff_getElem] at h3
    cases hc : (l.take i).contains l[i] with
    | false => rfl
    | true =>
      exfalso
      have h4 : l[i] ∈ l.take i := by simpa using hc
      rw [List.mem_take_iff_getElem] at h4
      obtain ⟨a, ha, he⟩ := h4
      exact h3 a i (by omega) hi (by omega) he
theorem back_ring {w : Nat → Int} {n i k : Nat} (hw : ∀ i, i < n → w i < n) (hi : i < n) (h : Back w n i k) : IsRing w n ((List.range k).map (orb w i)) := by
  have hk := h
  obtain ⟨h2, hkn, h0, hmin⟩ := h
  have hpos : ∀ j, j < k → 0 ≤ orb w i j := fun j hj => by
    by_cases e : j = 0
    · subst e; show (0 : Int) ≤ i; omega
    · exact (hmin j (by omega) hj).2
  have hlt : ∀ j, j < k → orb w i j < n := by
    intro j
    induction j with
    | zero => intro _; show (i : Int) < n; omega
    | succ j ih =>
      intro hj
      have h1 := ih (by omega)
      have h2 := hpos j (by omega)
      rw [orb_succ h2]
      exact hw _ (by omega)
  have hget : ∀ (j : Nat) x, ((List.range k).map (orb w i))[j]? = some x → j < k ∧ x = orb w i j := fun j x hj => by
    have hl := (List.getElem?_eq_some_iff.1 hj).1
    simp at hl
    simp [List.getElem?_map, List.getElem?_range, hl] at hj
    exact ⟨hl, hj.symm⟩
  refine ⟨by simp; omega, fun j x hj => ?_, fun j x hj => ?_, ?_⟩
  · obtain ⟨a, rfl⟩ := hget j x hj; exact ⟨hpos j a, hlt j a⟩
  · obtain ⟨a, rfl⟩ := hget j x hj
    have hl : ((List.range k).map (orb w i)).length = k := by simp
    rw [hl, ← orb_succ (hpos j a)]
    have h1 : (j + 1) % k < k := Nat.mod_lt _ (by omega)
    simp only [List.getElem?_map, List.getElem?_range, h1, if_true, Option.map_some]
    congr 1
    by_cases e : j + 1 = k
    · rw [e, Nat.mod_self, h0]; rfl
    · rw [Nat.mod_eq_of_lt (by omega)]
  · unfold List.Nodup
    rw [List.pairwise_iff_getElem]
    intro a b ha hb hab
    simp only [List.length_map, List.length_range] at ha hb
    simp only [List.getElem_map, List.getElem_range]
    exact back_nodup hk hab hb
end
end Go.Wt
namespace Go.Wt
section
variable {h : HYard}
theorem HInv.stop_close (H : HInv h) {i : Nat} (hi : i < h.procs.length) (f : Bool) {a : Nat × Eff} (ha : a ∈ h.effStop i f) {k : Key} (hk : a.2 = .close k) : k.1 = i := by
  unfold HYard.effStop at ha
  rcases List.mem_append.1 ha with ha | ha
  · rcases List.mem_append.1 ha with ha | ha
    · rcases lvs_mem ha with ⟨l, rfl⟩ | ⟨x, hx, hx2, rfl⟩
      · cases hk
      · cases hk
        have := (H.ok i hi).hold x (by simpa using hx)
        rw [if_neg (by simp [hx2])] at this
        exact this.2.2.2.1
    · simp at ha
      rcases ha with rfl | rfl <;> cases hk
  · split at ha
    · obtain rfl := List.mem_singleton.1 ha; cases hk
    · simp at ha
theorem HInv.end_close : ∀ {n : Nat} {h : HYard} {i : Nat} {f : Bool}, HInv h → i < h.procs.length → 0 ≤ (h.pr i).job → (h.pr i).waits = -1 → ∀ a ∈ HYard.effEnd n h i f, ∀ k, a.2 = .close k → ∃ s : Nat, k.1 = s ∧ h.C i s
  | 0, h, i, f, _, _, _, _, a, ha => by simp [HYard.effEnd] at ha
  | n + 1, h, i, f, H, hi, hj, hw, a, ha => fun k hk => by
    unfold HYard.effEnd at ha
    rcases List.mem_append.1 ha with ha | ha
    · exact ⟨i, H.stop_close hi f ha hk, .base⟩
    · split at ha
      · rename_i hc
        rw [Bool.and_eq_true] at hc
        obtain ⟨g1, g2, g3, g4, g5⟩ := H.client hi hc.1
        have o := H.stop_own hi f g1 g4
        rw [if_pos ⟨hc.1, rfl⟩] at o
        obtain ⟨s, h1, h2⟩ := HInv.end_close (n := n) (H.stop hi hj hw f) (by rw [HYard.aps_len]; exact g1) (by rw [o.job]; exact g5) o.waits a ha k hk
        exact ⟨s, h1, H.stop_C hi f hc.1 h2⟩
      · simp at ha
theorem HInv.deed_close (H : HInv h) {i : Nat} (hi : i < h.procs.length) (hj : 0 ≤ (h.pr i).job) (hw : (h.pr i).waits = -1) {m : Move} {a : Nat × Eff} (ha : a ∈ h.effDeed i m) {k : Key} (hk : a.2 = .close k) : ∃ s : Nat, k.1 = s ∧ h.D i s := by
  have hfin : ∀ {a : Nat × Eff}, a ∈ h.effFin i true → a.2 = .close k → ∃ s : Nat, k.1 = s ∧ h.D i s := fun ha hk => by
    obtain ⟨s, h1, h2⟩ := HInv.end_close H hi hj hw _ ha k hk
    exact ⟨s, h1, H.C_D h2⟩
  unfold HYard.effDeed at ha
  by_cases h1 : m.1 = 1
  · simp only [if_pos h1] at ha
    split at ha
    · obtain rfl := List.mem_singleton.1 ha; cases hk
    · simp only [List.mem_cons, List.not_mem_nil, or_false] at ha
      rcases ha with rfl | rfl | rfl <;> cases hk
  · simp only [if_neg h1] at ha
    by_cases h2 : m.1 = 2
    · simp only [if_pos h2] at ha
      cases hx : (h.pr i).holds.getLast? with
      | none => rw [hx] at ha; simp at ha
      | some x =>
        rw [hx] at ha
        simp only at ha
        rcases List.mem_cons.1 ha with rfl | ha
        · cases hk
        · unfold clh at ha
          split at ha
          · simp at ha
          · rename_i hx2
            obtain rfl := List.mem_singleton.1 ha
            cases hk
            have := (H.ok i hi).hold x (List.mem_of_getLast? hx)
            rw [if_neg hx2] at this
            exact ⟨i, this.2.2.2.1, .base⟩
    · simp only [if_neg h2] at ha
      by_cases h3 : m.1 = 3 ∨ m.1 = 4
      · simp only [if_pos h3] at ha
        split at ha
        · simp at ha
        · cases hx : (h.pr i).hold m.2.1 with
          | none => rw [hx] at ha; exact hfin ha hk
          | some x =>
            rw [hx] at ha
            simp only at ha
            rcases List.mem_cons.1 ha with rfl | ha
            · cases hk
            · split at ha
              · obtain rfl := List.mem_singleton.1 ha; cases hk
              · simp at ha
      · simp only [if_neg h3] at ha
        by_cases h4 : m.1 = 5
        · simp only [if_pos h4] at ha
          simp only [List.mem_cons, List.not_mem_nil, or_false] at ha
          rcases ha with rfl | rfl <;> cases hk
        · simp only [if_neg h4] at ha
          exact hfin ha hk
theorem HInv.step_close (H : HInv h) {i : Nat} (hi : i < h.procs.length) (hg : (h.pr i).goes = true) {a : Nat × Eff} (ha : a ∈ h.effs i) {k : Key} (hk : a.2 = .close k) : ∃ s : Nat, k.1 = s ∧ h.D i s := by
  unfold HYard.effs at ha
  rcases goes_cases hg with ⟨hj, hw⟩ | ⟨hj, hgl, hcl⟩
  · have hw := HProc.waits_neg (H.ok i hi) hw
    simp only at ha
    rw [if_pos hj] at ha
    split at ha
    · obtain ⟨s, h1, h2⟩ := HInv.end_close H hi hj hw a ha k hk
      exact ⟨s, h1, H.C_D h2⟩
    · rename_i hne
      rcases List.mem_cons.1 ha with rfl | ha
      · cases hk
      · have hb := (H.ok i hi).busy hj
        have H1 := H.pc hi hj (v := (h.pr i).pc + 1) (by omega) (by omega)
        have hp := pc_pr hi ((h.pr i).pc + 1)
        obtain ⟨s, h1, h2⟩ := HInv.deed_close H1 (i := i) (by rw [HYard.ap_len]; exact hi) (by rw [hp]; exact hj) (by rw [hp]; exact hw) ha hk
        exact ⟨s, h1, pc_D h2⟩
  · simp only at ha
    rw [if_neg (by omega)] at ha
    cases hd : (h.pr i).head.all.drop (h.pr i).head.tk with
    | nil => rw [hd] at ha; obtain rfl := List.mem_singleton.1 ha; cases hk
    | cons x r =>
      rw [hd] at ha
      simp only at ha
      split at ha
      · obtain ⟨H1, h2⟩ := H.left hi hj hgl hd
        rcases List.mem_append.1 ha with ha | ha
        · have := H.left_ef hi hj hgl hd ha
          unfold HYard.effLeft at *
          rcases List.mem_append.1 ha with ha | ha
          · simp at ha; rcases ha with rfl | rfl <;> cases hk
          · split at ha
            · obtain rfl := List.mem_singleton.1 ha; cases hk
            · simp at ha
        · split at ha
          · rename_i ha2
            obtain ⟨g1, g2, g3⟩ := h2 ha2
            obtain ⟨w1, w2⟩ := H.left_wait hi hj hgl hd ha2
            have e0 : h.effLeft i x = [(i, .tk (h.pr i).gone), (i, .res (h.pr i).gone true false)] ++ [((h.pr i).head.key.1.toNat, .waits (-1))] := by unfold HYard.effLeft; rw [if_pos ha2]
            rw [if_pos ha2, ← e0] at H1 g2 g3
            have ha : a ∈ (h.aps (h.effLeft i x)).effFin (h.pr i).head.key.1.toNat true := by rw [e0]; exact ha
            obtain ⟨s, e1, e2⟩ := HInv.end_close (h := h.aps (h.effLeft i x)) H1 (by rw [HYard.aps_len]; exact g1) g2 g3 a ha k hk
            exact ⟨s, e1, C_D' (h := h) H1 (.up .base w1) (fun t ht => H.left_waits hi x ha2 w2 ht) g3 e2⟩
          · simp at ha
      · simp only [List.mem_cons, List.not_mem_nil, or_false] at ha
        rcases ha with rfl | rfl <;> cases hk
theorem HYard.open_aps {t : Nat} {k : Key} : ∀ {A : Effs} {h : HYard}, t < h.procs.length → (∀ a ∈ A, a.1 = t → a.2.out = true) → (∀ a ∈ A, a.1 = t → a.2 ≠ .close k) → (h.pr t).gone < (h.pr t).hl.length → (h.pr t).head.key = k → ((h.aps A).pr t).head.closed = (h.pr t).head.closed
  | [], h, _, _, _, _, _ => rfl
  | a :: A, h, ht, hA, hk, hg, hkey => by
    by_cases e : t = a.1
    · subst e
      have h1 := hA a (by simp) rfl
      have ho := Eff.outs h1 (h.pr a.1)
      have hp := HYard.pr_ap_same (h := h) ht
      have ih := HYard.open_aps (t := a.1) (k := k) (A := A) (h := h.ap a) (by rw [HYard.ap_len]; exact ht) (fun x hx => hA x (by simp [hx])) (fun x hx => hk x (by simp [hx])) (by rw [hp]; have := ho.toOwn.gone; have := ho.len; omega) (by rw [hp, (ho.head hg).1]; exact hkey)
      show (((h.ap a).aps A).pr a.1).head.closed = _
      rw [ih, hp]
      obtain ⟨i, f⟩ := a
      cases f with
      | line l => show ((Eff.line l).ap (h.pr i)).head.closed = _; rw [head_line hg]
      | ask k' x =>
        show ((Eff.ask k' x).ap (h.pr i)).head.closed = _
        rw [head_upd (q := (Eff.ask k' x).ap (h.pr i)) (f := HLine.asked x) hg rfl rfl]
        split <;> rfl
      | close k' =>
        have hne : k' ≠ k := fun he => hk (i, .close k') (by simp) rfl (by rw [he])
        show ((Eff.close k').ap (h.pr i)).head.closed = _
        rw [head_upd (q := (Eff.close k').ap (h.pr i)) (f := HLine.shut) hg rfl rfl, if_neg (fun he => hne (he.symm.trans hkey))]
      | _ => cases h1
    · have hp := HYard.pr_ap_ne (h := h) e
      have ih := HYard.open_aps (t := t) (k := k) (A := A) (h := h.ap a) (by rw [HYard.ap_len]; exact ht) (fun x hx => hA x (by simp [hx])) (fun x hx => hk x (by simp [hx])) (by rw [hp]; exact hg) (by rw [hp]; exact hkey)
      show (((h.ap a).aps A).pr t).head.closed = _
      rw [ih, hp]
/-! ## For whom one waits -/
theorem wf_now (i : Nat) : h.now.wf i = (h.pr i).now.waitsFor := by unfold Yard.wf; rw [HYard.now_pr]
theorem waitsFor_of {p : Proc} (h : p.waits < 0) : p.waitsFor = if p.state = 4 then (p.lines.headD Line.none).key.1 else -1 := by unfold Proc.waitsFor; rw [if_neg (by omega)]
theorem HInv.goes_wf (H : HInv h) {i : Nat} (hi : i < h.procs.length) (hg : (h.pr i).goes = true) : h.now.wf i = -1 := by
  have hw := H.idle_waits hi hg
  rw [wf_now, waitsFor_of (by show (h.pr i).waits < 0; omega), if_neg]
  intro e
  unfold HProc.goes Proc.goes at hg
  rw [e] at hg; cases hg
theorem blocked {p : HProc} (h4 : p.now.state = 4) : p.job < 0 ∧ p.gone < p.hl.length ∧ p.head.all.drop p.head.tk = [] ∧ p.head.closed = false := by
  unfold Proc.state at h4
  have e1 : p.now.job = p.job := rfl
  have e2 : p.now.waits = p.waits := rfl
  rw [e1, e2] at h4
  by_cases h1 : 0 ≤ p.job ∧ 0 ≤ p.waits
  · rw [if_pos h1] at h4; cases h4
  · rw [if_neg h1] at h4
    by_cases h2 : 0 ≤ p.job
    · rw [if_pos h2] at h4; cases h4
    · rw [if_neg h2] at h4
      rcases Nat.lt_or_ge p.gone p.hl.length with h3 | h3
      · rw [now_lines.1 h3] at h4
        simp only at h4
        have e3 : p.head.now.asks = p.head.all.drop p.head.tk := rfl
        have e4 : p.head.now.closed = p.head.closed := rfl
        rw [e3, e4] at h4
        split at h4
        · cases h4
        · rename_i hc
          rw [not_or] at hc
          refine ⟨by omega, h3, ?_, by simpa using hc.2⟩
          exact Classical.not_not.1 hc.1
      · rw [now_lines.2 h3] at h4; cases h4
theorem of_blocked {p : HProc} (h1 : p.job < 0) (h2 : p.gone < p.hl.length) (h3 : p.head.all.drop p.head.tk = []) (h4 : p.head.closed = false) : p.now.state = 4 := by
  unfold Proc.state
  have e1 : p.now.job = p.job := rfl
  rw [e1, if_neg (by omega), if_neg (by omega), now_lines.1 h2]
  have e3 : p.head.now.asks = p.head.all.drop p.head.tk := rfl
  have e4 : p.head.now.closed = p.head.closed := rfl
  simp only [e3, e4, h3, h4]
  simp
theorem wf_blocked {p : HProc} (hw : p.waits < 0) (h4 : p.now.state = 4) : p.now.waitsFor = p.head.key.1 := by
  rw [waitsFor_of (by exact hw), if_pos h4, now_lines.1 (blocked h4).2.1]; rfl
theorem HInv.ring_step (H : HInv h) {l : List Int} (R : IsRing h.now.wf h.procs.length l) {i : Nat} (hi : i < h.procs.length) (hg : (h.pr i).goes = true) : IsRing (h.step i).now.wf h.procs.length l := by
  have hmem : ∀ x ∈ l, 0 ≤ x ∧ x < h.procs.length ∧ h.now.wf x.toNat ∈ l := fun x hx => by
    obtain ⟨j, hj⟩ := List.getElem?_of_mem hx
    have h1 := R.lt j x hj
    exact ⟨h1.1, h1.2, List.mem_of_getElem? (R.next j x hj)⟩
  have hin : (i : Int) ∉ l := fun hx => by
    have := hmem _ hx
    rw [Int.toNat_natCast, H.goes_wf hi hg] at this
    have := (hmem _ this.2.2).1
    omega
  have hD : ∀ s, h.D i s → (s : Int) ∉ l := fun s hd => by
    induction hd with
    | base => exact hin
    | @up s t _ hw ih =>
      intro hs
      have h1 := hmem _ hs
      rw [Int.toNat_natCast] at h1
      apply ih
      have h2 : h.now.wf s = t := by
        rw [wf_now]
        unfold Proc.waitsFor
        have e : (h.pr s).now.waits = (h.pr s).waits := rfl
        rw [e, if_pos (by omega), hw]
      rw [← h2]; exact h1.2.2
  have key : ∀ x ∈ l, (h.step i).now.wf x.toNat = h.now.wf x.toNat := fun x hx => by
    obtain ⟨x0, xn, xw⟩ := hmem x hx
    obtain ⟨r, rfl⟩ := Int.eq_ofNat_of_zero_le x0
    rw [Int.toNat_natCast] at xw ⊢
    have hr : r < h.procs.length := by omega
    obtain ⟨f1, _⟩ := H.step_ef hi hg
    have hout : ∀ b ∈ h.effs i, b.1 = r → b.2.out = true := fun b hb e => ((f1 b hb).tgt).resolve_right fun hd => hD _ hd (e ▸ hx)
    have ho : Out (h.pr r) ((h.step i).pr r) := HYard.outs_aps hr hout
    have ow := ho.toOwn
    rw [wf_now] at xw ⊢
    rw [wf_now]
    by_cases hw : 0 ≤ (h.pr r).waits
    · unfold Proc.waitsFor
      have e1 : ((h.step i).pr r).now.waits = (h.pr r).waits := ow.waits
      have e2 : (h.pr r).now.waits = (h.pr r).waits := rfl
      rw [e1, e2, if_pos hw, if_pos hw]
    · have hw' : (h.pr r).waits < 0 := by omega
      have h4 : (h.pr r).now.state = 4 := by
        rw [waitsFor_of hw'] at xw
        split at xw
        · assumption
        · have := (hmem _ xw).1; omega
      have hb := blocked h4
      rw [wf_blocked hw' h4] at xw ⊢
      have hgl2 : ((h.step i).pr r).gone < ((h.step i).pr r).hl.length := by rw [ow.gone]; have := ho.len; omega
      have hall : ((h.step i).pr r).head.all = (h.pr r).head.all := by
        refine HYard.all_aps (k := (h.pr r).head.key) hr hout (fun b hb2 _ y hy => ?_) hb.2.1 rfl
        have := ((f1 b hb2).ask _ y hy).1
        rw [this] at xw
        exact hin xw
      have hcl : ((h.step i).pr r).head.closed = (h.pr r).head.closed := by
        refine HYard.open_aps (k := (h.pr r).head.key) hr hout (fun b hb2 _ hy => ?_) hb.2.1 rfl
        obtain ⟨s, h1, h2⟩ := H.step_close hi hg hb2 hy
        rw [h1] at xw
        exact hD s h2 xw
      have hh := ho.head hb.2.1
      have h4' : ((h.step i).pr r).now.state = 4 := of_blocked (by rw [ow.job]; exact hb.1) hgl2 (by rw [hall, hh.2.1]; exact hb.2.2.1) (by rw [hcl]; exact hb.2.2.2)
      rw [wf_blocked (by rw [ow.waits]; exact hw') h4', hh.1]
  exact ⟨R.len, R.lt, fun j x hj => by rw [key x (List.mem_of_getElem? hj)]; exact R.next j x hj, R.nd⟩
/-! ## Nobody can go on -/
theorem HInv.stuck_wf (H : HInv h) (hno : ∀ i, i < h.procs.length → (h.pr i).goes = false) {i : Nat} (hi : i < h.procs.length) (h5 : (h.pr i).now.state ≠ 5) : ∃ j, j < h.procs.length ∧ (h.pr j).now.state ≠ 5 ∧ h.now.wf i = j ∧ j ≠ i := by
  have hg := hno i hi
  unfold HProc.goes Proc.goes at hg
  simp only [Bool.or_eq_false_iff, beq_eq_false_iff_ne] at hg
  have ok := H.ok i hi
  rw [wf_now]
  have hjob : ∀ j, 0 ≤ (h.pr j).job → (h.pr j).now.state ≠ 5 := fun j hj h5 => by
    unfold Proc.state at h5
    have e1 : (h.pr j).now.job = (h.pr j).job := rfl
    rw [e1] at h5
    split at h5
    · cases h5
    · first | (rw [if_pos hj] at h5; cases h5; done) | cases h5
  rcases ok.waits with hw | ⟨w1, w2, w3, w4⟩
  · have h4 : (h.pr i).now.state = 4 := by
      have hs : ∀ s, (h.pr i).now.state = s → s = 1 ∨ s = 2 ∨ s = 3 ∨ s = 4 ∨ s = 5 := fun s hs => by
        unfold Proc.state at hs
        split at hs
        · omega
        · split at hs
          · omega
          · split at hs
            · omega
            · split at hs <;> omega
      have h3 : (h.pr i).now.state ≠ 3 := fun e => by
        unfold Proc.state at e
        have e2 : (h.pr i).now.waits = (h.pr i).waits := rfl
        rw [e2, if_neg (by omega)] at e
        split at e
        · cases e
        · split at e
          · cases e
          · split at e <;> cases e
      have := hs _ rfl
      omega
    have hb := blocked h4
    have hg := get_head hb.2.1
    have okl := ok.line _ _ hg
    have hop := H.opened i hi _ (List.mem_of_getElem? hg) hb.2.2.2
    have hs0i : (((h.pr i).head.key.1.toNat : Nat) : Int) = (h.pr i).head.key.1 := Int.toNat_of_nonneg okl.key.1
    have hs0 : (h.pr i).head.key.1.toNat < h.procs.length := by have := okl.key; omega
    have oks := H.ok _ hs0
    have hh := oks.hold _ hop
    rw [if_neg (by simp)] at hh
    refine ⟨_, hs0, hjob _ ?_, by rw [wf_blocked (by omega) h4]; exact hs0i.symm, fun e => ?_⟩
    · rcases Int.lt_or_le (h.pr (h.pr i).head.key.1.toNat).job 0 with hj | hj
      · rw [(oks.idle hj).2.2.1] at hop; simp at hop
      · exact hj
    · exact hh.2.2.1 (by simp only; omega)
  · obtain ⟨t, ht⟩ := Int.eq_ofNat_of_zero_le w1
    have htn : t < h.procs.length := by omega
    have haw := H.aw i t hi htn
    rw [ht, if_pos rfl] at haw
    refine ⟨t, htn, fun h5 => ?_, ?_, by omega⟩
    · have okt := H.ok t htn
      rcases Nat.lt_or_ge (h.pr t).gone (h.pr t).hl.length with hgl | hgl
      · unfold Proc.state at h5
        rw [now_lines.1 hgl] at h5
        split at h5
        · cases h5
        · split at h5
          · cases h5
          · simp only at h5
            split at h5 <;> cases h5
      · unfold HProc.aw at haw
        rw [List.drop_of_length_le hgl] at haw
        by_cases hwt : (h.pr t).waited = true
        · have := aw_waited okt hwt; omega
        · rw [if_neg (fun hh => hwt hh.1)] at haw
          simp at haw
    · unfold Proc.waitsFor
      have e2 : (h.pr i).now.waits = (h.pr i).waits := rfl
      rw [e2, if_pos (by omega), ht]
theorem HInv.stuck (H : HInv h) (hno : ∀ i, i < h.procs.length → (h.pr i).goes = false) : (ringE h.now = [] ↔ ∀ i, i < h.procs.length → (h.pr i).now.state = 5) ∧ (ringE h.now ≠ [] → IsRing h.now.wf h.procs.length (ringE h.now)) := by
  have hn := HYard.now_len h
  have hwlt : ∀ i, i < h.procs.length → h.now.wf i < h.procs.length := fun i hi => by
    by_cases h5 : (h.pr i).now.state = 5
    · rw [wf_now]
      have hw : (h.pr i).waits < 0 := by
        rcases (H.ok i hi).waits with hw | hw
        · omega
        · exfalso
          unfold Proc.state at h5
          have e1 : (h.pr i).now.job = (h.pr i).job := rfl
          have e2 : (h.pr i).now.waits = (h.pr i).waits := rfl
          rw [e1, e2, if_pos ⟨hw.2.2.2, hw.1⟩] at h5; cases h5
      rw [waitsFor_of hw, if_neg (by rw [h5]; decide)]
      omega
    · obtain ⟨j, hj, _, e, _⟩ := H.stuck_wf hno hi h5
      rw [e]; omega
  rcases ringE_cases h.now with ⟨h0, hall⟩ | ⟨i, k, hi, hk, he⟩
  · rw [hn] at hall
    refine ⟨⟨fun _ i hi => ?_, fun _ => h0⟩, fun h => absurd h0 h⟩
    rcases Classical.em ((h.pr i).now.state = 5) with h5 | h5
    · exact h5
    · exfalso
      have horb : ∀ k, 0 ≤ orb h.now.wf i k ∧ (orb h.now.wf i k).toNat < h.procs.length ∧ (h.pr (orb h.now.wf i k).toNat).now.state ≠ 5 := by
        intro k
        induction k with
        | zero => show 0 ≤ (i : Int) ∧ ((i : Int)).toNat < _ ∧ (h.pr ((i : Int)).toNat).now.state ≠ 5; rw [Int.toNat_natCast]; exact ⟨by omega, hi, h5⟩
        | succ k ih =>
          obtain ⟨j, hj, hj5, e, _⟩ := H.stuck_wf hno ih.2.1 ih.2.2
          rw [orb_succ ih.1, e, Int.toNat_natCast]
          exact ⟨by omega, hj, hj5⟩
      obtain ⟨a, b, hab, hb, he⟩ := pigeon (n := h.procs.length) (g := fun k => (orb h.now.wf i k).toNat) fun k _ => (horb k).2.1
      have ha := horb a
      obtain ⟨j, hj, _, e, hne⟩ := H.stuck_wf hno ha.2.1 ha.2.2
      obtain ⟨k, hk⟩ := back_of (w := h.now.wf) (n := h.procs.length) (i := (orb h.now.wf i a).toNat) (k := b - a) hwlt ha.2.1 (by rw [e]; omega) (by omega) (by
        rw [← orb_add ha.1]
        have : a + (b - a) = b := by omega
        rw [this]
        have := (horb b).1
        omega) (fun j _ => by rw [← orb_add ha.1]; exact (horb _).1)
      exact hall _ ha.2.1 k hk
  · rw [hn] at hi hk
    have hne : ringE h.now ≠ [] := by
      rw [he]
      intro h0
      have := congrArg List.length h0
      simp at this
      have := hk.1
      omega
    refine ⟨⟨fun h0 => absurd h0 hne, fun hall => ?_⟩, fun _ => by rw [he]; exact back_ring hwlt hi hk⟩
    exfalso
    have h1 := hk.2.2.2 1 (Nat.le_refl _) (by have := hk.1; omega)
    rw [orb_one, wf_now] at h1
    have hw : (h.pr i).now.waitsFor = -1 := by
      have h5 := hall i hi
      have hw : (h.pr i).waits < 0 := by
        rcases (H.ok i hi).waits with hw | hw
        · omega
        · exfalso
          unfold Proc.state at h5
          have e1 : (h.pr i).now.job = (h.pr i).job := rfl
          have e2 : (h.pr i).now.waits = (h.pr i).waits := rfl
          rw [e1, e2, if_pos ⟨hw.2.2.2, hw.1⟩] at h5; cases h5
      rw [waitsFor_of hw, if_neg (by rw [h5]; decide)]
    rw [hw] at h1
    have := h1.2
    omega
end
end Go.Wt
namespace Go.Wt
section
variable {h : HYard}
theorem busy_state {p : HProc} (hj : 0 ≤ p.job) (hw : p.waits < 0) : p.now.state = 1 := by
  unfold Proc.state
  have e1 : p.now.job = p.job := rfl
  have e2 : p.now.waits = p.waits := rfl
  rw [e1, e2, if_neg (by omega), if_pos hj]
theorem Nr.wf (N : Nr h) (H : HInv h) {i : Nat} (hi : i < h.procs.length) (hw : 0 ≤ h.now.wf i) : (h.now.wf i).toNat < h.procs.length ∧ ((i : Int) < h.now.wf i ∨ h.now.wf (h.now.wf i).toNat = -1) := by
  have ok := H.ok i hi
  have Ni := (nr_iff.1 N).2 i hi
  rw [wf_now] at hw ⊢
  by_cases hws : 0 ≤ (h.pr i).waits
  · have e : (h.pr i).now.waitsFor = (h.pr i).waits := by
      unfold Proc.waitsFor
      have e2 : (h.pr i).now.waits = (h.pr i).waits := rfl
      rw [e2, if_pos hws]
    rw [e]
    rcases ok.waits with w | ⟨w1, w2, w3, w4⟩
    · omega
    · refine ⟨by omega, .inl ?_⟩
      obtain ⟨k, hk⟩ := Ni.wait hws
      obtain ⟨o, _, hH⟩ := Ni.at_ w4
      cases o with
      | none => have hH : (h.pr i).holds = [] := hH; rw [hH] at hk; cases hk
      | some s =>
        obtain ⟨h1, k', h2⟩ := hH
        rw [h2] at hk
        simp only [List.cons.injEq, Prod.mk.injEq, and_true] at hk
        omega
  · have hws : (h.pr i).waits < 0 := by omega
    have h4 : (h.pr i).now.state = 4 := by
      rw [waitsFor_of hws] at hw
      split at hw
      · assumption
      · omega
    rw [wf_blocked hws h4] at hw ⊢
    have hb := blocked h4
    have hgh := get_head hb.2.1
    have okl := ok.line _ _ hgh
    have hs : (h.pr i).head.key.1.toNat < h.procs.length := by have := okl.key; omega
    refine ⟨hs, .inr ?_⟩
    have hop := H.opened i hi _ (List.mem_of_getElem? hgh) hb.2.2.2
    have hsi : (((h.pr i).head.key.1.toNat : Nat) : Int) = (h.pr i).head.key.1 := Int.toNat_of_nonneg okl.key.1
    generalize hsd : (h.pr i).head.key.1.toNat = s at hs hop hsi
    have oks := H.ok s hs
    have Ns := (nr_iff.1 N).2 s hs
    have hjs : 0 ≤ (h.pr s).job := by
      rcases Int.lt_or_le (h.pr s).job 0 with hj | hj
      · rw [(oks.idle hj).2.2.1] at hop; simp at hop
      · exact hj
    rw [wf_now]
    rcases oks.waits with w | ⟨w1, w2, w3, w4⟩
    · have hst := busy_state hjs (by omega)
      rw [waitsFor_of (by show (h.pr s).waits < 0; omega), hst]; rfl
    · exfalso
      obtain ⟨k, hk⟩ := Ns.wait w1
      rw [hk] at hop
      have hop := List.mem_singleton.1 hop
      simp only [Prod.mk.injEq, and_true] at hop
      obtain ⟨hwi, hkk⟩ := hop
      have haw := H.aw s i hs hi
      rw [← hwi, if_pos rfl] at haw
      have hwt : (h.pr i).waited = false := (ok.idle hb.1).2.2.2.2
      unfold HProc.aw at haw
      rw [if_neg (fun hh => by rw [hwt] at hh; cases hh.1)] at haw
      obtain ⟨l, hl, hl0⟩ : ∃ l ∈ (h.pr i).hl.drop (h.pr i).gone, 0 < HLine.aw s l := by
        refine Classical.byContradiction fun hno => ?_
        have : (((h.pr i).hl.drop (h.pr i).gone).map (HLine.aw s)).sum = 0 := by
          have key : ∀ (L : List HLine), (∀ l ∈ L, HLine.aw s l = 0) → (L.map (HLine.aw s)).sum = 0 := by
            intro L
            induction L with
            | nil => intro _; rfl
            | cons x L ih => intro hL; simp [hL x (by simp), ih fun l hl => hL l (by simp [hl])]
          refine key _ fun l hl => ?_
          rcases Nat.eq_zero_or_pos (HLine.aw s l) with h0 | h0
          · exact h0
          · exact absurd ⟨l, hl, h0⟩ hno
        omega
      unfold HLine.aw at hl0
      split at hl0
      · rename_i hkl
        obtain ⟨a, ha, hat⟩ := List.countP_pos_iff.1 hl0
        obtain ⟨j0, hj0⟩ := List.getElem?_of_mem hl
        rw [List.getElem?_drop] at hj0
        have hlo := Ni.ao _ l (Nat.le_add_right _ _) hj0 (.inl ⟨a, ha, hat⟩)
        have hop2 := H.opened i hi l (List.mem_of_mem_drop hl) hlo
        have : l.key.1.toNat = s := by omega
        rw [this, hk] at hop2
        have hop2 := List.mem_singleton.1 hop2
        simp only [Prod.mk.injEq, and_true] at hop2
        have hke : l.key = (h.pr i).head.key := by rw [hop2.2, hkk]
        have hix := key_at ok.nd hj0 hgh hke
        rw [hix, hgh] at hj0
        have hll : (h.pr i).head = l := Option.some.inj hj0
        rw [← hll, hb.2.2.1] at ha
        simp at ha
      · omega
theorem Nr.no_back (N : Nr h) (H : HInv h) {i k : Nat} (hi : i < h.procs.length) (hk : Back h.now.wf h.procs.length i k) : False := by
  obtain ⟨h2, _, h0, hmin⟩ := hk
  have hpos : ∀ j, j ≤ k → 0 ≤ orb h.now.wf i j := fun j hj => by
    by_cases e : j = 0
    · subst e; show (0 : Int) ≤ i; omega
    · by_cases e2 : j = k
      · rw [e2, h0]; omega
      · exact (hmin j (by omega) (by omega)).2
  have key : ∀ j, j ≤ k → (orb h.now.wf i j).toNat < h.procs.length ∧ (i : Int) ≤ orb h.now.wf i j ∧ (1 ≤ j → (i : Int) < orb h.now.wf i j) := by
    intro j
    induction j with
    | zero => intro _; show ((i : Int)).toNat < _ ∧ (i : Int) ≤ i ∧ _; exact ⟨by omega, Int.le_refl _, fun h => by omega⟩
    | succ j ih =>
      intro hj
      have h1 := ih (by omega)
      have h3 := hpos j (by omega)
      have h4 := hpos (j + 1) hj
      have e5 := orb_succ (w := h.now.wf) (i := i) h3
      rw [e5] at h4 ⊢
      obtain ⟨a, b⟩ := Nr.wf N H h1.1 h4
      rcases b with b | b
      · exact ⟨a, by omega, fun _ => by omega⟩
      · exfalso
        by_cases e : j + 1 = k
        · rw [e] at e5
          rw [← e5, h0, Int.toNat_natCast] at b
          have := hpos 1 (by omega)
          rw [orb_one] at this
          omega
        · have := hpos (j + 2) (by omega)
          have e6 := orb_succ (w := h.now.wf) (i := i) (hpos (j + 1) hj)
          rw [e6, e5] at this
          omega
  have := (key k (Nat.le_refl _)).2.2 (by omega)
  omega
theorem Nr.no_ring (N : Nr h) (H : HInv h) : ringE h.now = [] := by
  rcases ringE_cases h.now with h0 | ⟨i, k, hi, hk, _⟩
  · exact h0.1
  · rw [HYard.now_len] at hi hk
    exact (N.no_back H hi hk).elim
theorem Nr.did (N : Nr h) {t : Nat} (ht : t < h.procs.length) : ∀ d ∈ (h.pr t).now.did, d.2.2.1 = false ∧ d.2.2.2 = false := fun d hd => by
  obtain ⟨l, hl, hd⟩ := List.mem_flatMap.1 (show d ∈ (h.pr t).hl.flatMap HLine.dids from hd)
  unfold HLine.dids at hd
  obtain ⟨⟨a, r⟩, hx, rfl⟩ := List.mem_map.1 hd
  have := (N.res t ht l hl).2 r (List.of_mem_zip hx).2
  simp only [this]
  exact ⟨trivial, trivial⟩
theorem HInv.idle5 (H : HInv h) {t : Nat} (ht : t < h.procs.length) (h5 : (h.pr t).now.state = 5) : (h.pr t).now.job < 0 ∧ (h.pr t).now.waits < 0 ∧ (h.pr t).now.holds = [] ∧ (h.pr t).now.lines = [] := by
  have ok := H.ok t ht
  have hj : (h.pr t).job < 0 := by
    rcases Int.lt_or_le (h.pr t).job 0 with hj | hj
    · exact hj
    · exfalso
      rcases Int.lt_or_le (h.pr t).waits 0 with hw | hw
      · rw [busy_state hj hw] at h5; cases h5
      · unfold Proc.state at h5
        have e1 : (h.pr t).now.job = (h.pr t).job := rfl
        have e2 : (h.pr t).now.waits = (h.pr t).waits := rfl
        rw [e1, e2, if_pos ⟨hj, hw⟩] at h5; cases h5
  have hid := ok.idle hj
  refine ⟨hj, by show (h.pr t).waits < 0; omega, hid.2.2.1, ?_⟩
  rcases Nat.lt_or_ge (h.pr t).gone (h.pr t).hl.length with hg | hg
  · exfalso
    unfold Proc.state at h5
    have e1 : (h.pr t).now.job = (h.pr t).job := rfl
    rw [e1, if_neg (by omega), if_neg (by omega), now_lines.1 hg] at h5
    simp only at h5
    split at h5 <;> cases h5
  · exact now_lines.2 hg
end
theorem nr_new {jobs : List (List Move)} {n : Nat} (hn : 0 < n) (hS : ∀ (j : Nat) l, jobs[j]? = some l → Shape n (j % n) none l) : Nr (HYard.new jobs n) := by
  rw [nr_iff, HYard.new_len]
  refine ⟨hS, fun t ht => ?_⟩
  rw [HYard.new_pr ht]
  split
  · rename_i e; subst e
    refine ⟨fun l hl a ha => ?_, fun (h0 : (0 : Int) ≤ -1) => by omega, fun (h0 : (0 : Int) ≤ -1) => by omega, fun l hl => ?_, fun j l hj hl hc => ?_⟩
    · obtain rfl := List.mem_singleton.1 hl
      obtain rfl := List.mem_singleton.1 ha
      exact Nat.zero_mod n
    · obtain rfl := List.mem_singleton.1 hl; exact ⟨rfl, fun x hx => by simp at hx⟩
    · have hl : [(⟨(0, 0), [(0, false)], 0, [], true, false⟩ : HLine)][j]? = some l := hl
      have hj0 : j = 0 := by have := (List.getElem?_eq_some_iff.1 hl).1; simp at this; omega
      subst hj0
      obtain rfl : _ = l := by simpa using hl
      rcases hc with ⟨a, ha, hat⟩ | ⟨_, hc⟩
      · obtain rfl := List.mem_singleton.1 (show a ∈ [((0 : Int), false)] from ha); cases hat
      · cases hc
  · exact ⟨fun l hl => by simp [HProc.empty] at hl, fun (h0 : (0 : Int) ≤ -1) => by omega, fun (h0 : (0 : Int) ≤ -1) => by omega, fun l hl => by simp [HProc.empty] at hl, fun j l _ hl => by simp [HProc.empty] at hl⟩
/-! ## Such jobs -/
abbrev Item := Nat × Nat × Nat
def partE (n L i : Nat) (x : Item) : List Move :=
  if (x.2.1 % L) % n ≤ i % n then []
  else match x.1 % 4 with
    | 0 => [(1, ((x.2.1 % L) % n : Nat), 0), (3, ((x.2.1 % L) % n : Nat), (x.2.1 % L : Nat)), (2, 0, 0)]
    | 1 => [(1, ((x.2.1 % L) % n : Nat), 0), (3, ((x.2.1 % L) % n : Nat), (x.2.1 % L : Nat)), (4, ((x.2.1 % L) % n : Nat), (x.2.1 % L : Nat)), (2, 0, 0)]
    | 2 => [(1, ((x.2.1 % L) % n : Nat), 0), (4, ((x.2.1 % L) % n : Nat), (x.2.1 % L : Nat)), (3, ((x.2.1 % L) % n : Nat), (x.2.1 % L : Nat)), (2, 0, 0)]
    | _ => [(5, ((x.2.1 % L) % n : Nat), (x.2.1 % L : Nat))]
def jobE (n L i : Nat) (l : List Item) : List Move := l.flatMap (partE n L i)
def apartE (n : Nat) (l : List (List Item)) : List (List Move) := l.mapIdx fun i x => jobE n l.length i x
theorem shape_part {n L i : Nat} (hn : 0 < n) {x : Item} {r : List Move} (h : Shape n (i % n) none r) : Shape n (i % n) none (partE n L i x ++ r) := by
  unfold partE
  split
  · exact h
  · rename_i hc
    have h1 : i % n < (x.2.1 % L) % n := by omega
    have h2 : (x.2.1 % L) % n < n := Nat.mod_lt _ hn
    have ha : ∃ a : Nat, (((x.2.1 % L : Nat)) : Int) = a ∧ a % n = (x.2.1 % L) % n := ⟨_, rfl, rfl⟩
    split
    · exact .inl ⟨rfl, _, rfl, h1, h2, .inl ⟨.inl rfl, rfl, ha, .inr ⟨rfl, h⟩⟩⟩
    · exact .inl ⟨rfl, _, rfl, h1, h2, .inl ⟨.inl rfl, rfl, ha, .inl ⟨.inr rfl, rfl, ha, .inr ⟨rfl, h⟩⟩⟩⟩
    · exact .inl ⟨rfl, _, rfl, h1, h2, .inl ⟨.inr rfl, rfl, ha, .inl ⟨.inl rfl, rfl, ha, .inr ⟨rfl, h⟩⟩⟩⟩
    · exact .inr ⟨rfl, _, _, rfl, h1, h2, rfl, rfl, h⟩
theorem shape_job {n L i : Nat} (hn : 0 < n) : ∀ (l : List Item), Shape n (i % n) none (jobE n L i l)
  | [] => trivial
  | x :: l => by
    unfold jobE
    rw [List.flatMap_cons]
    exact shape_part hn (shape_job hn l)
theorem part_len {n L i : Nat} {x : Item} : (partE n L i x).length ≤ 4 := by
  unfold partE
  split
  · simp
  · split <;> simp
theorem job_len {n L i : Nat} : ∀ (l : List Item), (jobE n L i l).length ≤ 4 * l.length
  | [] => by simp [jobE]
  | x :: l => by
    have := job_len (n := n) (L := L) (i := i) l
    unfold jobE at this ⊢
    rw [List.flatMap_cons, List.length_append, List.length_cons]
    have := part_len (n := n) (L := L) (i := i) (x := x)
    omega
theorem part_bal {n L i : Nat} {x : Item} {r : List Move} (h : bal 0 r = true) : bal 0 (partE n L i x ++ r) = true := by
  unfold partE
  split
  · exact h
  · split <;> simp [bal, h]
theorem job_bal {n L i : Nat} : ∀ (l : List Item), bal 0 (jobE n L i l) = true
  | [] => rfl
  | x :: l => by
    unfold jobE
    rw [List.flatMap_cons]
    exact part_bal (job_bal l)
theorem part_moved {n L i : Nat} {x : Item} (hn : 0 < n) (hL : 0 < L) : ∀ m ∈ partE n L i x, moved m L n = true := fun m hm => by
  have h2 : (x.2.1 % L) % n < n := Nat.mod_lt _ hn
  have h3 : x.2.1 % L < L := Nat.mod_lt _ hL
  unfold partE at hm
  generalize (x.2.1 % L) % n = s at h2 hm
  generalize x.2.1 % L = a at h3 hm
  split at hm
  · simp at hm
  · split at hm <;> simp only [List.mem_cons, List.not_mem_nil, or_false] at hm
    · rcases hm with rfl | rfl | rfl <;> simp [moved, within] <;> omega
    · rcases hm with rfl | rfl | rfl | rfl <;> simp [moved, within] <;> omega
    · rcases hm with rfl | rfl | rfl | rfl <;> simp [moved, within] <;> omega
    · subst hm; simp [moved, within]; omega
theorem apart_check {n : Nat} {l : List (List Item)} (hn : 0 < n ∧ n ≤ 12) (hl : 0 < l.length ∧ l.length ≤ 8) (hx : ∀ x ∈ l, x.length ≤ 3) : check (apartE n l) n = 0 := by
  have hlen : (apartE n l).length = l.length := by simp [apartE]
  have hmem : ∀ j ∈ apartE n l, ∃ (i : Nat) (x : List Item), l[i]? = some x ∧ j = jobE n l.length i x := fun j hj => by
    obtain ⟨i, hi, rfl⟩ := List.mem_iff_getElem.1 hj
    have hi' : i < l.length := by omega
    exact ⟨i, l[i], List.getElem?_eq_getElem hi', by simp [apartE]⟩
  unfold check
  rw [if_neg, if_neg, if_neg, if_neg]
  · simp only [Bool.not_eq_false, List.all_eq_true]
    intro j hj
    obtain ⟨i, x, _, rfl⟩ := hmem j hj
    exact job_bal x
  · simp only [Bool.not_eq_false, List.all_eq_true]
    intro j hj m hm
    obtain ⟨i, x, _, rfl⟩ := hmem j hj
    unfold jobE at hm
    obtain ⟨y, _, hm⟩ := List.mem_flatMap.1 hm
    rw [hlen]
    exact part_moved hn.1 hl.1 m hm
  · simp only [hlen, Bool.not_eq_false, Bool.and_eq_true, decide_eq_true_eq]; omega
  · simp only [hlen, Bool.or_eq_true, decide_eq_true_eq, Bool.not_eq_true', not_or, Bool.not_eq_false, List.all_eq_true]
    refine ⟨by omega, fun j hj => ?_⟩
    obtain ⟨i, x, hix, rfl⟩ := hmem j hj
    have := job_len (n := n) (L := l.length) (i := i) x
    have := hx x (List.mem_of_getElem? hix)
    omega
theorem apart_shape {n : Nat} {l : List (List Item)} (hn : 0 < n) : ∀ (j : Nat) m, (apartE n l)[j]? = some m → Shape n (j % n) none m := fun j m hj => by
  have hlt := (List.getElem?_eq_some_iff.1 hj).1
  have hlen : (apartE n l).length = l.length := by simp [apartE]
  have : m = jobE n l.length j l[j] := by
    unfold apartE at hj
    rw [List.getElem?_mapIdx, List.getElem?_eq_getElem (by omega)] at hj
    exact (Option.some.inj hj).symm
  rw [this]
  exact shape_job hn _
end Go.Wt
namespace Go.Wt
open Go Go.Ck Go.Proofs Go.Proofs.YtboepbencndobaaGreat Fx
attribute [local irreducible] St Cd Xt Nx DrL LsW
/-! ## Rows of rows -/
section
variable {α : Type} {E2 : TypeId} {sz : Nat} {C : α → List Value}
def nrows (E2 : TypeId) (sz : Nat) (C : α → List Value) (hs : List Value) (ls : List (List α)) : List Res := List.zipWith (fun h l => VR h E2 sz (l.map C)) hs ls
def NO (E : TypeId) (E2 : TypeId) (sz : Nat) (C : α → List Value) (v : Value) (hs : List Value) (ls : List (List α)) : SH := [VR v E 1 (hs.map fun h => [h]), Res.star (nrows E2 sz C hs ls), pureR (hs.length = ls.length)]
def nR (S : Res) (sz : Nat) (C : α → List Value) (us : List Value) (l : List α) : Prop := ∃ v, us = [v] ∧ Row S sz (eqC C) v l
theorem NO_row {E : TypeId} {v : Value} {hs : List Value} {ls : List (List α)} {S : Res} (hok : ∃ g, HoldsF g (NO E E2 sz C v hs ls)) (hr : ∀ r ∈ NO E E2 sz C v hs ls, ∀ a u, Rd r a u → Rd S a u) : Row S 1 (nR S sz C) v ls := by
  obtain ⟨g, hg⟩ := hok
  have hlen : hs.length = ls.length := HoldsF.get hg (r := pureR (hs.length = ls.length)) (by simp [NO])
  have h2 : HoldsF g (nrows E2 sz C hs ls) := HoldsF.get hg (r := Res.star (nrows E2 sz C hs ls)) (by simp [NO])
  refine row_vr (E := E) (rows := hs.map fun h => [h]) ⟨g, HoldsF.get hg (by simp [NO])⟩ (by simp [hlen]) (hr _ (by simp [NO])) fun i us l h3 h4 => ?_
  have hli : i < ls.length := (List.getElem?_eq_some_iff.1 h4).1
  have hai : hs[i]? = some hs[i] := List.getElem?_eq_getElem (by omega)
  have h5 : us = [hs[i]] := by simp [List.getElem?_map, hai] at h3; exact h3.symm
  have hmem : VR hs[i] E2 sz (l.map C) ∈ nrows E2 sz C hs ls := List.mem_of_getElem? (i := i) (by simp [nrows, List.getElem?_zipWith, hai, h4])
  refine ⟨hs[i], h5, row_vr (E := E2) (rows := l.map C) ⟨g, HoldsF.get h2 hmem⟩ (by simp) (fun a u hu => hr (Res.star (nrows E2 sz C hs ls)) (by simp [NO]) a u (rd_mem hmem a u hu)) fun j us x g1 g2 => ?_⟩
  simp [List.getElem?_map, g2] at g1; exact g1.symm
theorem NO_star {E : TypeId} {v : Value} {hs : List Value} {ls : List (List α)} (hok : ∃ g, (Res.star (NO E E2 sz C v hs ls)).ok g) : Row (Res.star (NO E E2 sz C v hs ls)) 1 (nR (Res.star (NO E E2 sz C v hs ls)) sz C) v ls := NO_row hok fun _ hr a u hu => rd_mem hr a u hu
theorem nrows_snoc {hs : List Value} {ls : List (List α)} {x : Value} {l : List α} (h : hs.length = ls.length) : nrows E2 sz C (hs ++ [x]) (ls ++ [l]) = nrows E2 sz C hs ls ++ [VR x E2 sz (l.map C)] := by unfold nrows; rw [List.zipWith_append h]; rfl
end
theorem kC_one (l : List Key) : ∀ us x, x ∈ l → eqC kC us x → ∀ u ∈ us, u.oneCell' = true := fun us x _ h u hu => by cases h; simp [kC] at hu; rcases hu with rfl | rfl <;> rfl
def ordersE (y : Yard) : List (List Key) × Int := if y.right = true then (y.procs.map (·.puts), 0) else ([], 2)
section
variable {S : Res}
set_option maxRecDepth 100000 in
theorem Orders_ct {ys : List Value} {y : Yard} (hy : yardR S ys y) (hf : Fit y) : CtN Tryz.prog 38 #[.agg ys.toArray] [S] fun u T => ∃ v, u = .tuple #[v, .int .i64 (ordersE y).2] ∧ Row T 1 (nR T 2 kC) v (ordersE y).1 := by
  obtain ⟨jv, pv, rfl, hj, hp⟩ := id hy
  obtain ⟨ap, cp, hpv, _⟩ := id hp
  have hfp := hf.2.1
  unfold ordersE
  subst hpv
  refine ct_of (n := 28) Tryz.func38 rfl rfl (len rfl) fun hr w0 => ?_
  refine cS (cR (st_bx rfl rfl fun b1 => ?_))
  refine sV (vA rfl) (sV (vA rfl) (sN (nK [1, 2, 3] rfl (nT (cS (cS (cR (sV (v_ldn rfl ld27 rfl rds_pt) ?_))))))))
  refine st_clr rfl rfl en67 rfl (opened_ct (l := []) hy hf Row.nil (by simp)) ?_
  refine sV (vA rfl) (sN (nK [1, 2, 3, 4] rfl (nT (cS (cR (sV (vM rfl) (sV (v_neq rfl rfl) (sN (nK [1, 2, 3, 4, 11] rfl (nT ?_))))))))))
  rw [openedE_nil]
  refine cC rfl (fun h1 => ?_) (fun h1 => ?_)
  · skip
    have h2 : ¬ y.right = true := fun h => by rw [if_pos h] at h1; cases h1
    refine cS (cR (sV (vM rfl) (sV (vA rfl) (sV (vA rfl) (sN (nK [1, 2, 3] rfl (nT (cT (xR ?_)))))))))
    rw [if_neg h2, if_neg h2]
    refine xt_vw (vw_pure (φ := True) trivial) ?_
    exact xt_rt rfl ⟨pureR True, rfl, .slice none 0 0, rfl, Row.nil⟩
  · skip
    have h2 : y.right = true := by
      cases hr : y.right with
      | true => rfl
      | false => rw [hr] at h1; cases h1
    rw [if_pos h2, if_pos h2]
    refine cK (xT (cS (cR (sV (vA rfl) (sN (nK [1, 2, 3, 5] rfl (nT (cS (cS (cR (sV (vF rfl fa27_1 rfl) (sV (v_ldy rfl ld25) ?_))))))))))))
    refine sV (v_len rfl Tryz.underlying25) (sV (vM rfl) (sN (nK [2, 3, 5, 14, 15, 16] rfl (nT (cd_block (cd_vw (vw_nil 74 1) (cd_pv (pv_add (triv_star (L := []) (fun r h => by cases h))) ?_)))))))
    refine cd_lp (σ := Nat × Value × List Value) (fun s => [(5, s.2.1), (14, .slice ap y.procs.length cp), (15, .int .i64 y.procs.length), (16, .int .i64 (s.1 : Nat))]) (fun s => VR s.2.1 74 1 (s.2.2.map fun h => [h]) :: Res.star (nrows 79 2 kC s.2.2 ((y.procs.take s.1).map (·.puts))) :: S :: hr) (fun s => s.1 ≤ y.procs.length ∧ s.2.2.length = s.1 ∧ s.2.1.oneCell' = true) (fun s => y.procs.length - s.1) (0, .slice none 0 0, []) ⟨Nat.zero_le _, rfl, rfl⟩ ?_
    rintro ⟨k, v, hs⟩ ⟨hk, hkl, h1⟩
    simp only at hk hkl h1
    refine cS (cR (sV (v_lss rfl rfl) (sN (nT (cS (cC rfl (fun hd => ?_) (fun hd => ?_)))))))
    · skip
      have hlt : k < y.procs.length := by simpa using hd
      obtain ⟨b, off, cp2, us, hv2, hus, hrd, lv, pv', hv, dv, rfl, hL, hP, hH, hD⟩ := hp.at (List.getElem?_eq_getElem hlt)
      have hfpp := hf.2.2 _ (List.getElem_mem hlt)
      obtain ⟨al, cl', rfl, _⟩ := id hL
      obtain ⟨ap', cp', rfl, _⟩ := id hP
      obtain ⟨ah, ch', rfl, _⟩ := id hH
      obtain ⟨ad, cd', rfl, _⟩ := id hD
      generalize hpe : y.procs[k] = p at *
      refine cK (xT (cS (cd_block (cS (cR (sV (v_indexAddr (k := k) (congrArg some hv2) rfl sl25 rfl hlt rfl) (sV (v_ldn rfl ld77 hus hrd) ?_)))))))
      refine st_alc al77 fun b7 => ?_
      refine st_stoW rfl rfl sz77 rfl rfl ?_
      refine sN (nK [5, 7, 14, 15, 16] rfl (nT (cR (sV (vM rfl) (sV (vF rfl fa77_1 rfl) (sV (v_ldy rfl ld74) ?_))))))
      refine st_cl rfl rfl en82 rfl (clone82_ct hP hfpp.2.1 (kC_one _)) ?_
      rintro u h' ⟨T, rfl, hT⟩
      obtain ⟨rfl, hu1⟩ := hT.eqC
      refine st_buildSlice (cells := [u]) rfl Tryz.underlying92 inf74 rfl rfl (fill_one hu1 _ (by simp)) (ltn rfl) fun b24 => ?_
      refine st_app [[u]] rfl rfl Tryz.underlying92 inf74 rfl (by decide) (by repeat (first | exact Sel.here | apply Sel.there)) (by simp) rfl (fun j u2 hu2 => at_here (rd_cl (by simpa using hu2))) (by simp; exact hu1) (by simp; omega) (by simp; omega) (ltn rfl) fun v' hv' _ => ?_
      refine sV (vA rfl) (sN (nK [5, 14, 15, 16] rfl (nx_xt (xB (xT (cR (sV (v_add rfl rfl (by unfold I64 at *; omega)) (sV (vM rfl) (sN (nK [5, 14, 15, 16] rfl (nx_xt ?_)))))))))))
      have e1 : (y.procs.take (k + 1)).map (·.puts) = (y.procs.take k).map (·.puts) ++ [p.puts] := by rw [List.take_succ_eq_append_getElem hlt, hpe]; simp
      rw [show hs.map (fun h => [h]) ++ [[u]] = (hs ++ [u]).map fun h => [h] by simp]
      refine xt_pv (pv_snoc (L := nrows 79 2 kC hs ((y.procs.take k).map (·.puts))) (r := VR u 79 2 (p.puts.map kC))) ?_
      rw [← nrows_snoc (by simp; omega), ← e1]
      refine xt_ag (k + 1, v', hs ++ [u]) ⟨hlt, by simp; omega, hv'⟩ (by show _ - _ < _ - _; omega)
    · skip
      refine cd_exit (xE (xE (xt_exit_block (xT (cS (cR (sV (vM rfl) (sV (vA rfl) (sV (vA rfl) (sN (nK [2, 3] rfl (nT (cT ?_)))))))))))))
      have hkj : k = y.procs.length := by have : ¬ k < y.procs.length := by simpa using hd
                                          omega
      subst hkj
      rw [List.take_length]
      refine xt_pv (pv_add (triv_pure (φ := hs.length = (y.procs.map (·.puts)).length) (by simp [hkl]))) ?_
      refine xt_pv (pv_pack (L := NO 74 79 2 kC v hs (y.procs.map (·.puts)))) ?_
      refine xt_ok .here fun hok => ?_
      exact xt_rt rfl ⟨_, rfl, v, rfl, NO_star hok⟩
end
end Go.Wt
namespace Go.Wt
open Go Go.Ck Go.Proofs Go.Proofs.YtboepbencndobaaGreat Fx
attribute [local irreducible] St Cd Xt Nx DrL LsW
def blk (acc : List (List Did)) (d : Did) : List (List Did) := match acc.getLast? with
  | some b => if (b.headD ((0, 0), 0, false, false)).1 = d.1 then acc.dropLast ++ [b ++ [d]] else acc ++ [[d]]
  | none => [[d]]
theorem blk_nil (d : Did) : blk [] d = [[d]] := rfl
theorem blk_snoc (ls : List (List Did)) (x : Did) (t : List Did) (d : Did) : blk (ls ++ [x :: t]) d = if x.1 = d.1 then ls ++ [(x :: t) ++ [d]] else ls ++ [x :: t] ++ [[d]] := by
  unfold blk
  simp
def blocksE (y : Yard) (spot : Int) : List (List Did) × Int := if openedE y [spot] = 0 then ((y.pr spot.toNat).did.foldl blk [], 0) else ([], openedE y [spot])
abbrev LB := Option (Value × Did × List Did)
def LB.sh : LB → SH
  | none => []
  | some (h, x, t) => [VR h 81 5 ((x :: t).map dC)]
def LB.hs : LB → List Value
  | none => []
  | some (h, _) => [h]
def LB.ls : LB → List (List Did)
  | none => []
  | some (_, x, t) => [x :: t]
theorem v_is {P : Program} {e : Env} {h : SH} {op : Op} {ty : TypeId} {v v' : Value} (he : v = v') (hv : Vop P e h op ty v) : Vop P e h op ty v' := he ▸ hv
section
variable {S : Res}
set_option maxHeartbeats 1000000 in
set_option maxRecDepth 100000 in
theorem Blocks_ct {ys : List Value} {y : Yard} (hy : yardR S ys y) (hf : Fit y) (spot : Int) : CtN Tryz.prog 26 #[.agg ys.toArray, .int .i64 spot] [S] fun u T => ∃ v, u = .tuple #[v, .int .i64 (blocksE y spot).2] ∧ Row T 1 (nR T 5 dC) v (blocksE y spot).1 := by
  obtain ⟨jv, pv, rfl, hj, hp⟩ := id hy
  unfold blocksE
  refine ct_of (n := 65) Tryz.func26 rfl rfl (len rfl) fun hr w0 => ?_
  refine cS (cR (st_bx rfl rfl fun b2 => ?_))
  refine sV (vA rfl) (sV (vA rfl) (sN (nK [1, 2, 4, 5] rfl (nT (cS (cS (cR (sV (v_ldn rfl ld27 rfl rds_pt) ?_))))))))
  refine sV (vM rfl) (st_buildSlice (cells := [.int .i64 spot]) rfl Tryz.underlying43 inf3 rfl rfl (by kernel_rfl) (ltn rfl) fun b13 => ?_)
  refine st_clr rfl rfl en67 rfl (reads_star (opened_ct (S := Res.star [pt b13 (cl [.int .i64 spot] 3), S]) (l := [spot]) (hy.mono (rd_in (.there .here))) hf ((row_pt (C := iC) (sz := 1) (l := [spot]) (n := 1) rfl (by simp [iC]) rfl (by decide)).mono (rd_in .here) fun _ _ _ h => h) (by simp))) ?_
  refine sV (vA rfl) (sN (nK [1, 2, 4, 5, 6] rfl (nT (cS (cR (sV (vM rfl) (sV (v_neq rfl rfl) (sN (nK [1, 2, 4, 5, 6, 16] rfl (nT (cC rfl (fun h1 => ?_) (fun h1 => ?_))))))))))))
  · skip
    refine cS (cR (sV (vM rfl) (sV (vA rfl) (sV (vA rfl) (sN (nK [1, 2, 4, 5] rfl (nT (cT (xR ?_)))))))))
    rw [if_neg (by simpa using h1)]
    refine xt_vw (vw_pure (φ := True) trivial) ?_
    exact xt_rt rfl ⟨pureR True, rfl, .slice none 0 0, rfl, Row.nil⟩
  · skip
    have h1' : openedE y [spot] = 0 := by simpa using h1
    rw [if_pos h1']
    obtain ⟨_, hsp⟩ := openedE_zero h1'
    obtain ⟨hs0, hs1⟩ := hsp spot (by simp)
    obtain ⟨q, rfl⟩ := Int.eq_ofNat_of_zero_le hs0
    rw [Int.toNat_natCast] at hs1 ⊢
    obtain ⟨b, off, cp2, us, rfl, hus, hrd, lv, pv', hv, dv, rfl, hL, hP, hH, hD⟩ := hp.at (List.getElem?_eq_getElem hs1)
    have hfpp := hf.2.2 _ (List.getElem_mem hs1)
    obtain ⟨ad, cd', hdv, _⟩ := id hD
    rw [pr_get hs1]
    generalize hpe : y.procs[q] = p at *
    have hdl := hfpp.2.2.2.1
    refine cK (xT (cS (cR (sV (vA rfl) (sN (nK [1, 2, 4, 5, 7] rfl (nT (cS (cS (cR (sV (vF rfl fa27_1 rfl) (sV (v_ldy rfl ld25) ?_))))))))))))
    refine sV (vM rfl) (sV (v_indexAddr (k := q) rfl rfl sl25 rfl hs1 rfl) (sV (vF rfl fa77_8 rfl) (sV (v_ldy rfl ld62) ?_)))
    refine sV (v_len (congrArg some hdv) Tryz.underlying62) (sV (vM rfl) (sN (nK [4, 5, 7, 23, 24, 25] rfl (nT (cd_block (cd_vw (vw_nil 62 1) (cd_pv (pv_add (triv_star (L := []) (fun r h => by cases h))) ?_)))))))
    refine cd_lp (σ := Nat × Value × List Value × List (List Did) × LB) (fun s => [(7, s.2.1), (23, dv), (24, .int .i64 p.did.length), (25, .int .i64 (s.1 : Nat))]) (fun s => VR s.2.1 62 1 ((s.2.2.1 ++ s.2.2.2.2.hs).map fun h => [h]) :: Res.star (nrows 81 5 dC s.2.2.1 s.2.2.2.1) :: (s.2.2.2.2.sh ++ (S :: hr))) (fun s => s.1 ≤ p.did.length ∧ s.2.2.1.length = s.2.2.2.1.length ∧ s.2.1.oneCell' = true ∧ (p.did.take s.1).foldl blk [] = s.2.2.2.1 ++ s.2.2.2.2.ls ∧ (s.2.2.2.2 = none → s.2.2.1 = []) ∧ s.2.2.1.length ≤ s.1 ∧ (s.2.2.2.2 ≠ none → s.2.2.1.length + 1 ≤ s.1) ∧ ∀ h x t, s.2.2.2.2 = some (h, x, t) → t.length ≤ s.1) (fun s => p.did.length - s.1) (0, .slice none 0 0, [], [], none) ⟨Nat.zero_le _, rfl, rfl, rfl, fun _ => rfl, Nat.zero_le _, fun h => absurd rfl h, fun h x t e => by cases e⟩ ?_
    rintro ⟨k, v, hs, ls, lb⟩ ⟨hk, hkl, h1, hacc, hnone, hle1, hle2, hle3⟩
    simp only at hk hkl h1 hacc hnone hle1 hle2 hle3
    refine cS (cR (sV (v_lss rfl rfl) (sN (nT (cS (cC rfl (fun hd => ?_) (fun hd => ?_)))))))
    · skip
      have hlt : k < p.did.length := by simpa using hd
      obtain ⟨b2, off2, cp3, us2, hv2, hus2, hrd2, rfl⟩ := hD.at (List.getElem?_eq_getElem hlt)
      have hfold : (p.did.take (k + 1)).foldl blk [] = blk (ls ++ lb.ls) p.did[k] := by rw [List.take_succ_eq_append_getElem hlt, List.foldl_append, hacc]; rfl
      generalize hde : p.did[k] = d at *
      rcases lb with _ | ⟨hl, x, t⟩
      · skip
        obtain rfl := hnone rfl
        have hls : ls = [] := List.eq_nil_of_length_eq_zero (by simpa using hkl.symm)
        subst hls
        simp only [LB.sh, LB.hs, LB.ls, List.nil_append, List.append_nil, List.map_nil] at hfold ⊢
        rw [blk_nil] at hfold
        refine cd_rowf (v := v) (by repeat (first | exact Sel.here | apply Sel.there)) (fun va vc hve _ _ => ?_)
        simp only [List.length_nil] at hve
        subst hve
        refine cK (xT (cS (cd_block (cS (cR (sV (v_indexAddr (k := k) (congrArg some hv2) rfl sl62 rfl hlt rfl) (sV (v_ldn rfl ld81 hus2 hrd2) ?_)))))))
        refine st_alc al81 fun b9 => ?_
        refine st_stoW rfl rfl sz81 rfl rfl ?_
        refine sN (nK [7, 9, 23, 24, 25] rfl (nT (cS (cS (cR (sV (vM rfl) (sV (v_len rfl Tryz.underlying54) (sV (vA rfl) (sN (nK [7, 9, 10, 23, 24, 25] rfl (nT (cS (cd_drawh (ork [(0, 2), (1, 2), (2, 2), (3, 2), (4, 2), (5, 2), (6, 2), (7, 1), (8, 2), (9, 2), (10, 1), (11, 2), (12, 1), (13, 1), (14, 2)] .nil) (fun _ => true) mixed (by kernel_rfl) ?_)))))))))))))
        refine dV rfl (vM rfl) (dV rfl (v_gtr rfl rfl) (dV rfl (vM rfl) (dp_sk rfl rfl rfl rfl ?_)))
        refine dp_sk rfl rfl rfl rfl ?_
        refine dp_sk rfl rfl rfl rfl ?_
        refine dp_sk rfl rfl rfl rfl ?_
        refine dr_sk rfl rfl rfl rfl ?_
        refine dp_sk rfl rfl rfl rfl ?_
        refine dp_sk rfl rfl rfl rfl ?_
        refine dr_sk rfl rfl rfl rfl ?_
        refine dp_sk rfl rfl rfl rfl ?_
        refine dr_sk rfl rfl rfl rfl ?_
        refine dr_sk rfl rfl rfl rfl ?_
        refine dV rfl (vP rfl rfl) (dr_nil (nK [7, 9, 10, 23, 24, 25, 45] rfl (nT (cd_false rfl ?_))))
        refine cK (xT (cR (sV (vM rfl) (sV (v_ldn rfl ld81 rfl rds_pt) ?_))))
        refine st_buildSlice (cells := dC d) rfl Tryz.underlying62 inf81 rfl rfl (by kernel_rfl) (ltn rfl) fun b60 => ?_
        refine st_buildSlice (cells := [.slice (some ⟨b60, 0, none⟩) 1 1]) rfl Tryz.underlying54 inf62 rfl rfl (by kernel_rfl) (ltn rfl) fun b61 => ?_
        refine st_app [[.slice (some ⟨b60, 0, none⟩) 1 1]] rfl rfl Tryz.underlying54 inf62 rfl (by decide) (by repeat (first | exact Sel.here | apply Sel.there)) (by simp) rfl (fun j u2 hu2 => at_here (rd_cl (by simpa using hu2))) (by simp [Value.oneCell']) (by simp) (by simp) (ltn rfl) fun v' hv' _ => ?_
        refine sV (vA rfl) (sN (nK [7, 23, 24, 25] rfl (nx_xt (xB (xT (cR (sV (v_add rfl rfl (by unfold I64 at *; omega)) (sV (vM rfl) (sN (nK [7, 23, 24, 25] rfl (nx_xt (xt_pv (pv_of (E := 81) (sz := 5) [dC d] (cells := dC d) (b := b60) (n := 1) (by simp) (by simp [dC]) rfl (by decide)) ?_))))))))))))
        refine xt_ag (k + 1, v', [], [], some (.slice (some ⟨b60, 0, none⟩) 1 1, d, [])) ⟨hlt, rfl, hv', hfold, (fun h => by cases h), Nat.zero_le _, (fun _ => by simp), (fun h x t e => by cases e; simp)⟩ (by show _ - _ < _ - _; omega)
      · skip
        simp only [LB.sh, LB.hs, LB.ls] at hfold ⊢
        have hhs := hle2 (by simp)
        have htl := hle3 hl x t rfl
        rw [blk_snoc] at hfold
        refine cd_row (v := v) (by repeat (first | exact Sel.here | apply Sel.there)) (fun _ h0 => by simp at h0) (fun vb vo vc hve _ _ => ?_)
        refine cd_row (v := hl) (by repeat (first | exact Sel.here | apply Sel.there)) (fun _ h0 => by simp at h0) (fun lb2 lo lc hle _ _ => ?_)
        simp only [List.length_map, List.length_append, List.length_cons, List.length_nil] at hve hle
        subst hve hle
        have hn : decide (0 < ((hs.length + (0 + 1) : Nat) : Int)) = true := by simp
        have hrow : ((hs ++ [Value.slice (some ⟨lb2, lo, none⟩) (t.length + 1) lc]).map fun h => [h])[hs.length]? = some [.slice (some ⟨lb2, lo, none⟩) (t.length + 1) lc] := by simp
        have hRd : Rd (VR (.slice (some ⟨vb, vo, none⟩) (hs.length + (0 + 1)) vc) 62 1 ((hs ++ [Value.slice (some ⟨lb2, lo, none⟩) (t.length + 1) lc]).map fun h => [h])) ⟨vb, vo + hs.length * 1, none⟩ (.slice (some ⟨lb2, lo, none⟩) (t.length + 1) lc) := by
          have := rd_vrk (E := 62) (b := vb) (o := vo) (n := hs.length + (0 + 1)) (cp := vc) (sz := 1) (k := 0) hrow rfl
          exact this
        refine cK (xT (cS (cd_block (cS (cR (sV (v_indexAddr (k := k) (congrArg some hv2) rfl sl62 rfl hlt rfl) (sV (v_ldn rfl ld81 hus2 hrd2) ?_)))))))
        refine st_alc al81 fun b9 => ?_
        refine st_stoW rfl rfl sz81 rfl rfl ?_
        refine sN (nK [7, 9, 23, 24, 25] rfl (nT (cS (cS (cR (sV (vM rfl) (sV (v_len rfl Tryz.underlying54) (sV (vA rfl) (sN (nK [7, 9, 10, 23, 24, 25] rfl (nT (cS (cd_drawh (ork [(0, 2), (1, 2), (2, 2), (3, 2), (4, 2), (5, 2), (6, 2), (7, 1), (8, 2), (9, 2), (10, 1), (11, 2), (12, 1), (13, 1), (14, 2)] .nil) (fun _ => true) mixed (by kernel_rfl) ?_)))))))))))))
        refine dV rfl (vM rfl) (dV rfl (v_is (congrArg Value.bool hn) (v_gtr rfl rfl)) (dV rfl (vM rfl) (dp_vg rfl rfl rfl (vM rfl) (dp_vg rfl rfl rfl (vM rfl) (dp_vg rfl rfl rfl (v_sub rfl rfl (by unfold I64 at *; omega)) (dp_vg rfl rfl rfl (v_indexAddr (k := hs.length) rfl rfl sl54 (by push_cast; omega) (by omega) rfl) ?_))))))
        refine dr_vg rfl rfl rfl (v_ldy rfl ld62) ?_
        refine dp_vg rfl rfl rfl (v_indexAddr (k := 0) rfl rfl sl62 rfl (by omega) rfl) (dp_vg rfl rfl rfl (vF rfl fa81_0 rfl) (dr_vg rfl rfl rfl (v_ldn (vs := kC x.1) rfl ld79 rfl (rds_sub (rds_vr (m := 0) rfl) rfl)) ?_))
        refine dp_vg rfl rfl rfl (vF rfl fa81_0 rfl) (dr_vg rfl rfl rfl (v_ldn (vs := kC d.1) rfl ld79 rfl (rds_sub rds_pt rfl)) ?_)
        refine dr_vg rfl rfl rfl (v_eql_T eq79 rfl rfl) (dV rfl (v_pick_true rfl rfl) (dr_nil (nK [7, 9, 10, 23, 24, 25, 45] rfl (nT (cC rfl (fun hk2 => ?_) (fun hk2 => ?_))))))
        · skip
          refine cS (cd_drawh (ork [(0, 2), (1, 2), (2, 2), (3, 2), (4, 2), (5, 2), (6, 2), (7, 1), (8, 1), (9, 0), (10, 0), (11, 2), (12, 0)] .nil) (fun i => !(Nat.beq i 10 || Nat.beq i 12)) mixed (by kernel_rfl) ?_)
          refine dV rfl (vM rfl) (dV rfl (vM rfl) (dV rfl (v_sub rfl rfl (by unfold I64 at *; omega)) (dV rfl (vM rfl) (dV rfl (vM rfl) (dV rfl (v_sub rfl rfl (by unfold I64 at *; omega)) ?_)))))
          rw [if_pos (by simpa using hk2)] at hfold
          refine dV rfl (v_indexAddr (k := hs.length) rfl rfl sl54 (by push_cast; omega) (by omega) rfl) ?_
          refine dr_v rfl (v_ldy rfl ld62) ?_
          refine dr_v rfl (v_ldn rfl ld81 rfl rds_pt) ?_
          refine dr_eff rfl (st_buildSlice (cells := dC d) rfl Tryz.underlying62 inf81 rfl rfl (by kernel_rfl) (ltn rfl) fun b55 => dr_nx ?_)
          refine dr_eff rfl (st_app (v := .slice (some ⟨lb2, lo, none⟩) (t.length + 1) lc) [dC d] rfl rfl Tryz.underlying62 inf81 rfl (by decide) (by repeat (first | exact Sel.here | apply Sel.there)) (by simp [dC]) rfl (fun j u2 hu2 => at_here (rd_cl (by simpa using hu2))) (by simp [dC, Value.oneCell']) (by simp; omega) (by simp; omega) (ltn rfl) fun v' hv' _ => dr_nx ?_)
          refine dV rfl (v_indexAddr (k := hs.length) rfl rfl sl54 (by push_cast; omega) (by omega) rfl) ?_
          refine dr_eff rfl (st_vr (sz := 1) (m := hs.length) (k := 0) rfl rfl sz62 hv' hrow (by decide) rfl (by repeat (first | exact Sel.here | apply Sel.there)) (dr_nx ?_))
          refine dr_nil (nK [7, 9, 23, 24, 25] rfl (nT (cd_exit (xE (xt_exit_block (xT (cR (sV (v_add rfl rfl (by unfold I64 at *; omega)) (sV (vM rfl) (sN (nK [7, 23, 24, 25] rfl (nx_xt ?_))))))))))))
          have e2 : (((hs ++ [Value.slice (some ⟨lb2, lo, none⟩) (t.length + 1) lc]).map fun h => [h]).set hs.length ([Value.slice (some ⟨lb2, lo, none⟩) (t.length + 1) lc].set 0 v')) = (hs ++ [v']).map fun h => [h] := by simp
          rw [e2]
          have e3 : (x :: t).map dC ++ [dC d] = (x :: (t ++ [d])).map dC := by simp
          rw [e3]
          refine xt_ag (k + 1, .slice (some ⟨vb, vo, none⟩) (hs.length + (0 + 1)) vc, hs, ls, some (v', x, t ++ [d])) ⟨hlt, hkl, rfl, hfold, (fun h => by cases h), by show hs.length ≤ k + 1; omega, (fun _ => by show hs.length + 1 ≤ k + 1; omega), (fun h x2 t2 e => by cases e; simp; omega)⟩ (by show _ - _ < _ - _; omega)
        · skip
          refine cK (xT (cR (sV (vM rfl) ?_)))
          rw [if_neg (by simpa using hk2)] at hfold
          refine sV (v_ldn rfl ld81 rfl rds_pt) ?_
          refine st_buildSlice (cells := dC d) rfl Tryz.underlying62 inf81 rfl rfl (by kernel_rfl) (ltn rfl) fun b60 => ?_
          refine st_buildSlice (cells := [.slice (some ⟨b60, 0, none⟩) 1 1]) rfl Tryz.underlying54 inf62 rfl rfl (by kernel_rfl) (ltn rfl) fun b61 => ?_
          refine st_app (v := .slice (some ⟨vb, vo, none⟩) (hs.length + (0 + 1)) vc) [[.slice (some ⟨b60, 0, none⟩) 1 1]] rfl rfl Tryz.underlying54 inf62 rfl (by decide) (by repeat (first | exact Sel.here | apply Sel.there)) (by simp) rfl (fun j u2 hu2 => at_here (rd_cl (by simpa using hu2))) (by simp [Value.oneCell']) (by simp; omega) (by simp; omega) (ltn rfl) fun v' hv' _ => ?_
          refine sV (vA rfl) (sN (nK [7, 23, 24, 25] rfl (nx_xt (xB (xT (cR (sV (v_add rfl rfl (by unfold I64 at *; omega)) (sV (vM rfl) (sN (nK [7, 23, 24, 25] rfl (nx_xt (xt_pv (pv_of (E := 81) (sz := 5) [dC d] (cells := dC d) (b := b60) (n := 1) (by simp) (by simp [dC]) rfl (by decide)) ?_))))))))))))
          refine xt_pv (pv_snoc (L := nrows 81 5 dC hs ls) (r := VR (.slice (some ⟨lb2, lo, none⟩) (t.length + 1) lc) 81 5 ((x :: t).map dC))) ?_
          rw [← nrows_snoc hkl]
          have e2 : ((hs ++ [Value.slice (some ⟨lb2, lo, none⟩) (t.length + 1) lc]).map fun h => [h]) ++ [[Value.slice (some ⟨b60, 0, none⟩) 1 1]] = (hs ++ [Value.slice (some ⟨lb2, lo, none⟩) (t.length + 1) lc] ++ [Value.slice (some ⟨b60, 0, none⟩) 1 1]).map fun h => [h] := by simp
          rw [e2]
          refine xt_ag (k + 1, v', hs ++ [Value.slice (some ⟨lb2, lo, none⟩) (t.length + 1) lc], ls ++ [x :: t], some (.slice (some ⟨b60, 0, none⟩) 1 1, d, [])) ⟨hlt, by simp [hkl], hv', hfold, (fun h => by cases h), by simp; omega, (fun _ => by simp; omega), (fun h x2 t2 e => by cases e; simp)⟩ (by show _ - _ < _ - _; omega)
    · skip
      refine cd_exit (xE (xE (xt_exit_block (xT (cS (cR (sV (vM rfl) (sV (vA rfl) (sV (vA rfl) (sN (nK [4, 5] rfl (nT (cT ?_)))))))))))))
      have hkj : k = p.did.length := by have : ¬ k < p.did.length := by simpa using hd
                                        omega
      subst hkj
      rw [List.take_length] at hacc
      rw [hacc]
      rcases lb with _ | ⟨hl, x, t⟩
      · skip
        simp only [LB.sh, LB.hs, LB.ls, List.nil_append, List.append_nil]
        refine xt_pv (pv_add (triv_pure (φ := hs.length = ls.length) hkl)) ?_
        refine xt_pv (pv_pack (L := NO 62 81 5 dC v hs ls)) ?_
        refine xt_ok .here fun hok => ?_
        exact xt_rt rfl ⟨_, rfl, v, rfl, NO_star hok⟩
      · skip
        simp only [LB.sh, LB.hs, LB.ls]
        refine xt_pv (pv_snoc (L := nrows 81 5 dC hs ls) (r := VR hl 81 5 ((x :: t).map dC))) ?_
        rw [← nrows_snoc hkl]
        refine xt_pv (pv_add (triv_pure (φ := (hs ++ [hl]).length = (ls ++ [x :: t]).length) (by simp [hkl]))) ?_
        refine xt_pv (pv_pack (L := NO 62 81 5 dC v (hs ++ [hl]) (ls ++ [x :: t]))) ?_
        refine xt_ok .here fun hok => ?_
        exact xt_rt rfl ⟨_, rfl, v, rfl, NO_star hok⟩
end
end Go.Wt
