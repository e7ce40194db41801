/-
  Package wait: Ring, CheckRing, Orders. Conditions: what is read, that lists are not too long.
  Rings: what the search for one finds. Nothing of the program is named here. No condition.
  Where nobody can go on all is idle, or there is a ring; a ring stays one. Nothing of the program is named here. No condition.
  Jobs that send requests to greater processors alone: no ring, nothing failed; such jobs made. Nothing of the program is named here. No condition.
  Package wait: Orders, Blocks. Conditions: what is read, that lists are not too long.
  Package wait: Blocks. Conditions: what is read, that lists are not too long.
  Package wait: the processors that can go on, one by one. Conditions: what is read, that lists are not too long, what is done at each.
  Package wait: copied. Conditions: what is read, that lists are not too long.
  Package wait: line, hold. Conditions: what is read, that lists are not too long.
-/
import Derived.Test.YtboepbencndobaaGreatM7
import Derived.Test.YtboepbencndobaaGreatM4
import Derived.Test.YtboepbencndobaaGreatM5
set_option linter.unusedVariables false
set_option linter.unusedSimpArgs false
namespace Go.Wt
open Go Go.Ck Go.Proofs Go.Proofs.YtboepbencndobaaGreat Fx
attribute [local irreducible] St Cd Xt Nx DrL LsW
section
variable {P : Program} {e : Env} {h : SH} {ty : TypeId}
theorem v_remp {t t' : TypeId} {x y : Operand} {a b : Int} (hx : e.ev? x = some (.int .i64 a)) (hy : e.ev? y = some (.int .i64 b)) (ha : 0 ≤ a) (hb : 0 < b) (hr : I64 b) : Vop P e h (.binOp .rem t x y t') ty (.int .i64 (a % b)) :=
  ⟨by simp, by simp, fun ρ w d pos after g hρ _ => by
    have h1 : a.tmod b = a % b := Int.tmod_eq_emod_of_nonneg ha
    have h2 : 0 ≤ a % b := Int.emod_nonneg a (by omega)
    have h3 : a % b < b := Int.emod_lt_of_pos a hb
    have hw : IntKind.i64.wrap (a.tmod b) = a % b := by rw [h1]; exact I64.wrap (by unfold I64 at *; omega)
    have hb0 : ¬ b = 0 := by omega
    simp [execOp, hρ x _ hx, hρ y _ hy, eqGuard_rem, binOp_rem, Op.intDiv, hb0, hw]
    try exact h1⟩
end
def ringYE (y : Yard) : List Int × Bool × Int := if y.right = true then (ringE y, decide (0 < ((ringE y).length : Int)), 0) else ([], false, 2)
section
variable {S : Res}
set_option maxRecDepth 100000 in
theorem Ring_ct {ys : List Value} {y : Yard} (hy : yardR S ys y) (hf : Fit y) : CtN Tryz.prog 32 #[.agg ys.toArray] [S] fun u T => ∃ v, u = .tuple #[v, .bool (ringYE y).2.1, .int .i64 (ringYE y).2.2] ∧ T = VR v 3 1 ((ringYE y).1.map iC) := by
  obtain ⟨jv, pv, rfl, hj, hp⟩ := id hy
  obtain ⟨ap, cp, rfl, _⟩ := id hp
  unfold ringYE
  refine ct_of (n := 18) Tryz.func32 rfl rfl (len rfl) fun hr w0 => ?_
  refine cS (cR (st_bx rfl rfl fun b1 => ?_))
  refine sV (vA rfl) (sV (vA rfl) (sV (vA rfl) (sN (nK [1, 2, 3, 4] rfl (nT (cS (cS (cR (sV (v_ldn rfl ld27 rfl rds_pt) ?_)))))))))
  refine st_clr rfl rfl en67 rfl (opened_ct (l := []) hy hf Row.nil (by simp)) ?_
  refine sV (vA rfl) (sN (nK [1, 2, 3, 4, 5] rfl (nT (cS (cR (sV (vM rfl) (sV (v_neq rfl rfl) (sN (nK [1, 2, 3, 4, 5, 10] rfl (nT ?_))))))))))
  rw [openedE_nil]
  refine cC rfl (fun h1 => ?_) (fun h1 => ?_)
  · skip
    have h2 : ¬ y.right = true := fun h => by rw [if_pos h] at h1; cases h1
    refine cS (cR (sV (vM rfl) (sV (vA rfl) (sV (vA rfl) (sV (vA rfl) (sN (nK [1, 2, 3, 4] rfl (nT (cT (xR ?_))))))))))
    rw [if_neg h2, if_neg h2]
    refine xt_vw (vw_nil 3 1) ?_
    exact xt_rt rfl ⟨VR (.slice none 0 0) 3 1 [], rfl, .slice none 0 0, rfl, rfl⟩
  · skip
    have h2 : y.right = true := by
      cases hr : y.right with
      | true => rfl
      | false => rw [hr] at h1; cases h1
    rw [if_pos h2, if_pos h2]
    refine cK (xT (cS (cR (sV (v_ldn rfl ld27 rfl rds_pt) ?_))))
    refine st_cl rfl rfl en77 rfl (ring_ct hy hf h2) ?_
    rintro v h' ⟨T, rfl, rfl, hv⟩
    refine sV (vA rfl) (sN (nK [2, 3, 4, 6] rfl (nT (cS (cd_row (v := v) (by repeat (first | exact Sel.here | apply Sel.there)) (fun h0 hr0 => ?_) (fun vb vo vc hve _ _ => ?_))))))
    · have hl0 : ringE y = [] := by simpa using hr0
      subst h0
      rw [hl0]
      refine cR (sV (vM rfl) (sV (vM rfl) (sV (v_len rfl Tryz.underlying43) (sV (v_gtr rfl rfl) (sV (vA rfl) (sV (vA rfl) (sV (vA rfl) (sN (nK [2, 3, 4] rfl (nT (cT ?_)))))))))))
      exact xt_rt rfl ⟨VR (.slice none 0 0) 3 1 [], rfl, .slice none 0 0, rfl, rfl⟩
    · simp only [List.length_map] at hve
      subst hve
      refine cR (sV (vM rfl) (sV (vM rfl) (sV (v_len rfl Tryz.underlying43) (sV (v_gtr rfl rfl) (sV (vA rfl) (sV (vA rfl) (sV (vA rfl) (sN (nK [2, 3, 4] rfl (nT (cT ?_)))))))))))
      exact xt_rt rfl ⟨VR (.slice (some ⟨vb, vo, none⟩) (ringE y).length vc) 3 1 ((ringE y).map iC), rfl, .slice (some ⟨vb, vo, none⟩) (ringE y).length vc, rfl, rfl⟩
def ringOk (y : Yard) (l : List Int) (i : Nat) (x : Int) : Bool := within x 0 ((y.procs.length : Int) - 1) && !(l.take i).contains x && y.wf x.toNat == l.getD ((i + 1) % l.length) 0
def checkRingE (y : Yard) (l : List Int) : Int := if y.right = true then (if l.length < 2 ∨ y.procs.length < l.length then 11 else if ((List.range l.length).all fun i => ringOk y l i (l.getD i 0)) = true then 0 else 11) else 2
theorem take_snoc_contains {l : List Int} {i : Nat} (hi : i < l.length) (x : Int) : (l.take (i + 1)).contains x = (if x = l[i] then true else (l.take i).contains x) := by
  rw [List.take_succ_eq_append_getElem hi]
  generalize l.take i = t
  generalize l[i] = z
  by_cases h : x = z <;> simp [h]
set_option maxHeartbeats 1000000 in
set_option maxRecDepth 100000 in
theorem CheckRing_ct {ys : List Value} {y : Yard} {rv : Value} {l : List Int} (hy : yardR S ys y) (hf : Fit y) (hv : Row S 1 (eqC iC) rv l) (hl : l.length ≤ 1000000) : Reads Tryz.prog 36 #[.agg ys.toArray, rv] [S] (.int .i64 (checkRingE y l)) := by
  obtain ⟨jv, pv, rfl, hj, hp⟩ := id hy
  obtain ⟨ap, cp, rfl, _⟩ := id hp
  obtain ⟨ar, cr, hrv, _⟩ := id hv
  have hfp := hf.2.1
  unfold checkRingE
  refine ct_of (n := 62) Tryz.func36 rfl rfl (len rfl) fun hr w0 => ?_
  refine cS (cR (st_bx rfl rfl fun b2 => ?_))
  refine sV (vA rfl) (sN (nK [1, 2, 4] rfl (nT (cS (cS (cR (sV (v_ldn rfl ld27 rfl rds_pt) ?_)))))))
  refine st_clr rfl rfl en67 rfl (opened_ct (l := []) hy hf Row.nil (by simp)) ?_
  refine sV (vA rfl) (sN (nK [1, 2, 4, 5] rfl (nT (cS (cR (sV (vM rfl) (sV (v_neq rfl rfl) (sN (nK [1, 2, 4, 5, 12] rfl (nT ?_))))))))))
  rw [openedE_nil]
  refine cC rfl (fun h1 => ?_) (fun h1 => ?_)
  · skip
    have h2 : ¬ y.right = true := fun h => by rw [if_pos h] at h1; cases h1
    refine cS (cR (sV (vM rfl) (sV (vA rfl) (sN (nK [1, 2, 4] rfl (nT (cT (xR ?_))))))))
    rw [if_neg h2, if_neg h2]
    exact xt_rt rfl ⟨rfl, rfl⟩
  · skip
    have h2 : y.right = true := by
      cases hr : y.right with
      | true => rfl
      | false => rw [hr] at h1; cases h1
    rw [if_pos h2]
    refine cK (xT (cS (cS (cR (sV (vM rfl) (sV (v_len (congrArg some hrv) Tryz.underlying43) (sV (v_lss rfl rfl) (sV (vM rfl) (st_cut (k := 11) (d := 24) (v := .bool (decide ((l.length : Int) < 2) || decide ((y.procs.length : Int) < l.length))) (fun hcut => bool_want (b := decide ((l.length : Int) < 2)) false (fun hg => ?_) (fun hg => ?_)) ?_)))))))))
    · refine st_sk rfl rfl hg ?_
      refine st_sk rfl rfl hg ?_
      refine st_sk rfl rfl hg ?_
      refine st_sk rfl rfl hg ?_
      refine st_sk rfl rfl hg ?_
      refine st_sk rfl rfl hg ?_
      refine sV (v_pick_true (bool_ev rfl hg) rfl) ?_
      exact hcut _ (ssub_head (by first | rfl | (rw [hg]; rfl) | simp_all) (uS rfl (uS rfl (uS rfl (uS rfl (uS rfl (uS rfl (ssub_refl))))))))
    · skip
      refine st_vg rfl (bG rfl hg) (vM rfl) (st_vg rfl (bG rfl hg) (v_len (congrArg some hrv) Tryz.underlying43) (st_vg rfl (bG rfl hg) (vF rfl fa27_1 rfl) (st_vg rfl (bG rfl hg) (v_ldy rfl ld25) ?_)))
      refine st_vg rfl (bG rfl hg) (v_len rfl Tryz.underlying25) (st_vg rfl (bG rfl hg) (v_gtr rfl rfl) (sV (vP (bool_ev rfl hg) rfl) ?_))
      exact hcut _ (ssub_head (by first | rfl | (rw [hg]; rfl) | simp_all) (uS rfl (uS rfl (uS rfl (uS rfl (uS rfl (uS rfl (ssub_refl))))))))
    refine sN (nK [1, 2, 4, 24] rfl (nT (cC rfl (fun h3 => ?_) (fun h3 => ?_))))
    · skip
      refine cS (cR (sV (vA rfl) (sN (nK [1, 2, 4] rfl (nT (cT (xR ?_)))))))
      rw [if_pos (by simp at h3; omega)]
      exact xt_rt rfl ⟨rfl, rfl⟩
    · skip
      have h3' : ¬ (l.length < 2 ∨ y.procs.length < l.length) := fun h => by simp at h3; omega
      rw [if_neg h3']
      refine cK (xT (cS (cR (st_makeMap (ltn rfl) fun b25 => ?_))))
      refine sV (vA rfl) (sN (nK [1, 2, 4, 6] rfl (nT (cS (cS (cR (sV (vM rfl) (sV (v_len (congrArg some hrv) Tryz.underlying43) (sV (vM rfl) (sN (nT (cd_block (cd_lp (σ := Nat × List (Int × Value)) (fun s => [(1, rv), (2, .pointer (some ⟨b2, 0, none⟩)), (6, .map (some b25)), (26, rv), (27, .int .i64 l.length), (28, .int .i64 (s.1 : Nat))]) (fun s => mpr b25 s.2 :: pt b2 (cl [jv, .slice ap y.procs.length cp] 27) :: S :: hr) (fun s => s.1 ≤ l.length ∧ (∀ x, (mlook s.2 x).getD (.bool false) = .bool ((l.take s.1).contains x)) ∧ ∀ (k : Nat) x, k < s.1 → l[k]? = some x → ringOk y l k x = true) (fun s => l.length - s.1) (0, []) ⟨Nat.zero_le _, fun x => by simp [mlook], fun k x hk => by omega⟩ ?_)))))))))))))
      rintro ⟨i, m⟩ ⟨hi, hm, hall⟩
      simp only at hi hm hall
      refine cS (cR (sV (v_lss rfl rfl) (sN (nT (cS (cC rfl (fun hd => ?_) (fun hd => ?_)))))))
      · skip
        have hlt : i < l.length := by simpa using hd
        obtain ⟨b, off, cp2, u, hv2, hrd, hX⟩ := hv.at1 (List.getElem?_eq_getElem hlt)
        cases hX
        have hnx : (i + 1) % l.length < l.length := Nat.mod_lt _ (by omega)
        obtain ⟨b', off', cp2', u', hv2', hrd', hX'⟩ := hv.at1 (List.getElem?_eq_getElem hnx)
        cases hX'
        have hgd : l.getD ((i + 1) % l.length) 0 = l[(i + 1) % l.length] := by rw [List.getD_eq_getElem?_getD, List.getElem?_eq_getElem hnx]; rfl
        have hmx := hm l[i]
        have hok : ringOk y l i l[i] = (within l[i] 0 ((y.procs.length : Int) - 1) && !(l.take i).contains l[i] && y.wf l[i].toNat == l[(i + 1) % l.length]) := by unfold ringOk; rw [hgd]
        generalize hxe : l[i] = x at *
        refine cK (xT (cS (cd_block (cS (cR (sV (vM rfl) (sV (v_indexAddr (k := i) (congrArg some hv2) rfl sl43 rfl hlt rfl) (sV (v_ldy rfl ld3) ?_))))))))
        refine sV (vA rfl) (sV (vA rfl) (sN (nK [1, 2, 6, 7, 8, 26, 27, 28] rfl (nT (cS (cS (cd_drawh (ork [(0, 2), (1, 2), (2, 1), (3, 2), (4, 2), (5, 1), (6, 2), (7, 2), (8, 2), (9, 2), (10, 1), (11, 2), (12, 2), (13, 1), (14, 2), (15, 1), (16, 2), (17, 2), (18, 2), (19, 2), (20, 2), (21, 2), (22, 2), (23, 1), (24, 2), (25, 2)] .nil) (fun _ => true) mixed (by kernel_rfl) ?_)))))))
        refine dV rfl (vM rfl) (dV rfl (vF rfl fa27_1 rfl) (dr_v rfl (v_ldy rfl ld25) ?_))
        refine dV rfl (v_len rfl Tryz.underlying25) (dV rfl (v_sub rfl rfl (by unfold I64 at *; omega)) (dr_clr rfl rfl rfl en80 rfl (within_ct x 0 ((y.procs.length : Int) - 1)) ?_))
        refine dV rfl (v_not rfl) (dV rfl (vM rfl) (dr_cut (k := 4) (d := 44) (v := .bool (!within x 0 ((y.procs.length : Int) - 1) || (l.take i).contains x)) (fun hcut => bool_want (b := (!within x 0 ((y.procs.length : Int) - 1))) false (fun hg => ?_) (fun hg => ?_)) ?_))
        · refine dp_sk rfl rfl rfl hg ?_
          refine dp_sk rfl rfl rfl hg ?_
          refine dr_sk rfl rfl rfl hg ?_
          refine dV rfl (v_pick_true (bool_ev rfl hg) rfl) ?_
          exact hcut _ (ssub_head (by first | rfl | (rw [hg]; rfl) | simp_all) (uS rfl (uS rfl (uS rfl (ssub_refl)))))
        · skip
          refine dp_vg rfl rfl (bG rfl hg) (vM rfl) (dp_vg rfl rfl (bG rfl hg) (vM rfl) (dr_vg rfl rfl (bG rfl hg) (v_lookup rfl rfl mp145 inf4 (by repeat (first | exact Sel.here | apply Sel.there))) ?_))
          rw [hmx]
          refine dV rfl (vP (bool_ev rfl hg) rfl) ?_
          exact hcut _ (ssub_head (by first | rfl | (rw [hg]; rfl) | simp_all) (uS rfl (uS rfl (uS rfl (ssub_refl)))))
        refine dV rfl (vM rfl) (dr_cut (k := 13) (d := 58) (v := .bool ((!within x 0 ((y.procs.length : Int) - 1) || (l.take i).contains x) || (y.wf x.toNat != l[(i + 1) % l.length]))) (fun hcut => bool_want (b := (!within x 0 ((y.procs.length : Int) - 1) || (l.take i).contains x)) false (fun hg => ?_) (fun hg => ?_)) ?_)
        · refine dr_sk rfl rfl rfl hg ?_
          refine dp_sk rfl rfl rfl hg ?_
          refine dr_sk rfl rfl rfl hg ?_
          refine dp_sk rfl rfl rfl hg ?_
          refine dp_sk rfl rfl rfl hg ?_
          refine dp_sk rfl rfl rfl hg ?_
          refine dp_sk rfl rfl rfl hg ?_
          refine dp_sk rfl rfl rfl hg ?_
          refine dp_sk rfl rfl rfl hg ?_
          refine dp_sk rfl rfl rfl hg ?_
          refine dr_sk rfl rfl rfl hg ?_
          refine dp_sk rfl rfl rfl hg ?_
          refine dV rfl (v_pick_true (bool_ev rfl hg) rfl) ?_
          exact hcut _ (ssub_head (by first | rfl | (rw [hg]; rfl) | simp_all) (uS rfl (uS rfl (uS rfl (uS rfl (uS rfl (uS rfl (uS rfl (uS rfl (uS rfl (uS rfl (uS rfl (uS rfl (ssub_refl))))))))))))))
        · skip
          have hw1 : within x 0 ((y.procs.length : Int) - 1) = true := by
            cases hw : within x 0 ((y.procs.length : Int) - 1) with
            | true => rfl
            | false => rw [hw] at hg; cases hg
          have hx0 : 0 ≤ x ∧ x.toNat < y.procs.length := by unfold within at hw1; simp at hw1; omega
          have hwx : Reads Tryz.prog 81 #[.agg #[jv, .slice ap y.procs.length cp], .int .i64 x] [S] (.int .i64 (y.wf x.toNat)) := by
            have := waits_ct (jv := jv) hp hx0.2
            rw [Int.toNat_of_nonneg hx0.1] at this
            unfold Yard.wf; rw [pr_get hx0.2]; exact this
          refine dr_vg rfl rfl (bG rfl hg) (v_ldn rfl ld27 rfl rds_pt) ?_
          refine dp_vg rfl rfl (bG rfl hg) (vM rfl) (dr_clrg rfl rfl (bG rfl hg) rfl rfl en81 rfl (hwx) ?_)
          refine dp_vg rfl rfl (bG rfl hg) (vM rfl) (dp_vg rfl rfl (bG rfl hg) (vM rfl) (dp_vg rfl rfl (bG rfl hg) (v_add rfl rfl (by unfold I64 at *; omega)) (dp_vg rfl rfl (bG rfl hg) (vM rfl) (dp_vg rfl rfl (bG rfl hg) (v_len (congrArg some hrv) Tryz.underlying43) (dp_vg rfl rfl (bG rfl hg) (v_remp rfl rfl (by omega) (by omega) (by unfold I64; omega)) ?_)))))
          refine dp_vg rfl rfl (bG rfl hg) (v_indexAddr (k := (i + 1) % l.length) (congrArg some hv2') rfl sl43 (by simp [Int.natCast_emod]) hnx rfl) ?_
          refine dr_vg rfl rfl (bG rfl hg) (v_ldy rfl ld3) ?_
          refine dp_vg rfl rfl (bG rfl hg) (v_neq rfl rfl) (dV rfl (vP (bool_ev rfl hg) rfl) ?_)
          exact hcut _ (ssub_head (by first | rfl | (rw [hg]; rfl) | simp_all) (uS rfl (uS rfl (uS rfl (uS rfl (uS rfl (uS rfl (uS rfl (uS rfl (uS rfl (uS rfl (uS rfl (uS rfl (ssub_refl))))))))))))))
        refine dr_nil (nK [1, 2, 6, 8, 26, 27, 28, 58] rfl (nT (cC rfl (fun h4 => ?_) (fun h4 => ?_))))
        · skip
          refine cS (cR (sV (vA rfl) (sN (nK [1, 2, 4, 6, 8, 26, 27, 28] rfl (nT (cT (xR (xt_ret_block (xR (xR (xt_ret_block (xR ?_))))))))))))
          have hbad : ((List.range l.length).all fun i => ringOk y l i (l.getD i 0)) = false := by
            rw [List.all_eq_false]
            refine ⟨i, by simpa using hlt, ?_⟩
            rw [List.getD_eq_getElem?_getD, List.getElem?_eq_getElem hlt, Option.getD_some, hxe, hok]
            intro h
            simp only [Bool.and_eq_true, Bool.not_eq_true', beq_iff_eq] at h
            rw [h.1.1, h.1.2, h.2] at h4
            simp at h4
          rw [if_neg (by rw [hbad]; simp)]
          exact xt_rt rfl ⟨rfl, rfl⟩
        · skip
          refine cK (xT (cR (sV (vM rfl) (sV (vM rfl) (st_mapUpdate rfl rfl rfl mp145 (by repeat (first | exact Sel.here | apply Sel.there)) ?_)))))
          refine sN (nK [1, 2, 6, 26, 27, 28] rfl (nx_xt (xB (xT (cR (sV (v_add rfl rfl (by unfold I64 at *; omega)) (sV (vM rfl) (sN (nK [1, 2, 6, 26, 27, 28] rfl (nx_xt (xt_ag (i + 1, mupd m x (.bool true)) ⟨hlt, fun z => ?_, fun k z hk hz => ?_⟩ (by show _ - _ < _ - _; omega))))))))))))
          · show (mlook (mupd m x (.bool true)) z).getD (.bool false) = .bool ((l.take (i + 1)).contains z)
            rw [mlook_upd, take_snoc_contains hlt, hxe]
            by_cases hz : z = x
            · simp [hz]
            · simp only [hz, if_false]; exact hm z
          · by_cases hki : k = i
            · subst hki
              rw [List.getElem?_eq_getElem hlt, hxe] at hz
              cases hz
              rw [hok]
              simp only [Bool.or_eq_false_iff, Bool.not_eq_false', bne_eq_false_iff_eq] at h4
              rw [h4.1.1, h4.1.2, h4.2]; simp
            · exact hall k z (by show k < i; have : k < i + 1 := hk; omega) hz
      · skip
        refine cd_exit (xE (xE (xt_exit_block (xT (cS (cR (sV (vA rfl) (sN (nK [4] rfl (nT (cT ?_)))))))))))
        have hin : i = l.length := by have : ¬ i < l.length := by simpa using hd
                                      omega
        rw [if_pos (List.all_eq_true.2 fun k hk => by
          have hkl : k < l.length := by simpa using hk
          rw [List.getD_eq_getElem?_getD, List.getElem?_eq_getElem hkl]
          exact hall k _ (by rw [hin]; exact hkl) (List.getElem?_eq_getElem hkl))]
        exact xt_rt rfl ⟨rfl, rfl⟩
end
end Go.Wt
namespace Go.Wt
def orb (w : Nat → Int) (i : Nat) : Nat → Int
  | 0 => i
  | k + 1 => if 0 ≤ orb w i k then w (orb w i k).toNat else -1
section
variable {w : Nat → Int} {n i : Nat}
theorem orb_succ {k : Nat} (h : 0 ≤ orb w i k) : orb w i (k + 1) = w (orb w i k).toNat := by
  show (if 0 ≤ orb w i k then w (orb w i k).toNat else -1) = _
  rw [if_pos h]
theorem map_orb_succ (k : Nat) : (List.range k).map (orb w i) ++ [orb w i k] = (List.range (k + 1)).map (orb w i) := by rw [List.range_succ, List.map_append]; rfl
theorem ringAt_some : ∀ {f m : Nat} {r : List Int}, 1 ≤ m → ringAt w n i f ((List.range m).map (orb w i)) (orb w i m) = some r →
    ∃ k, m ≤ k ∧ k ≤ n ∧ 2 ≤ k ∧ orb w i k = i ∧ (∀ j, m ≤ j → j < k → orb w i j ≠ i ∧ 0 ≤ orb w i j) ∧ r = (List.range k).map (orb w i)
  | 0, _, _, _, h => by simp [ringAt] at h
  | f + 1, m, r, hm, h => by
    unfold ringAt at h
    simp only [List.length_map, List.length_range] at h
    split at h
    · rename_i hc
      split at h
      · rename_i hx
        split at h
        · rename_i h1
          exact ⟨m, Nat.le_refl _, hc.2, h1, hx, fun j h1 h2 => by omega, (Option.some.inj h).symm⟩
        · cases h
      · rename_i hx
        rw [map_orb_succ, ← orb_succ hc.1] at h
        obtain ⟨k, h1, h2, h3, h4, h5, h6⟩ := ringAt_some (by omega) h
        refine ⟨k, by omega, h2, h3, h4, fun j hj1 hj2 => ?_, h6⟩
        by_cases e : j = m
        · subst e; exact ⟨hx, hc.1⟩
        · exact h5 j (by omega) hj2
    · cases h
theorem ringAt_of : ∀ {f m k : Nat}, 1 ≤ m → n + 1 ≤ f + m → m ≤ k → k ≤ n → 2 ≤ k → orb w i k = i → (∀ j, m ≤ j → j < k → orb w i j ≠ i ∧ 0 ≤ orb w i j) → ringAt w n i f ((List.range m).map (orb w i)) (orb w i m) = some ((List.range k).map (orb w i))
  | 0, m, k, h1, h2, h3, h4, _, _, _ => by omega
  | f + 1, m, k, h1, h2, h3, h4, h5, h6, h7 => by
    unfold ringAt
    simp only [List.length_map, List.length_range]
    by_cases e : m = k
    · subst e
      rw [if_pos ⟨by omega, h4⟩, if_pos h6, if_pos (by omega)]
    · have hj := h7 m (Nat.le_refl _) (by omega)
      rw [if_pos ⟨hj.2, by omega⟩, if_neg hj.1, map_orb_succ, ← orb_succ hj.2]
      exact ringAt_of (by omega) (by omega) (by omega) h4 h5 h6 fun j a b => h7 j (by omega) b
def Back (w : Nat → Int) (n i k : Nat) : Prop := 2 ≤ k ∧ k ≤ n ∧ orb w i k = i ∧ ∀ j, 1 ≤ j → j < k → orb w i j ≠ i ∧ 0 ≤ orb w i j
theorem orb_one : orb w i 1 = w i := by
  rw [orb_succ (by show (0 : Int) ≤ i; omega)]; rfl
theorem ring_some {r : List Int} (h : ringAt w n i (n + 1) [(i : Int)] (w i) = some r) : ∃ k, Back w n i k ∧ r = (List.range k).map (orb w i) := by
  have h' : ringAt w n i (n + 1) ((List.range 1).map (orb w i)) (orb w i 1) = some r := by rw [orb_one]; exact h
  obtain ⟨k, _, h2, h3, h4, h5, h6⟩ := ringAt_some (Nat.le_refl _) h'
  exact ⟨k, ⟨h3, h2, h4, h5⟩, h6⟩
theorem ring_of {k : Nat} (h : Back w n i k) : ringAt w n i (n + 1) [(i : Int)] (w i) = some ((List.range k).map (orb w i)) := by
  have := ringAt_of (w := w) (n := n) (i := i) (f := n + 1) (m := 1) (k := k) (Nat.le_refl _) (by omega) (by have := h.1; omega) h.2.1 h.1 h.2.2.1 h.2.2.2
  rw [orb_one] at this
  exact this
theorem ring_iff_none : ringAt w n i (n + 1) [(i : Int)] (w i) = none ↔ ∀ k, ¬ Back w n i k := by
  refine ⟨fun h k hk => ?_, fun h => ?_⟩
  · rw [ring_of hk] at h; cases h
  · cases hr : ringAt w n i (n + 1) [(i : Int)] (w i) with
    | none => rfl
    | some r => obtain ⟨k, hk, _⟩ := ring_some hr; exact absurd hk (h k)
/-! ## Orbits -/
theorem orb_add {a : Nat} (h : 0 ≤ orb w i a) : ∀ (k : Nat), orb w i (a + k) = orb w (orb w i a).toNat k
  | 0 => by show orb w i a = (((orb w i a).toNat : Nat) : Int); omega
  | k + 1 => by
    show (if 0 ≤ orb w i (a + k) then w (orb w i (a + k)).toNat else -1) = (if 0 ≤ orb w (orb w i a).toNat k then w (orb w (orb w i a).toNat k).toNat else -1)
    rw [orb_add h k]
theorem nodup_lt : ∀ (n : Nat) {l : List Nat}, l.Nodup → (∀ x ∈ l, x < n) → l.length ≤ n
  | 0, l, _, h => by
    cases l with
    | nil => simp
    | cons a t => have := h a (by simp); omega
  | n + 1, l, hd, h => by
    by_cases hn : n ∈ l
    · have h1 := nodup_lt n (l := l.erase n) (hd.erase n) fun x hx => by
        have h2 := (hd.mem_erase_iff).1 hx
        have := h x h2.2
        have := h2.1
        omega
      rw [List.length_erase_of_mem hn] at h1
      omega
    · have := nodup_lt n (l := l) hd fun x hx => by
        have := h x hx
        have : x ≠ n := fun e => hn (e ▸ hx)
        omega
      omega
theorem pigeon {n : Nat} {g : Nat → Nat} (h : ∀ k, k ≤ n → g k < n) : ∃ a b, a < b ∧ b ≤ n ∧ g a = g b := by
  by_cases hd : ((List.range (n + 1)).map g).Nodup
  · have := nodup_lt n hd fun x hx => by
      obtain ⟨k, hk, rfl⟩ := List.mem_map.1 hx
      exact h k (by have := List.mem_range.1 hk; omega)
    simp at this; omega
  · unfold List.Nodup at hd
    rw [List.pairwise_iff_getElem] at hd
    refine Classical.byContradiction fun hno => hd fun a b ha hb hab he => hno ?_
    simp only [List.length_map, List.length_range] at ha hb
    exact ⟨a, b, hab, by omega, by simpa using he⟩
theorem back_of {k : Nat} (hw : ∀ i, i < n → w i < n) (hi : i < n) (hs : w i ≠ i) (hk : 1 ≤ k) (h0 : orb w i k = i) (hp : ∀ j, j < k → 0 ≤ orb w i j) : ∃ k, Back w n i k := by
  have hex : ∃ m, ∃ k, k ≤ m ∧ 1 ≤ k ∧ orb w i k = i ∧ ∀ j, j < k → 0 ≤ orb w i j := ⟨k, k, Nat.le_refl _, hk, h0, hp⟩
  obtain ⟨k, hk, h0, hp, hmin⟩ : ∃ k, 1 ≤ k ∧ orb w i k = i ∧ (∀ j, j < k → 0 ≤ orb w i j) ∧ ∀ j, 1 ≤ j → j < k → orb w i j ≠ i := by
    have key : ∀ m, (∃ k, k ≤ m ∧ 1 ≤ k ∧ orb w i k = i ∧ ∀ j, j < k → 0 ≤ orb w i j) → ∃ k, 1 ≤ k ∧ orb w i k = i ∧ (∀ j, j < k → 0 ≤ orb w i j) ∧ ∀ j, 1 ≤ j → j < k → orb w i j ≠ i := by
      intro m
      induction m with
      | zero => rintro ⟨k, h1, h2, _⟩; omega
      | succ m ih =>
        rintro ⟨k, h1, h2, h3, h4⟩
        by_cases hm : ∃ j, 1 ≤ j ∧ j < k ∧ orb w i j = i
        · obtain ⟨j, a, b, c⟩ := hm
          exact ih ⟨j, by omega, a, c, fun j' hj' => h4 j' (by omega)⟩
        · exact ⟨k, h2, h3, h4, fun j a b c => hm ⟨j, a, b, c⟩⟩
    obtain ⟨m, hm⟩ := hex
    exact key m hm
  have hlt : ∀ j, j < k → (orb w i j).toNat < n := by
    intro j
    induction j with
    | zero => intro _; show ((i : Int)).toNat < n; omega
    | succ j ih =>
      intro hj
      have h1 := ih (by omega)
      have h2 := hp j (by omega)
      have h3 := hp (j + 1) hj
      rw [orb_succ h2] at h3 ⊢
      have := hw _ h1
      omega
  have hkn : k ≤ n := by
    rcases Nat.lt_or_ge n k with hc | hc
    · exfalso
      obtain ⟨a, b, hab, hb, he⟩ := pigeon (n := n) (g := fun j => (orb w i j).toNat) fun j hj => hlt j (by omega)
      have ea := hp a (by omega)
      have eb := hp b (by omega)
      have hs1 := orb_add ea (k - b)
      have hs2 := orb_add eb (k - b)
      rw [he] at hs1
      have e1 : b + (k - b) = k := by omega
      rw [e1, h0] at hs2
      rw [← hs2] at hs1
      exact hmin (a + (k - b)) (by omega) (by omega) hs1
    · exact hc
  have h2 : 2 ≤ k := by
    rcases Nat.lt_or_ge k 2 with hc | hc
    · exfalso
      have : k = 1 := by omega
      subst this
      rw [orb_one] at h0
      exact hs h0
    · exact hc
  exact ⟨k, h2, hkn, h0, fun j a b => ⟨hmin j a b, hp j b⟩⟩
end
/-! ## The ring that is found -/
section
variable {y : Yard}
theorem findSome_first {α β : Type} {f : α → Option β} {r : β} : ∀ {l : List α}, l.findSome? f = some r → ∃ a ∈ l, f a = some r
  | [], h => by simp at h
  | a :: l, h => by
    rw [List.findSome?_cons] at h
    cases hf : f a with
    | some b => rw [hf] at h; cases h; exact ⟨a, by simp, hf⟩
    | none =>
      rw [hf] at h
      obtain ⟨x, hx, hxr⟩ := findSome_first h
      exact ⟨x, by simp [hx], hxr⟩
theorem ringE_cases (y : Yard) : (ringE y = [] ∧ ∀ i, i < y.procs.length → ∀ k, ¬ Back y.wf y.procs.length i k) ∨ ∃ i k, i < y.procs.length ∧ Back y.wf y.procs.length i k ∧ ringE y = (List.range k).map (orb y.wf i) := by
  unfold ringE
  cases h : (List.range y.procs.length).findSome? fun i => ringAt y.wf y.procs.length i (y.procs.length + 1) [(i : Int)] (y.wf i) with
  | none =>
    left
    refine ⟨rfl, fun i hi => ?_⟩
    rw [List.findSome?_eq_none_iff] at h
    exact ring_iff_none.1 (h i (List.mem_range.2 hi))
  | some r =>
    right
    obtain ⟨i, hi, hr⟩ := findSome_first h
    obtain ⟨k, hk, rfl⟩ := ring_some hr
    exact ⟨i, k, List.mem_range.1 hi, hk, rfl⟩
structure IsRing (w : Nat → Int) (n : Nat) (l : List Int) : Prop where
  len : 2 ≤ l.length ∧ l.length ≤ n
  lt : ∀ (i : Nat) x, l[i]? = some x → 0 ≤ x ∧ x < n
  next : ∀ (i : Nat) x, l[i]? = some x → l[(i + 1) % l.length]? = some (w x.toNat)
  nd : l.Nodup
end
end Go.Wt
namespace Go.Wt
section
variable {h : HYard}
/-! ## For whom one waits -/
theorem wf_now (i : Nat) : h.now.wf i = (h.pr i).now.waitsFor := by unfold Yard.wf; rw [HYard.now_pr]
theorem waitsFor_of {p : Proc} (h : p.waits < 0) : p.waitsFor = if p.state = 4 then (p.lines.headD Line.none).key.1 else -1 := by unfold Proc.waitsFor; rw [if_neg (by omega)]
theorem blocked {p : HProc} (h4 : p.now.state = 4) : p.job < 0 ∧ p.gone < p.hl.length ∧ p.head.all.drop p.head.tk = [] ∧ p.head.closed = false := by
  unfold Proc.state at h4
  have e1 : p.now.job = p.job := rfl
  have e2 : p.now.waits = p.waits := rfl
  rw [e1, e2] at h4
  by_cases h1 : 0 ≤ p.job ∧ 0 ≤ p.waits
  · rw [if_pos h1] at h4; cases h4
  · rw [if_neg h1] at h4
    by_cases h2 : 0 ≤ p.job
    · rw [if_pos h2] at h4; cases h4
    · rw [if_neg h2] at h4
      rcases Nat.lt_or_ge p.gone p.hl.length with h3 | h3
      · rw [now_lines.1 h3] at h4
        simp only at h4
        have e3 : p.head.now.asks = p.head.all.drop p.head.tk := rfl
        have e4 : p.head.now.closed = p.head.closed := rfl
        rw [e3, e4] at h4
        split at h4
        · cases h4
        · rename_i hc
          rw [not_or] at hc
          refine ⟨by omega, h3, ?_, by simpa using hc.2⟩
          exact Classical.not_not.1 hc.1
      · rw [now_lines.2 h3] at h4; cases h4
theorem wf_blocked {p : HProc} (hw : p.waits < 0) (h4 : p.now.state = 4) : p.now.waitsFor = p.head.key.1 := by
  rw [waitsFor_of (by exact hw), if_pos h4, now_lines.1 (blocked h4).2.1]; rfl
/-! ## Nobody can go on -/
end
end Go.Wt
namespace Go.Wt
section
variable {h : HYard}
theorem busy_state {p : HProc} (hj : 0 ≤ p.job) (hw : p.waits < 0) : p.now.state = 1 := by
  unfold Proc.state
  have e1 : p.now.job = p.job := rfl
  have e2 : p.now.waits = p.waits := rfl
  rw [e1, e2, if_neg (by omega), if_pos hj]
theorem Nr.wf (N : Nr h) (H : HInv h) {i : Nat} (hi : i < h.procs.length) (hw : 0 ≤ h.now.wf i) : (h.now.wf i).toNat < h.procs.length ∧ ((i : Int) < h.now.wf i ∨ h.now.wf (h.now.wf i).toNat = -1) := by
  have ok := H.ok i hi
  have Ni := (nr_iff.1 N).2 i hi
  rw [wf_now] at hw ⊢
  by_cases hws : 0 ≤ (h.pr i).waits
  · have e : (h.pr i).now.waitsFor = (h.pr i).waits := by
      unfold Proc.waitsFor
      have e2 : (h.pr i).now.waits = (h.pr i).waits := rfl
      rw [e2, if_pos hws]
    rw [e]
    rcases ok.waits with w | ⟨w1, w2, w3, w4⟩
    · omega
    · refine ⟨by omega, .inl ?_⟩
      obtain ⟨k, hk⟩ := Ni.wait hws
      obtain ⟨o, _, hH⟩ := Ni.at_ w4
      cases o with
      | none => have hH : (h.pr i).holds = [] := hH; rw [hH] at hk; cases hk
      | some s =>
        obtain ⟨h1, k', h2⟩ := hH
        rw [h2] at hk
        simp only [List.cons.injEq, Prod.mk.injEq, and_true] at hk
        omega
  · have hws : (h.pr i).waits < 0 := by omega
    have h4 : (h.pr i).now.state = 4 := by
      rw [waitsFor_of hws] at hw
      split at hw
      · assumption
      · omega
    rw [wf_blocked hws h4] at hw ⊢
    have hb := blocked h4
    have hgh := get_head hb.2.1
    have okl := ok.line _ _ hgh
    have hs : (h.pr i).head.key.1.toNat < h.procs.length := by have := okl.key; omega
    refine ⟨hs, .inr ?_⟩
    have hop := H.opened i hi _ (List.mem_of_getElem? hgh) hb.2.2.2
    have hsi : (((h.pr i).head.key.1.toNat : Nat) : Int) = (h.pr i).head.key.1 := Int.toNat_of_nonneg okl.key.1
    generalize hsd : (h.pr i).head.key.1.toNat = s at hs hop hsi
    have oks := H.ok s hs
    have Ns := (nr_iff.1 N).2 s hs
    have hjs : 0 ≤ (h.pr s).job := by
      rcases Int.lt_or_le (h.pr s).job 0 with hj | hj
      · rw [(oks.idle hj).2.2.1] at hop; simp at hop
      · exact hj
    rw [wf_now]
    rcases oks.waits with w | ⟨w1, w2, w3, w4⟩
    · have hst := busy_state hjs (by omega)
      rw [waitsFor_of (by show (h.pr s).waits < 0; omega), hst]; rfl
    · exfalso
      obtain ⟨k, hk⟩ := Ns.wait w1
      rw [hk] at hop
      have hop := List.mem_singleton.1 hop
      simp only [Prod.mk.injEq, and_true] at hop
      obtain ⟨hwi, hkk⟩ := hop
      have haw := H.aw s i hs hi
      rw [← hwi, if_pos rfl] at haw
      have hwt : (h.pr i).waited = false := (ok.idle hb.1).2.2.2.2
      unfold HProc.aw at haw
      rw [if_neg (fun hh => by rw [hwt] at hh; cases hh.1)] at haw
      obtain ⟨l, hl, hl0⟩ : ∃ l ∈ (h.pr i).hl.drop (h.pr i).gone, 0 < HLine.aw s l := by
        refine Classical.byContradiction fun hno => ?_
        have : (((h.pr i).hl.drop (h.pr i).gone).map (HLine.aw s)).sum = 0 := by
          have key : ∀ (L : List HLine), (∀ l ∈ L, HLine.aw s l = 0) → (L.map (HLine.aw s)).sum = 0 := by
            intro L
            induction L with
            | nil => intro _; rfl
            | cons x L ih => intro hL; simp [hL x (by simp), ih fun l hl => hL l (by simp [hl])]
          refine key _ fun l hl => ?_
          rcases Nat.eq_zero_or_pos (HLine.aw s l) with h0 | h0
          · exact h0
          · exact absurd ⟨l, hl, h0⟩ hno
        omega
      unfold HLine.aw at hl0
      split at hl0
      · rename_i hkl
        obtain ⟨a, ha, hat⟩ := List.countP_pos_iff.1 hl0
        obtain ⟨j0, hj0⟩ := List.getElem?_of_mem hl
        rw [List.getElem?_drop] at hj0
        have hlo := Ni.ao _ l (Nat.le_add_right _ _) hj0 (.inl ⟨a, ha, hat⟩)
        have hop2 := H.opened i hi l (List.mem_of_mem_drop hl) hlo
        have : l.key.1.toNat = s := by omega
        rw [this, hk] at hop2
        have hop2 := List.mem_singleton.1 hop2
        simp only [Prod.mk.injEq, and_true] at hop2
        have hke : l.key = (h.pr i).head.key := by rw [hop2.2, hkk]
        have hix := key_at ok.nd hj0 hgh hke
        rw [hix, hgh] at hj0
        have hll : (h.pr i).head = l := Option.some.inj hj0
        rw [← hll, hb.2.2.1] at ha
        simp at ha
      · omega
theorem Nr.did (N : Nr h) {t : Nat} (ht : t < h.procs.length) : ∀ d ∈ (h.pr t).now.did, d.2.2.1 = false ∧ d.2.2.2 = false := fun d hd => by
  obtain ⟨l, hl, hd⟩ := List.mem_flatMap.1 (show d ∈ (h.pr t).hl.flatMap HLine.dids from hd)
  unfold HLine.dids at hd
  obtain ⟨⟨a, r⟩, hx, rfl⟩ := List.mem_map.1 hd
  have := (N.res t ht l hl).2 r (List.of_mem_zip hx).2
  simp only [this]
  exact ⟨trivial, trivial⟩
end
/-! ## Such jobs -/
abbrev Item := Nat × Nat × Nat
def partE (n L i : Nat) (x : Item) : List Move :=
  if (x.2.1 % L) % n ≤ i % n then []
  else match x.1 % 4 with
    | 0 => [(1, ((x.2.1 % L) % n : Nat), 0), (3, ((x.2.1 % L) % n : Nat), (x.2.1 % L : Nat)), (2, 0, 0)]
    | 1 => [(1, ((x.2.1 % L) % n : Nat), 0), (3, ((x.2.1 % L) % n : Nat), (x.2.1 % L : Nat)), (4, ((x.2.1 % L) % n : Nat), (x.2.1 % L : Nat)), (2, 0, 0)]
    | 2 => [(1, ((x.2.1 % L) % n : Nat), 0), (4, ((x.2.1 % L) % n : Nat), (x.2.1 % L : Nat)), (3, ((x.2.1 % L) % n : Nat), (x.2.1 % L : Nat)), (2, 0, 0)]
    | _ => [(5, ((x.2.1 % L) % n : Nat), (x.2.1 % L : Nat))]
def jobE (n L i : Nat) (l : List Item) : List Move := l.flatMap (partE n L i)
def apartE (n : Nat) (l : List (List Item)) : List (List Move) := l.mapIdx fun i x => jobE n l.length i x
end Go.Wt
namespace Go.Wt
open Go Go.Ck Go.Proofs Go.Proofs.YtboepbencndobaaGreat Fx
attribute [local irreducible] St Cd Xt Nx DrL LsW
/-! ## Rows of rows -/
section
variable {α : Type} {E2 : TypeId} {sz : Nat} {C : α → List Value}
def nrows (E2 : TypeId) (sz : Nat) (C : α → List Value) (hs : List Value) (ls : List (List α)) : List Res := List.zipWith (fun h l => VR h E2 sz (l.map C)) hs ls
def NO (E : TypeId) (E2 : TypeId) (sz : Nat) (C : α → List Value) (v : Value) (hs : List Value) (ls : List (List α)) : SH := [VR v E 1 (hs.map fun h => [h]), Res.star (nrows E2 sz C hs ls), pureR (hs.length = ls.length)]
def nR (S : Res) (sz : Nat) (C : α → List Value) (us : List Value) (l : List α) : Prop := ∃ v, us = [v] ∧ Row S sz (eqC C) v l
theorem NO_row {E : TypeId} {v : Value} {hs : List Value} {ls : List (List α)} {S : Res} (hok : ∃ g, HoldsF g (NO E E2 sz C v hs ls)) (hr : ∀ r ∈ NO E E2 sz C v hs ls, ∀ a u, Rd r a u → Rd S a u) : Row S 1 (nR S sz C) v ls := by
  obtain ⟨g, hg⟩ := hok
  have hlen : hs.length = ls.length := HoldsF.get hg (r := pureR (hs.length = ls.length)) (by simp [NO])
  have h2 : HoldsF g (nrows E2 sz C hs ls) := HoldsF.get hg (r := Res.star (nrows E2 sz C hs ls)) (by simp [NO])
  refine row_vr (E := E) (rows := hs.map fun h => [h]) ⟨g, HoldsF.get hg (by simp [NO])⟩ (by simp [hlen]) (hr _ (by simp [NO])) fun i us l h3 h4 => ?_
  have hli : i < ls.length := (List.getElem?_eq_some_iff.1 h4).1
  have hai : hs[i]? = some hs[i] := List.getElem?_eq_getElem (by omega)
  have h5 : us = [hs[i]] := by simp [List.getElem?_map, hai] at h3; exact h3.symm
  have hmem : VR hs[i] E2 sz (l.map C) ∈ nrows E2 sz C hs ls := List.mem_of_getElem? (i := i) (by simp [nrows, List.getElem?_zipWith, hai, h4])
  refine ⟨hs[i], h5, row_vr (E := E2) (rows := l.map C) ⟨g, HoldsF.get h2 hmem⟩ (by simp) (fun a u hu => hr (Res.star (nrows E2 sz C hs ls)) (by simp [NO]) a u (rd_mem hmem a u hu)) fun j us x g1 g2 => ?_⟩
  simp [List.getElem?_map, g2] at g1; exact g1.symm
theorem NO_star {E : TypeId} {v : Value} {hs : List Value} {ls : List (List α)} (hok : ∃ g, (Res.star (NO E E2 sz C v hs ls)).ok g) : Row (Res.star (NO E E2 sz C v hs ls)) 1 (nR (Res.star (NO E E2 sz C v hs ls)) sz C) v ls := NO_row hok fun _ hr a u hu => rd_mem hr a u hu
theorem nrows_snoc {hs : List Value} {ls : List (List α)} {x : Value} {l : List α} (h : hs.length = ls.length) : nrows E2 sz C (hs ++ [x]) (ls ++ [l]) = nrows E2 sz C hs ls ++ [VR x E2 sz (l.map C)] := by unfold nrows; rw [List.zipWith_append h]; rfl
end
theorem kC_one (l : List Key) : ∀ us x, x ∈ l → eqC kC us x → ∀ u ∈ us, u.oneCell' = true := fun us x _ h u hu => by cases h; simp [kC] at hu; rcases hu with rfl | rfl <;> rfl
def ordersE (y : Yard) : List (List Key) × Int := if y.right = true then (y.procs.map (·.puts), 0) else ([], 2)
section
variable {S : Res}
set_option maxRecDepth 100000 in
theorem Orders_ct {ys : List Value} {y : Yard} (hy : yardR S ys y) (hf : Fit y) : CtN Tryz.prog 38 #[.agg ys.toArray] [S] fun u T => ∃ v, u = .tuple #[v, .int .i64 (ordersE y).2] ∧ Row T 1 (nR T 2 kC) v (ordersE y).1 := by
  obtain ⟨jv, pv, rfl, hj, hp⟩ := id hy
  obtain ⟨ap, cp, hpv, _⟩ := id hp
  have hfp := hf.2.1
  unfold ordersE
  subst hpv
  refine ct_of (n := 28) Tryz.func38 rfl rfl (len rfl) fun hr w0 => ?_
  refine cS (cR (st_bx rfl rfl fun b1 => ?_))
  refine sV (vA rfl) (sV (vA rfl) (sN (nK [1, 2, 3] rfl (nT (cS (cS (cR (sV (v_ldn rfl ld27 rfl rds_pt) ?_))))))))
  refine st_clr rfl rfl en67 rfl (opened_ct (l := []) hy hf Row.nil (by simp)) ?_
  refine sV (vA rfl) (sN (nK [1, 2, 3, 4] rfl (nT (cS (cR (sV (vM rfl) (sV (v_neq rfl rfl) (sN (nK [1, 2, 3, 4, 11] rfl (nT ?_))))))))))
  rw [openedE_nil]
  refine cC rfl (fun h1 => ?_) (fun h1 => ?_)
  · skip
    have h2 : ¬ y.right = true := fun h => by rw [if_pos h] at h1; cases h1
    refine cS (cR (sV (vM rfl) (sV (vA rfl) (sV (vA rfl) (sN (nK [1, 2, 3] rfl (nT (cT (xR ?_)))))))))
    rw [if_neg h2, if_neg h2]
    refine xt_vw (vw_pure (φ := True) trivial) ?_
    exact xt_rt rfl ⟨pureR True, rfl, .slice none 0 0, rfl, Row.nil⟩
  · skip
    have h2 : y.right = true := by
      cases hr : y.right with
      | true => rfl
      | false => rw [hr] at h1; cases h1
    rw [if_pos h2, if_pos h2]
    refine cK (xT (cS (cR (sV (vA rfl) (sN (nK [1, 2, 3, 5] rfl (nT (cS (cS (cR (sV (vF rfl fa27_1 rfl) (sV (v_ldy rfl ld25) ?_))))))))))))
    refine sV (v_len rfl Tryz.underlying25) (sV (vM rfl) (sN (nK [2, 3, 5, 14, 15, 16] rfl (nT (cd_block (cd_vw (vw_nil 74 1) (cd_pv (pv_add (triv_star (L := []) (fun r h => by cases h))) ?_)))))))
    refine cd_lp (σ := Nat × Value × List Value) (fun s => [(5, s.2.1), (14, .slice ap y.procs.length cp), (15, .int .i64 y.procs.length), (16, .int .i64 (s.1 : Nat))]) (fun s => VR s.2.1 74 1 (s.2.2.map fun h => [h]) :: Res.star (nrows 79 2 kC s.2.2 ((y.procs.take s.1).map (·.puts))) :: S :: hr) (fun s => s.1 ≤ y.procs.length ∧ s.2.2.length = s.1 ∧ s.2.1.oneCell' = true) (fun s => y.procs.length - s.1) (0, .slice none 0 0, []) ⟨Nat.zero_le _, rfl, rfl⟩ ?_
    rintro ⟨k, v, hs⟩ ⟨hk, hkl, h1⟩
    simp only at hk hkl h1
    refine cS (cR (sV (v_lss rfl rfl) (sN (nT (cS (cC rfl (fun hd => ?_) (fun hd => ?_)))))))
    · skip
      have hlt : k < y.procs.length := by simpa using hd
      obtain ⟨b, off, cp2, us, hv2, hus, hrd, lv, pv', hv, dv, rfl, hL, hP, hH, hD⟩ := hp.at (List.getElem?_eq_getElem hlt)
      have hfpp := hf.2.2 _ (List.getElem_mem hlt)
      obtain ⟨al, cl', rfl, _⟩ := id hL
      obtain ⟨ap', cp', rfl, _⟩ := id hP
      obtain ⟨ah, ch', rfl, _⟩ := id hH
      obtain ⟨ad, cd', rfl, _⟩ := id hD
      generalize hpe : y.procs[k] = p at *
      refine cK (xT (cS (cd_block (cS (cR (sV (v_indexAddr (k := k) (congrArg some hv2) rfl sl25 rfl hlt rfl) (sV (v_ldn rfl ld77 hus hrd) ?_)))))))
      refine st_alc al77 fun b7 => ?_
      refine st_stoW rfl rfl sz77 rfl rfl ?_
      refine sN (nK [5, 7, 14, 15, 16] rfl (nT (cR (sV (vM rfl) (sV (vF rfl fa77_1 rfl) (sV (v_ldy rfl ld74) ?_))))))
      refine st_cl rfl rfl en82 rfl (clone82_ct hP hfpp.2.1 (kC_one _)) ?_
      rintro u h' ⟨T, rfl, hT⟩
      obtain ⟨rfl, hu1⟩ := hT.eqC
      refine st_buildSlice (cells := [u]) rfl Tryz.underlying92 inf74 rfl rfl (fill_one hu1 _ (by simp)) (ltn rfl) fun b24 => ?_
      refine st_app [[u]] rfl rfl Tryz.underlying92 inf74 rfl (by decide) (by repeat (first | exact Sel.here | apply Sel.there)) (by simp) rfl (fun j u2 hu2 => at_here (rd_cl (by simpa using hu2))) (by simp; exact hu1) (by simp; omega) (by simp; omega) (ltn rfl) fun v' hv' _ => ?_
      refine sV (vA rfl) (sN (nK [5, 14, 15, 16] rfl (nx_xt (xB (xT (cR (sV (v_add rfl rfl (by unfold I64 at *; omega)) (sV (vM rfl) (sN (nK [5, 14, 15, 16] rfl (nx_xt ?_)))))))))))
      have e1 : (y.procs.take (k + 1)).map (·.puts) = (y.procs.take k).map (·.puts) ++ [p.puts] := by rw [List.take_succ_eq_append_getElem hlt, hpe]; simp
      rw [show hs.map (fun h => [h]) ++ [[u]] = (hs ++ [u]).map fun h => [h] by simp]
      refine xt_pv (pv_snoc (L := nrows 79 2 kC hs ((y.procs.take k).map (·.puts))) (r := VR u 79 2 (p.puts.map kC))) ?_
      rw [← nrows_snoc (by simp; omega), ← e1]
      refine xt_ag (k + 1, v', hs ++ [u]) ⟨hlt, by simp; omega, hv'⟩ (by show _ - _ < _ - _; omega)
    · skip
      refine cd_exit (xE (xE (xt_exit_block (xT (cS (cR (sV (vM rfl) (sV (vA rfl) (sV (vA rfl) (sN (nK [2, 3] rfl (nT (cT ?_)))))))))))))
      have hkj : k = y.procs.length := by have : ¬ k < y.procs.length := by simpa using hd
                                          omega
      subst hkj
      rw [List.take_length]
      refine xt_pv (pv_add (triv_pure (φ := hs.length = (y.procs.map (·.puts)).length) (by simp [hkl]))) ?_
      refine xt_pv (pv_pack (L := NO 74 79 2 kC v hs (y.procs.map (·.puts)))) ?_
      refine xt_ok .here fun hok => ?_
      exact xt_rt rfl ⟨_, rfl, v, rfl, NO_star hok⟩
end
end Go.Wt
namespace Go.Wt
open Go Go.Ck Go.Proofs Go.Proofs.YtboepbencndobaaGreat Fx
attribute [local irreducible] St Cd Xt Nx DrL LsW
def blk (acc : List (List Did)) (d : Did) : List (List Did) := match acc.getLast? with
  | some b => if (b.headD ((0, 0), 0, false, false)).1 = d.1 then acc.dropLast ++ [b ++ [d]] else acc ++ [[d]]
  | none => [[d]]
theorem blk_nil (d : Did) : blk [] d = [[d]] := rfl
theorem blk_snoc (ls : List (List Did)) (x : Did) (t : List Did) (d : Did) : blk (ls ++ [x :: t]) d = if x.1 = d.1 then ls ++ [(x :: t) ++ [d]] else ls ++ [x :: t] ++ [[d]] := by
  unfold blk
  simp
def blocksE (y : Yard) (spot : Int) : List (List Did) × Int := if openedE y [spot] = 0 then ((y.pr spot.toNat).did.foldl blk [], 0) else ([], openedE y [spot])
abbrev LB := Option (Value × Did × List Did)
def LB.sh : LB → SH
  | none => []
  | some (h, x, t) => [VR h 81 5 ((x :: t).map dC)]
def LB.hs : LB → List Value
  | none => []
  | some (h, _) => [h]
def LB.ls : LB → List (List Did)
  | none => []
  | some (_, x, t) => [x :: t]
theorem v_is {P : Program} {e : Env} {h : SH} {op : Op} {ty : TypeId} {v v' : Value} (he : v = v') (hv : Vop P e h op ty v) : Vop P e h op ty v' := he ▸ hv
section
variable {S : Res}
set_option maxHeartbeats 1000000 in
set_option maxRecDepth 100000 in
theorem Blocks_ct {ys : List Value} {y : Yard} (hy : yardR S ys y) (hf : Fit y) (spot : Int) : CtN Tryz.prog 26 #[.agg ys.toArray, .int .i64 spot] [S] fun u T => ∃ v, u = .tuple #[v, .int .i64 (blocksE y spot).2] ∧ Row T 1 (nR T 5 dC) v (blocksE y spot).1 := by
  obtain ⟨jv, pv, rfl, hj, hp⟩ := id hy
  unfold blocksE
  refine ct_of (n := 65) Tryz.func26 rfl rfl (len rfl) fun hr w0 => ?_
  refine cS (cR (st_bx rfl rfl fun b2 => ?_))
  refine sV (vA rfl) (sV (vA rfl) (sN (nK [1, 2, 4, 5] rfl (nT (cS (cS (cR (sV (v_ldn rfl ld27 rfl rds_pt) ?_))))))))
  refine sV (vM rfl) (st_buildSlice (cells := [.int .i64 spot]) rfl Tryz.underlying43 inf3 rfl rfl (by kernel_rfl) (ltn rfl) fun b13 => ?_)
  refine st_clr rfl rfl en67 rfl (reads_star (opened_ct (S := Res.star [pt b13 (cl [.int .i64 spot] 3), S]) (l := [spot]) (hy.mono (rd_in (.there .here))) hf ((row_pt (C := iC) (sz := 1) (l := [spot]) (n := 1) rfl (by simp [iC]) rfl (by decide)).mono (rd_in .here) fun _ _ _ h => h) (by simp))) ?_
  refine sV (vA rfl) (sN (nK [1, 2, 4, 5, 6] rfl (nT (cS (cR (sV (vM rfl) (sV (v_neq rfl rfl) (sN (nK [1, 2, 4, 5, 6, 16] rfl (nT (cC rfl (fun h1 => ?_) (fun h1 => ?_))))))))))))
  · skip
    refine cS (cR (sV (vM rfl) (sV (vA rfl) (sV (vA rfl) (sN (nK [1, 2, 4, 5] rfl (nT (cT (xR ?_)))))))))
    rw [if_neg (by simpa using h1)]
    refine xt_vw (vw_pure (φ := True) trivial) ?_
    exact xt_rt rfl ⟨pureR True, rfl, .slice none 0 0, rfl, Row.nil⟩
  · skip
    have h1' : openedE y [spot] = 0 := by simpa using h1
    rw [if_pos h1']
    obtain ⟨_, hsp⟩ := openedE_zero h1'
    obtain ⟨hs0, hs1⟩ := hsp spot (by simp)
    obtain ⟨q, rfl⟩ := Int.eq_ofNat_of_zero_le hs0
    rw [Int.toNat_natCast] at hs1 ⊢
    obtain ⟨b, off, cp2, us, rfl, hus, hrd, lv, pv', hv, dv, rfl, hL, hP, hH, hD⟩ := hp.at (List.getElem?_eq_getElem hs1)
    have hfpp := hf.2.2 _ (List.getElem_mem hs1)
    obtain ⟨ad, cd', hdv, _⟩ := id hD
    rw [pr_get hs1]
    generalize hpe : y.procs[q] = p at *
    have hdl := hfpp.2.2.2.1
    refine cK (xT (cS (cR (sV (vA rfl) (sN (nK [1, 2, 4, 5, 7] rfl (nT (cS (cS (cR (sV (vF rfl fa27_1 rfl) (sV (v_ldy rfl ld25) ?_))))))))))))
    refine sV (vM rfl) (sV (v_indexAddr (k := q) rfl rfl sl25 rfl hs1 rfl) (sV (vF rfl fa77_8 rfl) (sV (v_ldy rfl ld62) ?_)))
    refine sV (v_len (congrArg some hdv) Tryz.underlying62) (sV (vM rfl) (sN (nK [4, 5, 7, 23, 24, 25] rfl (nT (cd_block (cd_vw (vw_nil 62 1) (cd_pv (pv_add (triv_star (L := []) (fun r h => by cases h))) ?_)))))))
    refine cd_lp (σ := Nat × Value × List Value × List (List Did) × LB) (fun s => [(7, s.2.1), (23, dv), (24, .int .i64 p.did.length), (25, .int .i64 (s.1 : Nat))]) (fun s => VR s.2.1 62 1 ((s.2.2.1 ++ s.2.2.2.2.hs).map fun h => [h]) :: Res.star (nrows 81 5 dC s.2.2.1 s.2.2.2.1) :: (s.2.2.2.2.sh ++ (S :: hr))) (fun s => s.1 ≤ p.did.length ∧ s.2.2.1.length = s.2.2.2.1.length ∧ s.2.1.oneCell' = true ∧ (p.did.take s.1).foldl blk [] = s.2.2.2.1 ++ s.2.2.2.2.ls ∧ (s.2.2.2.2 = none → s.2.2.1 = []) ∧ s.2.2.1.length ≤ s.1 ∧ (s.2.2.2.2 ≠ none → s.2.2.1.length + 1 ≤ s.1) ∧ ∀ h x t, s.2.2.2.2 = some (h, x, t) → t.length ≤ s.1) (fun s => p.did.length - s.1) (0, .slice none 0 0, [], [], none) ⟨Nat.zero_le _, rfl, rfl, rfl, fun _ => rfl, Nat.zero_le _, fun h => absurd rfl h, fun h x t e => by cases e⟩ ?_
    rintro ⟨k, v, hs, ls, lb⟩ ⟨hk, hkl, h1, hacc, hnone, hle1, hle2, hle3⟩
    simp only at hk hkl h1 hacc hnone hle1 hle2 hle3
    refine cS (cR (sV (v_lss rfl rfl) (sN (nT (cS (cC rfl (fun hd => ?_) (fun hd => ?_)))))))
    · skip
      have hlt : k < p.did.length := by simpa using hd
      obtain ⟨b2, off2, cp3, us2, hv2, hus2, hrd2, rfl⟩ := hD.at (List.getElem?_eq_getElem hlt)
      have hfold : (p.did.take (k + 1)).foldl blk [] = blk (ls ++ lb.ls) p.did[k] := by rw [List.take_succ_eq_append_getElem hlt, List.foldl_append, hacc]; rfl
      generalize hde : p.did[k] = d at *
      rcases lb with _ | ⟨hl, x, t⟩
      · skip
        obtain rfl := hnone rfl
        have hls : ls = [] := List.eq_nil_of_length_eq_zero (by simpa using hkl.symm)
        subst hls
        simp only [LB.sh, LB.hs, LB.ls, List.nil_append, List.append_nil, List.map_nil] at hfold ⊢
        rw [blk_nil] at hfold
        refine cd_rowf (v := v) (by repeat (first | exact Sel.here | apply Sel.there)) (fun va vc hve _ _ => ?_)
        simp only [List.length_nil] at hve
        subst hve
        refine cK (xT (cS (cd_block (cS (cR (sV (v_indexAddr (k := k) (congrArg some hv2) rfl sl62 rfl hlt rfl) (sV (v_ldn rfl ld81 hus2 hrd2) ?_)))))))
        refine st_alc al81 fun b9 => ?_
        refine st_stoW rfl rfl sz81 rfl rfl ?_
        refine sN (nK [7, 9, 23, 24, 25] rfl (nT (cS (cS (cR (sV (vM rfl) (sV (v_len rfl Tryz.underlying54) (sV (vA rfl) (sN (nK [7, 9, 10, 23, 24, 25] rfl (nT (cS (cd_drawh (ork [(0, 2), (1, 2), (2, 2), (3, 2), (4, 2), (5, 2), (6, 2), (7, 1), (8, 2), (9, 2), (10, 1), (11, 2), (12, 1), (13, 1), (14, 2)] .nil) (fun _ => true) mixed (by kernel_rfl) ?_)))))))))))))
        refine dV rfl (vM rfl) (dV rfl (v_gtr rfl rfl) (dV rfl (vM rfl) (dp_sk rfl rfl rfl rfl ?_)))
        refine dp_sk rfl rfl rfl rfl ?_
        refine dp_sk rfl rfl rfl rfl ?_
        refine dp_sk rfl rfl rfl rfl ?_
        refine dr_sk rfl rfl rfl rfl ?_
        refine dp_sk rfl rfl rfl rfl ?_
        refine dp_sk rfl rfl rfl rfl ?_
        refine dr_sk rfl rfl rfl rfl ?_
        refine dp_sk rfl rfl rfl rfl ?_
        refine dr_sk rfl rfl rfl rfl ?_
        refine dr_sk rfl rfl rfl rfl ?_
        refine dV rfl (vP rfl rfl) (dr_nil (nK [7, 9, 10, 23, 24, 25, 45] rfl (nT (cd_false rfl ?_))))
        refine cK (xT (cR (sV (vM rfl) (sV (v_ldn rfl ld81 rfl rds_pt) ?_))))
        refine st_buildSlice (cells := dC d) rfl Tryz.underlying62 inf81 rfl rfl (by kernel_rfl) (ltn rfl) fun b60 => ?_
        refine st_buildSlice (cells := [.slice (some ⟨b60, 0, none⟩) 1 1]) rfl Tryz.underlying54 inf62 rfl rfl (by kernel_rfl) (ltn rfl) fun b61 => ?_
        refine st_app [[.slice (some ⟨b60, 0, none⟩) 1 1]] rfl rfl Tryz.underlying54 inf62 rfl (by decide) (by repeat (first | exact Sel.here | apply Sel.there)) (by simp) rfl (fun j u2 hu2 => at_here (rd_cl (by simpa using hu2))) (by simp [Value.oneCell']) (by simp) (by simp) (ltn rfl) fun v' hv' _ => ?_
        refine sV (vA rfl) (sN (nK [7, 23, 24, 25] rfl (nx_xt (xB (xT (cR (sV (v_add rfl rfl (by unfold I64 at *; omega)) (sV (vM rfl) (sN (nK [7, 23, 24, 25] rfl (nx_xt (xt_pv (pv_of (E := 81) (sz := 5) [dC d] (cells := dC d) (b := b60) (n := 1) (by simp) (by simp [dC]) rfl (by decide)) ?_))))))))))))
        refine xt_ag (k + 1, v', [], [], some (.slice (some ⟨b60, 0, none⟩) 1 1, d, [])) ⟨hlt, rfl, hv', hfold, (fun h => by cases h), Nat.zero_le _, (fun _ => by simp), (fun h x t e => by cases e; simp)⟩ (by show _ - _ < _ - _; omega)
      · skip
        simp only [LB.sh, LB.hs, LB.ls] at hfold ⊢
        have hhs := hle2 (by simp)
        have htl := hle3 hl x t rfl
        rw [blk_snoc] at hfold
        refine cd_row (v := v) (by repeat (first | exact Sel.here | apply Sel.there)) (fun _ h0 => by simp at h0) (fun vb vo vc hve _ _ => ?_)
        refine cd_row (v := hl) (by repeat (first | exact Sel.here | apply Sel.there)) (fun _ h0 => by simp at h0) (fun lb2 lo lc hle _ _ => ?_)
        simp only [List.length_map, List.length_append, List.length_cons, List.length_nil] at hve hle
        subst hve hle
        have hn : decide (0 < ((hs.length + (0 + 1) : Nat) : Int)) = true := by simp
        have hrow : ((hs ++ [Value.slice (some ⟨lb2, lo, none⟩) (t.length + 1) lc]).map fun h => [h])[hs.length]? = some [.slice (some ⟨lb2, lo, none⟩) (t.length + 1) lc] := by simp
        have hRd : Rd (VR (.slice (some ⟨vb, vo, none⟩) (hs.length + (0 + 1)) vc) 62 1 ((hs ++ [Value.slice (some ⟨lb2, lo, none⟩) (t.length + 1) lc]).map fun h => [h])) ⟨vb, vo + hs.length * 1, none⟩ (.slice (some ⟨lb2, lo, none⟩) (t.length + 1) lc) := by
          have := rd_vrk (E := 62) (b := vb) (o := vo) (n := hs.length + (0 + 1)) (cp := vc) (sz := 1) (k := 0) hrow rfl
          exact this
        refine cK (xT (cS (cd_block (cS (cR (sV (v_indexAddr (k := k) (congrArg some hv2) rfl sl62 rfl hlt rfl) (sV (v_ldn rfl ld81 hus2 hrd2) ?_)))))))
        refine st_alc al81 fun b9 => ?_
        refine st_stoW rfl rfl sz81 rfl rfl ?_
        refine sN (nK [7, 9, 23, 24, 25] rfl (nT (cS (cS (cR (sV (vM rfl) (sV (v_len rfl Tryz.underlying54) (sV (vA rfl) (sN (nK [7, 9, 10, 23, 24, 25] rfl (nT (cS (cd_drawh (ork [(0, 2), (1, 2), (2, 2), (3, 2), (4, 2), (5, 2), (6, 2), (7, 1), (8, 2), (9, 2), (10, 1), (11, 2), (12, 1), (13, 1), (14, 2)] .nil) (fun _ => true) mixed (by kernel_rfl) ?_)))))))))))))
        refine dV rfl (vM rfl) (dV rfl (v_is (congrArg Value.bool hn) (v_gtr rfl rfl)) (dV rfl (vM rfl) (dp_vg rfl rfl rfl (vM rfl) (dp_vg rfl rfl rfl (vM rfl) (dp_vg rfl rfl rfl (v_sub rfl rfl (by unfold I64 at *; omega)) (dp_vg rfl rfl rfl (v_indexAddr (k := hs.length) rfl rfl sl54 (by push_cast; omega) (by omega) rfl) ?_))))))
        refine dr_vg rfl rfl rfl (v_ldy rfl ld62) ?_
        refine dp_vg rfl rfl rfl (v_indexAddr (k := 0) rfl rfl sl62 rfl (by omega) rfl) (dp_vg rfl rfl rfl (vF rfl fa81_0 rfl) (dr_vg rfl rfl rfl (v_ldn (vs := kC x.1) rfl ld79 rfl (rds_sub (rds_vr (m := 0) rfl) rfl)) ?_))
        refine dp_vg rfl rfl rfl (vF rfl fa81_0 rfl) (dr_vg rfl rfl rfl (v_ldn (vs := kC d.1) rfl ld79 rfl (rds_sub rds_pt rfl)) ?_)
        refine dr_vg rfl rfl rfl (v_eql_T eq79 rfl rfl) (dV rfl (v_pick_true rfl rfl) (dr_nil (nK [7, 9, 10, 23, 24, 25, 45] rfl (nT (cC rfl (fun hk2 => ?_) (fun hk2 => ?_))))))
        · skip
          refine cS (cd_drawh (ork [(0, 2), (1, 2), (2, 2), (3, 2), (4, 2), (5, 2), (6, 2), (7, 1), (8, 1), (9, 0), (10, 0), (11, 2), (12, 0)] .nil) (fun i => !(Nat.beq i 10 || Nat.beq i 12)) mixed (by kernel_rfl) ?_)
          refine dV rfl (vM rfl) (dV rfl (vM rfl) (dV rfl (v_sub rfl rfl (by unfold I64 at *; omega)) (dV rfl (vM rfl) (dV rfl (vM rfl) (dV rfl (v_sub rfl rfl (by unfold I64 at *; omega)) ?_)))))
          rw [if_pos (by simpa using hk2)] at hfold
          refine dV rfl (v_indexAddr (k := hs.length) rfl rfl sl54 (by push_cast; omega) (by omega) rfl) ?_
          refine dr_v rfl (v_ldy rfl ld62) ?_
          refine dr_v rfl (v_ldn rfl ld81 rfl rds_pt) ?_
          refine dr_eff rfl (st_buildSlice (cells := dC d) rfl Tryz.underlying62 inf81 rfl rfl (by kernel_rfl) (ltn rfl) fun b55 => dr_nx ?_)
          refine dr_eff rfl (st_app (v := .slice (some ⟨lb2, lo, none⟩) (t.length + 1) lc) [dC d] rfl rfl Tryz.underlying62 inf81 rfl (by decide) (by repeat (first | exact Sel.here | apply Sel.there)) (by simp [dC]) rfl (fun j u2 hu2 => at_here (rd_cl (by simpa using hu2))) (by simp [dC, Value.oneCell']) (by simp; omega) (by simp; omega) (ltn rfl) fun v' hv' _ => dr_nx ?_)
          refine dV rfl (v_indexAddr (k := hs.length) rfl rfl sl54 (by push_cast; omega) (by omega) rfl) ?_
          refine dr_eff rfl (st_vr (sz := 1) (m := hs.length) (k := 0) rfl rfl sz62 hv' hrow (by decide) rfl (by repeat (first | exact Sel.here | apply Sel.there)) (dr_nx ?_))
          refine dr_nil (nK [7, 9, 23, 24, 25] rfl (nT (cd_exit (xE (xt_exit_block (xT (cR (sV (v_add rfl rfl (by unfold I64 at *; omega)) (sV (vM rfl) (sN (nK [7, 23, 24, 25] rfl (nx_xt ?_))))))))))))
          have e2 : (((hs ++ [Value.slice (some ⟨lb2, lo, none⟩) (t.length + 1) lc]).map fun h => [h]).set hs.length ([Value.slice (some ⟨lb2, lo, none⟩) (t.length + 1) lc].set 0 v')) = (hs ++ [v']).map fun h => [h] := by simp
          rw [e2]
          have e3 : (x :: t).map dC ++ [dC d] = (x :: (t ++ [d])).map dC := by simp
          rw [e3]
          refine xt_ag (k + 1, .slice (some ⟨vb, vo, none⟩) (hs.length + (0 + 1)) vc, hs, ls, some (v', x, t ++ [d])) ⟨hlt, hkl, rfl, hfold, (fun h => by cases h), by show hs.length ≤ k + 1; omega, (fun _ => by show hs.length + 1 ≤ k + 1; omega), (fun h x2 t2 e => by cases e; simp; omega)⟩ (by show _ - _ < _ - _; omega)
        · skip
          refine cK (xT (cR (sV (vM rfl) ?_)))
          rw [if_neg (by simpa using hk2)] at hfold
          refine sV (v_ldn rfl ld81 rfl rds_pt) ?_
          refine st_buildSlice (cells := dC d) rfl Tryz.underlying62 inf81 rfl rfl (by kernel_rfl) (ltn rfl) fun b60 => ?_
          refine st_buildSlice (cells := [.slice (some ⟨b60, 0, none⟩) 1 1]) rfl Tryz.underlying54 inf62 rfl rfl (by kernel_rfl) (ltn rfl) fun b61 => ?_
          refine st_app (v := .slice (some ⟨vb, vo, none⟩) (hs.length + (0 + 1)) vc) [[.slice (some ⟨b60, 0, none⟩) 1 1]] rfl rfl Tryz.underlying54 inf62 rfl (by decide) (by repeat (first | exact Sel.here | apply Sel.there)) (by simp) rfl (fun j u2 hu2 => at_here (rd_cl (by simpa using hu2))) (by simp [Value.oneCell']) (by simp; omega) (by simp; omega) (ltn rfl) fun v' hv' _ => ?_
          refine sV (vA rfl) (sN (nK [7, 23, 24, 25] rfl (nx_xt (xB (xT (cR (sV (v_add rfl rfl (by unfold I64 at *; omega)) (sV (vM rfl) (sN (nK [7, 23, 24, 25] rfl (nx_xt (xt_pv (pv_of (E := 81) (sz := 5) [dC d] (cells := dC d) (b := b60) (n := 1) (by simp) (by simp [dC]) rfl (by decide)) ?_))))))))))))
          refine xt_pv (pv_snoc (L := nrows 81 5 dC hs ls) (r := VR (.slice (some ⟨lb2, lo, none⟩) (t.length + 1) lc) 81 5 ((x :: t).map dC))) ?_
          rw [← nrows_snoc hkl]
          have e2 : ((hs ++ [Value.slice (some ⟨lb2, lo, none⟩) (t.length + 1) lc]).map fun h => [h]) ++ [[Value.slice (some ⟨b60, 0, none⟩) 1 1]] = (hs ++ [Value.slice (some ⟨lb2, lo, none⟩) (t.length + 1) lc] ++ [Value.slice (some ⟨b60, 0, none⟩) 1 1]).map fun h => [h] := by simp
          rw [e2]
          refine xt_ag (k + 1, v', hs ++ [Value.slice (some ⟨lb2, lo, none⟩) (t.length + 1) lc], ls ++ [x :: t], some (.slice (some ⟨b60, 0, none⟩) 1 1, d, [])) ⟨hlt, by simp [hkl], hv', hfold, (fun h => by cases h), by simp; omega, (fun _ => by simp; omega), (fun h x2 t2 e => by cases e; simp)⟩ (by show _ - _ < _ - _; omega)
    · skip
      refine cd_exit (xE (xE (xt_exit_block (xT (cS (cR (sV (vM rfl) (sV (vA rfl) (sV (vA rfl) (sN (nK [4, 5] rfl (nT (cT ?_)))))))))))))
      have hkj : k = p.did.length := by have : ¬ k < p.did.length := by simpa using hd
                                        omega
      subst hkj
      rw [List.take_length] at hacc
      rw [hacc]
      rcases lb with _ | ⟨hl, x, t⟩
      · skip
        simp only [LB.sh, LB.hs, LB.ls, List.nil_append, List.append_nil]
        refine xt_pv (pv_add (triv_pure (φ := hs.length = ls.length) hkl)) ?_
        refine xt_pv (pv_pack (L := NO 62 81 5 dC v hs ls)) ?_
        refine xt_ok .here fun hok => ?_
        exact xt_rt rfl ⟨_, rfl, v, rfl, NO_star hok⟩
      · skip
        simp only [LB.sh, LB.hs, LB.ls]
        refine xt_pv (pv_snoc (L := nrows 81 5 dC hs ls) (r := VR hl 81 5 ((x :: t).map dC))) ?_
        rw [← nrows_snoc hkl]
        refine xt_pv (pv_add (triv_pure (φ := (hs ++ [hl]).length = (ls ++ [x :: t]).length) (by simp [hkl]))) ?_
        refine xt_pv (pv_pack (L := NO 62 81 5 dC v (hs ++ [hl]) (ls ++ [x :: t]))) ?_
        refine xt_ok .here fun hok => ?_
        exact xt_rt rfl ⟨_, rfl, v, rfl, NO_star hok⟩
end
end Go.Wt
namespace Go.Wt
open Go Go.Ck Go.Proofs Go.Proofs.YtboepbencndobaaGreat Fx
attribute [local irreducible] St Cd Xt Nx DrL LsW
theorem xt_pk {c : Cx} {ex : Exit} {Q : Exit → Act → World → Prop} {e : Env} {h k : SH} (p : h.Perm k) (hx : Xt c ex Q e k) : Xt c ex Q e h := xt_vw (fun _ hh => Holds.perm p hh) hx
theorem Yc.frame {P : Program} {l : Nat} {args : Array Value} {hf : SH} {R : Value → SH → Prop} (h : Yc P l args hf R) (r : Res) : Yc P l args (r :: hf) (fun v h' => ∃ k, h' = r :: k ∧ R v k) := fun hr w hh => by
  have h1 : Holds w (hf ++ (r :: hr)) := hh.perm (List.perm_middle (l₁ := hf)).symm
  exact opUpon_mono (fun v w' ⟨k, hR, hH, hS⟩ => ⟨r :: k, ⟨k, rfl, hR⟩, hH.perm (List.perm_middle (l₁ := k)), hS⟩) (h (r :: hr) w h1)
theorem Yc.mono {P : Program} {l : Nat} {args : Array Value} {hf : SH} {R R' : Value → SH → Prop} (h : Yc P l args hf R) (hr : ∀ v k, R v k → R' v k) : Yc P l args hf R' := fun x w hh => opUpon_mono (fun v w' ⟨k, h1, h2, h3⟩ => ⟨k, hr v k h1, h2, h3⟩) (h x w hh)
section
variable {S : Res}
set_option maxRecDepth 100000 in
theorem going1_ct {σ : Type} {jv pv : Value} {procs : List Proc} {b1 yl : Nat} (Inv : σ → SH) (Φ : Nat → σ → Prop) (Stop : Nat → SH → Prop) (s0 : σ) (h0 : Φ 0 s0) (hp : Row S 9 (procR S) pv procs) (hl : procs.length ≤ 1000000)
    (hy : ∀ (i : Nat) (s : σ) (hi : i < procs.length), (procs[i]).goes = true → Φ i s → Yc Tryz.prog yl #[.int .i64 i] (S :: Inv s) fun v h' => (v = .bool true ∧ ∃ s', Φ (i + 1) s' ∧ h' = S :: Inv s') ∨ (v = .bool false ∧ ∃ k, h' = S :: k ∧ Stop i k))
    (hn : ∀ (i : Nat) (s : σ) (hi : i < procs.length), (procs[i]).goes = false → Φ i s → Φ (i + 1) s) :
    Ct Tryz.prog 112 #[.func (.yield yl) #[] #[], .pointer (some ⟨b1, 0, none⟩)] (pt b1 (cl [jv, pv] 27) :: S :: Inv s0) fun u h' => u = .tuple #[] ∧ ((∃ s, Φ procs.length s ∧ h' = pt b1 (cl [jv, pv] 27) :: S :: Inv s) ∨ ∃ i k, Stop i k ∧ h' = pt b1 (cl [jv, pv] 27) :: S :: k) := by
  obtain ⟨ap, cp, rfl, _⟩ := id hp
  refine ct_of (n := 27) Tryz.func112 rfl rfl (len rfl) fun hr w0 => ?_
  refine cS (cR (sV (vF rfl fa27_1 rfl) (sV (v_ldy rfl ld25) ?_)))
  refine sV (v_len rfl Tryz.underlying25) (sV (vM rfl) (sN (nK [0, 1, 7, 8] rfl (nT (cd_block (cd_lp (σ := Nat × σ) (fun q => [(0, .func (.yield yl) #[] #[]), (1, .pointer (some ⟨b1, 0, none⟩)), (7, .int .i64 procs.length), (8, .int .i64 (q.1 : Nat))]) (fun q => pt b1 (cl [jv, .slice ap procs.length cp] 27) :: S :: (Inv q.2 ++ hr)) (fun q => q.1 ≤ procs.length ∧ Φ q.1 q.2) (fun q => procs.length - q.1) (0, s0) ⟨Nat.zero_le _, h0⟩ ?_))))))
  rintro ⟨i, s⟩ ⟨hi, hΦ⟩
  simp only at hi hΦ
  refine cS (cR (sV (v_lss rfl rfl) (sN (nT (cS (cC rfl (fun hd => ?_) (fun hd => ?_)))))))
  · skip
    refine cK (xT (cS (cd_block (cS (cR (sV (vM rfl) (sV (vA rfl) (sN (nK [0, 1, 3, 7, 8] rfl (nT (cS (cR ?_))))))))))))
    have hlt : i < procs.length := by simpa using hd
    refine sV (v_ldn rfl ld27 rfl rds_pt) ?_
    refine sV (vM rfl) (st_clr rfl rfl en68 rfl (state_ct hp hlt) ?_)
    refine sV (vA rfl) (sN (nK [0, 1, 3, 4, 7, 8] rfl (nT (cS ?_))))
    have hg0 : (procs[i]).goes = ((procs[i]).state == 1 || (procs[i]).state == 2) := rfl
    cases hgo : (procs[i]).goes
    · skip
      rw [hgo] at hg0
      refine cR (sV (vM rfl) (sV (v_eql rfl rfl) (sV (vM rfl) (st_cut (k := 6) (d := 19) (v := .bool ((procs[i]).state == 1 || (procs[i]).state == 2)) (fun hcut => bool_want (b := ((procs[i]).state == 1)) false (fun hg => ?_) (fun hg => ?_)) ?_))))
      · refine st_sk rfl rfl hg ?_
        refine st_sk rfl rfl hg ?_
        refine sV (v_pick_true (bool_ev rfl hg) rfl) ?_
        exact hcut _ (ssub_head (by first | rfl | (rw [hg]; rfl) | simp_all) (uS rfl (uS rfl (ssub_refl))))
      · skip
        refine st_vg rfl (bG rfl hg) (vM rfl) (st_vg rfl (bG rfl hg) (v_eql rfl rfl) (sV (vP (bool_ev rfl hg) rfl) ?_))
        exact hcut _ (ssub_head (by first | rfl | (rw [hg]; rfl) | simp_all) (uS rfl (uS rfl (ssub_refl))))
      refine sV (v_is (congrArg Value.bool hg0.symm) (vM rfl)) (st_sk rfl rfl rfl ?_)
      refine st_sk rfl rfl rfl ?_
      refine st_sk rfl rfl rfl ?_
      refine st_sk rfl rfl rfl ?_
      refine sV (vP rfl rfl) (sN (nK [0, 1, 7, 8, 25] rfl (nT (cd_false rfl ?_))))
      refine cK (xB (xT (cR (sV (v_add rfl rfl (by unfold I64 at *; omega)) (sV (vM rfl) (sN (nK [0, 1, 7, 8] rfl (nx_xt ?_))))))))
      refine xt_ag (i + 1, s) ⟨hlt, hn i s hlt hgo hΦ⟩ (by show _ - _ < _ - _; omega)
    · skip
      rw [hgo] at hg0
      refine cR (sV (vM rfl) (sV (v_eql rfl rfl) (sV (vM rfl) (st_cut (k := 6) (d := 19) (v := .bool ((procs[i]).state == 1 || (procs[i]).state == 2)) (fun hcut => bool_want (b := ((procs[i]).state == 1)) false (fun hg => ?_) (fun hg => ?_)) ?_))))
      · refine st_sk rfl rfl hg ?_
        refine st_sk rfl rfl hg ?_
        refine sV (v_pick_true (bool_ev rfl hg) rfl) ?_
        exact hcut _ (ssub_head (by first | rfl | (rw [hg]; rfl) | simp_all) (uS rfl (uS rfl (ssub_refl))))
      · skip
        refine st_vg rfl (bG rfl hg) (vM rfl) (st_vg rfl (bG rfl hg) (v_eql rfl rfl) (sV (vP (bool_ev rfl hg) rfl) ?_))
        exact hcut _ (ssub_head (by first | rfl | (rw [hg]; rfl) | simp_all) (uS rfl (uS rfl (ssub_refl))))
      refine sV (v_is (congrArg Value.bool hg0.symm) (vM rfl)) (st_vg rfl rfl (vM rfl) (st_vg rfl rfl (vM rfl) ?_))
      refine st_yield (gd := 20) (.inr ⟨_, _, rfl, rfl, rfl⟩) rfl rfl (hy i s hlt hgo hΦ) (Pk.of (hr := pt b1 (cl [jv, .slice ap procs.length cp] 27) :: hr) (by
        exact (List.perm_middle (l₁ := S :: Inv s)).symm)) (ltn rfl) ?_
      rintro v h' (⟨rfl, s', h1, rfl⟩ | ⟨rfl, k, rfl, h1⟩)
      · skip
        refine st_vg rfl rfl (v_not rfl) (sV (v_pick_true rfl rfl) (sN (nK [0, 1, 7, 8, 25] rfl (nT (cd_false rfl ?_)))))
        refine cK (xB (xT (cR (sV (v_add rfl rfl (by unfold I64 at *; omega)) (sV (vM rfl) (sN (nK [0, 1, 7, 8] rfl (nx_xt (xt_pk (k := pt b1 (cl [jv, .slice ap procs.length cp] 27) :: S :: (Inv s' ++ hr)) (by exact List.perm_middle (l₁ := S :: Inv s')) ?_)))))))))
        refine xt_ag (i + 1, s') ⟨hlt, h1⟩ (by show _ - _ < _ - _; omega)
      · skip
        refine st_vg rfl rfl (v_not rfl) (sV (v_pick_true rfl rfl) (sN (nK [0, 1, 7, 8, 25] rfl (nT (cd_true rfl ?_)))))
        refine cT (xt_ret_block (xR (xR (xt_ret_block (xt_pk (k := pt b1 (cl [jv, .slice ap procs.length cp] 27) :: S :: (k ++ hr)) (by exact List.perm_middle (l₁ := S :: k)) ?_)))))
        exact xt_rt rfl ⟨rfl, .inr ⟨i, k, h1, rfl⟩⟩
  · skip
    refine cd_exit (xE (xE (xt_exit_block ?_)))
    have hin : i = procs.length := by have : ¬ i < procs.length := by simpa using hd
                                      omega
    subst hin
    exact xt_en rfl ⟨rfl, .inl ⟨s, hΦ, rfl⟩⟩
def rdy (procs : List Proc) (i : Nat) : List Int := ((List.range i).filter fun k => (procs.getD k Proc.empty).goes).map fun (k : Nat) => (k : Int)
theorem rdy_yes {procs : List Proc} {i : Nat} (hi : i < procs.length) (h : (procs[i]).goes = true) : rdy procs (i + 1) = rdy procs i ++ [(i : Int)] := by
  unfold rdy
  rw [List.range_succ, List.filter_append, List.map_append]
  congr 1
  have : (procs.getD i Proc.empty).goes = true := by rw [List.getD_eq_getElem?_getD, List.getElem?_eq_getElem hi]; exact h
  rw [List.filter_cons_of_pos (p := fun k => (procs.getD k Proc.empty).goes) this]; rfl
theorem rdy_no {procs : List Proc} {i : Nat} (hi : i < procs.length) (h : (procs[i]).goes = false) : rdy procs (i + 1) = rdy procs i := by
  unfold rdy
  rw [List.range_succ, List.filter_append, List.map_append]
  have : (procs.getD i Proc.empty).goes = false := by rw [List.getD_eq_getElem?_getD, List.getElem?_eq_getElem hi]; exact h
  rw [List.filter_cons_of_neg (p := fun k => (procs.getD k Proc.empty).goes) (by rw [this]; decide)]; simp
theorem rdy_len (procs : List Proc) (i : Nat) : (rdy procs i).length ≤ i := by
  unfold rdy
  rw [List.length_map]
  exact Nat.le_trans (List.length_filter_le _ _) (by simp)
theorem ready_rdy (y : Yard) : y.ready.map (fun (k : Nat) => (k : Int)) = rdy y.procs y.procs.length := rfl
def seqv (b1 : Nat) : Value := .func (.func 112) #[] #[.pointer (some ⟨b1, 0, none⟩)]
set_option maxRecDepth 100000 in
theorem appseq_ct {jv pv : Value} {procs : List Proc} {b1 : Nat} (hp : Row S 9 (procR S) pv procs) (hl : procs.length ≤ 1000000) :
    Ct Tryz.prog 111 #[.slice none 0 0, seqv b1] [pt b1 (cl [jv, pv] 27), S] fun u h' => u.oneCell' = true ∧ h' = [pt b1 (cl [jv, pv] 27), S, VR u 3 1 ((rdy procs procs.length).map iC)] := by
  unfold seqv
  refine ct_ofM (n := 13) Tryz.func111 rfl rfl (len rfl) fun hr w0 => ?_
  refine cS (cR (st_bx rfl rfl fun b2 => ?_))
  refine sV (vA rfl) (sN (nK [1, 2, 4] rfl (nT (cS (cS (cR (sV (vM rfl) (sN (nK [2, 4, 6] rfl (nT (cd_block (cd_vw (vw_nil 3 1) (cd_range' rfl en112 fun yl db rec hst hpe hps has hbo hkn2 => ?_)))))))))))))
  refine ⟨_, Ct.perm (going1_ct (σ := Value × List Int) (yl := yl) (jv := jv) (b1 := b1) (fun q => pt yl (.loop rec) :: pt db (.deferred (some [])) :: VR q.1 3 1 (q.2.map iC) :: pt b2 (cl [q.1] 43) :: hr) (fun i q => q.1.oneCell' = true ∧ q.2 = rdy procs i) (fun _ _ => False) (.slice none 0 0, []) ⟨rfl, rfl⟩ hp hl ?_ ?_) ?_, ?_⟩
  · rintro i ⟨v, l⟩ hi hg ⟨h1, h2⟩
    simp only at h1 h2
    have hll := rdy_len procs i
    rw [← h2] at hll
    refine Yc.mono (R := fun v h' => ∃ k, h' = S :: k ∧ ((v = .bool true ∧ ∃ s' : Value × List Int, (s'.1.oneCell' = true ∧ s'.2 = rdy procs (i + 1)) ∧ k = pt yl (.loop rec) :: pt db (.deferred (some [])) :: VR s'.1 3 1 (s'.2.map iC) :: pt b2 (cl [s'.1] 43) :: hr) ∨ (v = .bool false ∧ False))) (Yc.frame ?_ S) (fun v k h => by
      obtain ⟨k', rfl, (⟨h1, s', h2, rfl⟩ | ⟨_, h2⟩)⟩ := h
      · exact .inl ⟨h1, s', h2, rfl⟩
      · exact h2.elim)
    refine Yc.perm (yc_of (n := 13) (rec := rec) (args := [.int .i64 i]) (hf := pt db (.deferred (some [])) :: VR v 3 1 (l.map iC) :: pt b2 (cl [v] 43) :: hr) (by rw [hps]; rfl) hkn2 (by rw [hps]; decide) ?_) (List.Perm.refl _)
    intro hr2 w1
    rw [has, hps, hbo]
    simp only [List.cons_append, List.nil_append]
    refine cR (sV (vA rfl) (sN (nK [2, 4, 5] rfl (nx_xt (xt_mid rfl (by repeat (first | exact Sel.here | apply Sel.there)) (by first | rfl | assumption) ?_)))))
    refine cd_block (cR (sV (v_ldy rfl ld43) ?_))
    refine sV (vM rfl) (st_buildSlice (cells := [.int .i64 i]) rfl Tryz.underlying43 inf3 rfl rfl (by kernel_rfl) (ltn rfl) fun b10 => ?_)
    refine st_app [[.int .i64 i]] rfl rfl Tryz.underlying43 inf3 rfl (by decide) (by repeat (first | exact Sel.here | apply Sel.there)) (by simp) rfl (fun j u2 hu2 => at_here (rd_cl (by simpa using hu2))) (by simp [Value.oneCell']) (by simp; omega) (by simp; omega) (ltn rfl) fun v' hv' _ => ?_
    refine st_sto rfl rfl sz43 ?_
    refine sN (nK [4] rfl (nx_xt (xB (xt_round (by repeat (first | exact Sel.here | apply Sel.there)) (.inl ⟨rfl, (v', l ++ [(i : Int)]), ⟨hv', by rw [h2, rdy_yes hi hg]⟩, rfl⟩) ?_))))
    rw [rec_back hst hpe]
    dsimp only
    rw [List.map_append]
    exact (by repeat (first | exact Sub.refl _ | exact Sub.nil _ | refine Sub.sel (by repeat (first | exact Sel.here | apply Sel.there)) ?_ | apply Sub.cons))
  · rintro i ⟨v, l⟩ hi hg ⟨h1, h2⟩
    exact ⟨h1, by rw [rdy_no hi hg]; exact h2⟩
  · exact (by repeat (first | exact Pm.refl | refine Pm.cons (by repeat (first | exact Sel.here | apply Sel.there)) ?_) : Pm _ _).perm
  · rintro v' h' ⟨rfl, (⟨⟨v, l⟩, ⟨h1, h2⟩, rfl⟩ | ⟨_, _, hf, _⟩)⟩
    · simp only at h1 h2
      subst h2
      refine ⟨rec, _, (by repeat (first | exact Sel.here | apply Sel.there)), (by rw [hst]; simp), ?_⟩
      rw [hpe]
      dsimp only
      refine xB (xT (cS (cR (sV (v_ldy rfl ld43) ?_))))
      refine sV (vA rfl) (sN (nK [4] rfl (nT (cT ?_))))
      exact xt_retM (bs := [db]) rfl rfl ⟨h1, rfl⟩ (by repeat (first | exact Sub.refl _ | exact Sub.nil _ | refine Sub.sel (by repeat (first | exact Sel.here | apply Sel.there)) ?_ | apply Sub.cons))
    · exact hf.elim
set_option maxRecDepth 100000 in
theorem collect_ct {jv pv : Value} {procs : List Proc} {b1 : Nat} (hp : Row S 9 (procR S) pv procs) (hl : procs.length ≤ 1000000) :
    Ct Tryz.prog 71 #[seqv b1] [pt b1 (cl [jv, pv] 27), S] fun u h' => u.oneCell' = true ∧ h' = [pt b1 (cl [jv, pv] 27), S, VR u 3 1 ((rdy procs procs.length).map iC)] := by
  refine ct_of (n := 5) Tryz.func71 rfl rfl (len rfl) fun hr w0 => ?_
  refine cS (cR (sV (vA rfl) (sN (nT (cS (cR (sV (vM rfl) (st_cl rfl rfl en111 rfl (appseq_ct hp hl) ?_))))))))
  rintro u h' ⟨h1, rfl⟩
  refine sV (vA rfl) (sN (nK [2] rfl (nT (cT ?_))))
  exact xt_rt rfl ⟨h1, rfl⟩
set_option maxRecDepth 100000 in
theorem going_ct {jv pv : Value} : Ct Tryz.prog 72 #[.agg #[jv, pv]] [] fun u h' => ∃ b1, u = seqv b1 ∧ h' = [pt b1 (cl [jv, pv] 27)] := by
  refine ct_of (n := 4) Tryz.func72 rfl rfl (len rfl) fun hr w0 => ?_
  refine cS (cR (st_bx rfl rfl fun b1 => ?_))
  refine sV (vA rfl) (sN (nK [1, 2] rfl (nT (cS (cR (sV (v_makeFunc rfl rfl) (sV (vA rfl) (sN (nK [2] rfl (nT (cT ?_)))))))))))
  exact xt_rt rfl ⟨b1, rfl, rfl⟩
def readyE (y : Yard) : List Int × Int := if y.right = true then (rdy y.procs y.procs.length, 0) else ([], 2)
set_option maxRecDepth 100000 in
theorem Ready_ct {ys : List Value} {y : Yard} (hy : yardR S ys y) (hf : Fit y) : CtN Tryz.prog 22 #[.agg ys.toArray] [S] fun u T => ∃ v, u = .tuple #[v, .int .i64 (readyE y).2] ∧ T = VR v 3 1 ((readyE y).1.map iC) := by
  obtain ⟨jv, pv, rfl, hj, hp⟩ := id hy
  unfold readyE
  refine ct_of (n := 13) Tryz.func22 rfl rfl (len rfl) fun hr w0 => ?_
  refine cS (cR (st_bx rfl rfl fun b1 => ?_))
  refine sV (vA rfl) (sV (vA rfl) (sN (nK [1, 2, 3] rfl (nT (cS (cS (cR (sV (v_ldn rfl ld27 rfl rds_pt) ?_))))))))
  refine st_clr rfl rfl en67 rfl (opened_ct (l := []) hy hf Row.nil (by simp)) ?_
  refine sV (vA rfl) (sN (nK [1, 2, 3, 4] rfl (nT (cS (cR (sV (vM rfl) (sV (v_neq rfl rfl) (sN (nK [1, 2, 3, 4, 8] rfl (nT ?_))))))))))
  rw [openedE_nil]
  refine cC rfl (fun h1 => ?_) (fun h1 => ?_)
  · skip
    have h2 : ¬ y.right = true := fun h => by rw [if_pos h] at h1; cases h1
    refine cS (cR (sV (vM rfl) (sV (vA rfl) (sV (vA rfl) (sN (nK [1, 2, 3] rfl (nT (cT (xR ?_)))))))))
    rw [if_neg h2, if_neg h2]
    refine xt_vw (vw_nil 3 1) ?_
    exact xt_rt rfl ⟨VR (.slice none 0 0) 3 1 [], rfl, .slice none 0 0, rfl, rfl⟩
  · skip
    have h2 : y.right = true := by
      cases hr : y.right with
      | true => rfl
      | false => rw [hr] at h1; cases h1
    rw [if_pos h2, if_pos h2]
    refine cK (xT (cS (cR (sV (v_ldn rfl ld27 rfl rds_pt) ?_))))
    refine st_cl rfl rfl en72 rfl (going_ct (jv := jv) (pv := pv)) ?_
    rintro u h' ⟨b4, rfl, rfl⟩
    refine st_cl rfl rfl en71 rfl (collect_ct (jv := jv) hp hf.2.1) ?_
    rintro u h' ⟨h3, rfl⟩
    refine sV (vA rfl) (sV (vA rfl) (sN (nK [2, 3] rfl (nT (cT ?_)))))
    exact xt_rt rfl ⟨_, rfl, _, rfl, rfl⟩
end
end Go.Wt
namespace Go.Wt
open Go Go.Ck Go.Proofs Go.Proofs.YtboepbencndobaaGreat Fx
attribute [local irreducible] Go.Ck.Sub St Cd Xt Nx DrL LsW
section
variable {S : Res}
theorem aC_one (l : List Ask) : ∀ us x, x ∈ l → eqC aC us x → ∀ u ∈ us, u.oneCell' = true := fun us x _ h u hu => by cases h; simp [aC] at hu; rcases hu with rfl | rfl <;> rfl
theorem hC_one (l : List Hold) : ∀ us x, x ∈ l → eqC holdC us x → ∀ u ∈ us, u.oneCell' = true := fun us x _ h u hu => by cases h; simp [holdC] at hu; rcases hu with rfl | rfl | rfl | rfl <;> rfl
theorem dC_one (l : List Did) : ∀ us x, x ∈ l → eqC dC us x → ∀ u ∈ us, u.oneCell' = true := fun us x _ h u hu => by cases h; simp [dC] at hu; rcases hu with rfl | rfl | rfl | rfl | rfl <;> rfl
theorem jobR_one (l : List (List Move)) : ∀ us x, x ∈ l → jobR S us x → ∀ u ∈ us, u.oneCell' = true := fun us x _ h u hu => by obtain ⟨v, rfl, h1⟩ := h; simp at hu; subst hu; exact h1.one
theorem lineR_one (l : List Line) : ∀ us x, x ∈ l → lineR S us x → ∀ u ∈ us, u.oneCell' = true := fun us x _ h u hu => by obtain ⟨v, rfl, h1⟩ := h; simp [lC] at hu; rcases hu with rfl | rfl | rfl | rfl | rfl <;> first | rfl | exact h1.one
theorem procR_one (l : List Proc) : ∀ us x, x ∈ l → procR S us x → ∀ u ∈ us, u.oneCell' = true := fun us x _ h u hu => by
  obtain ⟨v1, v2, v3, v4, rfl, h1, h2, h3, h4⟩ := h; simp [pC] at hu; rcases hu with rfl | rfl | rfl | rfl | rfl | rfl | rfl | rfl | rfl <;> first | rfl | exact h1.one | exact h2.one | exact h3.one | exact h4.one
theorem jobs_rows {rows : List (List Value)} {jobs : List (List Move)} (hl : rows.length = jobs.length) (h : ∀ (i : Nat) us x, rows[i]? = some us → jobs[i]? = some x → jobR S us x) :
    ∃ hs : List Value, rows = hs.map (fun h => [h]) ∧ hs.length = jobs.length ∧ ∀ (i : Nat) v l, hs[i]? = some v → jobs[i]? = some l → Row S 3 (eqC mC) v l := by
  induction rows generalizing jobs with
  | nil => exact ⟨[], rfl, hl, fun i v l h => by simp at h⟩
  | cons r t ih =>
    cases jobs with
    | nil => simp at hl
    | cons j js =>
      obtain ⟨hs, e1, e2, e3⟩ := ih (jobs := js) (by simpa using hl) fun i us x h1 h2 => h (i + 1) us x (by simpa using h1) (by simpa using h2)
      obtain ⟨v, rfl, hv⟩ := h 0 r j rfl rfl
      refine ⟨v :: hs, by rw [e1]; rfl, by simp [e2], fun i v2 l h1 h2 => ?_⟩
      cases i with
      | zero => simp at h1 h2; subst h1 h2; exact hv
      | succ i => exact e3 i v2 l (by simpa using h1) (by simpa using h2)
theorem lines_rows {rows : List (List Value)} {ls : List Line} (hl : rows.length = ls.length) (h : ∀ (i : Nat) us x, rows[i]? = some us → ls[i]? = some x → lineR S us x) :
    ∃ avs : List Value, rows = lrows avs ls ∧ avs.length = ls.length ∧ ∀ (i : Nat) v l, avs[i]? = some v → ls[i]? = some l → Row S 2 (eqC aC) v l.asks := by
  induction rows generalizing ls with
  | nil =>
    have : ls = [] := List.eq_nil_of_length_eq_zero (by simpa using hl.symm)
    subst this
    exact ⟨[], rfl, rfl, fun i v l h => by simp at h⟩
  | cons r t ih =>
    cases ls with
    | nil => simp at hl
    | cons j js =>
      obtain ⟨hs, e1, e2, e3⟩ := ih (ls := js) (by simpa using hl) fun i us x h1 h2 => h (i + 1) us x (by simpa using h1) (by simpa using h2)
      obtain ⟨v, rfl, hv⟩ := h 0 r j rfl rfl
      refine ⟨v :: hs, by rw [e1]; rfl, by simp [e2], fun i v2 l h1 h2 => ?_⟩
      cases i with
      | zero => simp at h1 h2; subst h1 h2; exact hv
      | succ i => exact e3 i v2 l (by simpa using h1) (by simpa using h2)
theorem take_set {α : Type} {l : List α} {i : Nat} {x : α} (h : i < l.length) : (l.set i x).take (i + 1) = l.take i ++ [x] := by
  apply List.ext_getElem?
  intro k
  rw [List.getElem?_take]
  by_cases hk : k < i
  · rw [if_pos (by omega), List.getElem?_set, if_neg (by omega), List.getElem?_append_left (by simp; omega), List.getElem?_take, if_pos hk]
  · by_cases hki : k = i
    · subst hki
      rw [if_pos (by omega), List.getElem?_set, if_pos rfl, if_pos h, List.getElem?_append_right (by simp; omega)]
      simp [Nat.min_eq_left (Nat.le_of_lt h)]
    · rw [if_neg (by omega), List.getElem?_eq_none]
      simp; omega
theorem set_at {α : Type} {l : List α} {i : Nat} (h : i < l.length) (x : α) : (l.set i x)[i]? = some x := by rw [List.getElem?_set, if_pos rfl, if_pos h]
theorem lrows_set {avs : List Value} {ls : List Line} {k : Nat} {l : Line} {u : Value} (h : ls[k]? = some l) : (lrows avs ls).set k (lC u l) = lrows (avs.set k u) ls := by
  unfold lrows
  apply List.ext_getElem?
  intro j
  rw [List.getElem?_set, List.length_zipWith]
  by_cases hj : k = j
  · subst hj
    have hk := (List.getElem?_eq_some_iff.1 h).1
    rw [if_pos rfl, List.getElem?_zipWith, h, List.getElem?_set, if_pos rfl]
    by_cases hka : k < avs.length
    · rw [if_pos (by omega), if_pos hka]
    · rw [if_neg (by omega), if_neg hka]
  · rw [if_neg hj, List.getElem?_zipWith, List.getElem?_zipWith, List.getElem?_set, if_neg hj]
theorem arows_snoc {avs : List Value} {ls : List Line} {v : Value} {l : Line} (h : avs.length = ls.length) : arows (avs ++ [v]) (ls ++ [l]) = arows avs ls ++ [VR v 117 2 (l.asks.map aC)] := by unfold arows; rw [List.zipWith_append h]; rfl
set_option maxHeartbeats 2000000 in
set_option maxRecDepth 100000 in
theorem copied_ct {ys : List Value} {y : Yard} (hy : yardR S ys y) (hf : Fit y) : Ct Tryz.prog 75 #[.agg ys.toArray] [S] fun u h' => ∃ jv pv H hs, u = .agg #[jv, pv] ∧ h' = JO jv hs y.jobs ++ (YO pv y.procs.length H y.pr ++ [S]) := by
  obtain ⟨jv, pv, rfl, hj, hp⟩ := id hy
  obtain ⟨⟨hf1, hf2⟩, hfp, hfpp⟩ := id hf
  refine ct_of (n := 100) Tryz.func75 rfl rfl (len rfl) fun hr w0 => ?_
  refine cS (cR (st_bx rfl rfl fun b1 => ?_))
  refine st_alc al27 fun b2 => ?_
  refine sN (nK [1, 2] rfl (nT (cS (cd_drawh (ork [(0, 2), (1, 1), (3, 2), (4, 1), (2, 0), (6, 2), (5, 0), (7, 0), (8, 2), (9, 0)] .nil) (fun i => !(Nat.beq i 5 || Nat.beq i 7 || Nat.beq i 9)) mixed (by kernel_rfl) ?_))))
  refine dV rfl (vF rfl fa27_0 rfl) (dr_v rfl (v_ldy rfl ld22) ?_)
  refine dV rfl (vF rfl fa27_1 rfl) (dr_v rfl (v_ldy rfl ld25) ?_)
  refine dr_eff rfl (st_cl rfl rfl en114 rfl (clone114_ct hj hf1 (jobR_one _)) ?_)
  rintro u10 h' ⟨T, rfl, ⟨hu10, rows1, rfl, hl1, hr1⟩⟩
  refine dr_nx ?_
  refine dV rfl (vF rfl fa27_0 rfl) (dr_eff rfl (st_cl rfl rfl en115 rfl (clone115_ct hp hfp (procR_one _)) ?_))
  rintro u13 h' ⟨T, rfl, ⟨hu13, rows2, rfl, hl2, hr2⟩⟩
  refine dr_nx ?_
  refine dr_eff rfl (st_sto rfl rfl sz22 (dr_nx ?_))
  refine dV rfl (vF rfl fa27_1 rfl) (dr_eff rfl (st_sto rfl rfl sz25 (dr_nx ?_)))
  refine dr_nil (nK [1, 2] rfl (nT (cS (cS ?_))))
  obtain ⟨hs0, rfl, hs0l, hs0r⟩ := jobs_rows hl1 hr1
  refine cd_rowf (v := u10) (by repeat (first | exact Sel.here | apply Sel.there)) fun ja jc hju _ _ => ?_
  refine cd_rowf (v := u13) (by repeat (first | exact Sel.here | apply Sel.there)) fun pa pc hpu _ _ => ?_
  simp only [List.length_map, hs0l, hl2] at hju hpu
  subst hju hpu
  refine cR (sV (vF rfl fa27_0 rfl) (sV (v_ldy rfl ld22) ?_))
  refine sV (v_len rfl Tryz.underlying22) (sV (vM rfl) (sN (nK [1, 2, 17, 18, 19] rfl (nT (cd_block (cd_pv (pv_add (triv_star (L := []) (fun r h => by cases h))) ?_))))))
  refine cd_lp (σ := Nat × List Value) (fun q => [(1, .pointer (some ⟨b1, 0, none⟩)), (2, .pointer (some ⟨b2, 0, none⟩)), (17, .slice ja y.jobs.length jc), (18, .int .i64 y.jobs.length), (19, .int .i64 (q.1 : Nat))]) (fun q => pt b1 (cl [.slice ja y.jobs.length jc, .slice pa y.procs.length pc] 27) :: VR (.slice ja y.jobs.length jc) 108 1 (q.2.map fun h => [h]) :: Res.star (jrows (q.2.take q.1) (y.jobs.take q.1)) :: VR (.slice pa y.procs.length pc) 77 9 rows2 :: pt b2 (cl [.slice none 0 0, .slice none 0 0] 27) :: S :: hr) (fun q => q.1 ≤ y.jobs.length ∧ q.2.length = y.jobs.length ∧ ∀ (k : Nat) v l, q.1 ≤ k → q.2[k]? = some v → y.jobs[k]? = some l → Row S 3 (eqC mC) v l) (fun q => y.jobs.length - q.1) (0, hs0) ⟨Nat.zero_le _, hs0l, fun k v l _ => hs0r k v l⟩ ?_
  rintro ⟨i, hs⟩ ⟨hi, hsl, hsr⟩
  simp only at hi hsl hsr
  dsimp only
  refine cS (cR (sV (v_lss rfl rfl) (sN (nT (cS (cC rfl (fun hd => ?_) (fun hd => ?_)))))))
  · skip
    have hlt : i < y.jobs.length := by simpa using hd
    refine cd_row (v := .slice ja y.jobs.length jc) (by repeat (first | exact Sel.here | apply Sel.there)) (fun _ h0 => by rw [List.map_eq_nil_iff.1 h0] at hsl; simp at hsl; omega) (fun jb jo jc2 hve hjl _ => ?_)
    simp only [List.length_map, hsl, Value.slice.injEq] at hve
    obtain ⟨rfl, _, rfl⟩ := hve
    have hsi : hs[i]? = some hs[i] := List.getElem?_eq_getElem (by omega)
    have hrow : (hs.map fun h => [h])[i]? = some [hs[i]] := by simp [hsi]
    have hRd : Rd (VR (.slice (some ⟨jb, jo, none⟩) y.jobs.length jc) 108 1 (hs.map fun h => [h])) ⟨jb, jo + i * 1, none⟩ hs[i] := by
      have := rd_vrk (E := 108) (b := jb) (o := jo) (n := y.jobs.length) (cp := jc) (sz := 1) (k := 0) hrow rfl
      exact this
    have hj3 := hsr i hs[i] y.jobs[i] (Nat.le_refl _) hsi (List.getElem?_eq_getElem hlt)
    have hl3 := hf2 _ (List.getElem_mem hlt)
    generalize hje : y.jobs[i] = l at *
    refine cK (xT (cS (cd_block (cS (cR (sV (vM rfl) (sV (v_indexAddr (k := i) rfl rfl sl22 rfl hlt rfl) (sV (v_ldy rfl ld108) ?_))))))))
    refine sV (vA rfl) (sV (vA rfl) (sN (nK [1, 2, 3, 4, 17, 18, 19] rfl (nT (cd_drawh (ork [(0, 2), (1, 1), (2, 2), (3, 2), (4, 0), (5, 2), (6, 0)] .nil) (fun i => !(Nat.beq i 6)) mixed (by kernel_rfl) ?_)))))
    refine dV rfl (vF rfl fa27_0 rfl) (dr_v rfl (v_ldy rfl ld22) ?_)
    refine dV rfl (vM rfl) (dV rfl (vM rfl) (dr_eff rfl (st_cl rfl rfl en54 rfl (clone54_ct hj3 hl3 (mC_one _)) ?_)))
    rintro u28 h' ⟨T, rfl, hT⟩
    obtain ⟨rfl, hu28⟩ := hT.eqC
    refine dr_nx ?_
    refine dV rfl (v_indexAddr (k := i) rfl rfl sl22 rfl hlt rfl) (dr_eff rfl (st_vr (sz := 1) (m := i) (k := 0) rfl rfl sz108 hu28 hrow (by decide) rfl (by repeat (first | exact Sel.here | apply Sel.there)) (dr_nx ?_)))
    refine dr_nil (nK [1, 2, 17, 18, 19] rfl (nx_xt (xB (xT (cR (sV (v_add rfl rfl (by unfold I64 at *; omega)) (sV (vM rfl) (sN (nK [1, 2, 17, 18, 19] rfl (nx_xt ?_))))))))))
    have e2 : ((hs.map fun h => [h]).set i ([hs[i]].set 0 u28)) = (hs.set i u28).map fun h => [h] := by rw [List.map_set]; rfl
    rw [e2]
    refine xt_pv (pv_snoc (L := jrows (hs.take i) (y.jobs.take i)) (r := VR u28 110 3 (l.map mC))) ?_
    have e3 : jrows (hs.take i) (y.jobs.take i) ++ [VR u28 110 3 (l.map mC)] = jrows ((hs.set i u28).take (i + 1)) (y.jobs.take (i + 1)) := by
      rw [take_set (by omega), List.take_succ_eq_append_getElem hlt, hje, jrows_snoc (by simp; omega)]
    rw [e3]
    refine xt_ag (i + 1, hs.set i u28) ⟨hlt, by simp [hsl], fun k v l hk h1 h2 => hsr k v l (by show i ≤ k; have : i + 1 ≤ k := hk; omega) (by rw [← h1, List.getElem?_set, if_neg (by have : i + 1 ≤ k := hk; omega)]) h2⟩ (by show _ - _ < _ - _; omega)
  · skip
    have hij : i = y.jobs.length := by have : ¬ i < y.jobs.length := by simpa using hd
                                       omega
    subst hij
    rw [List.take_of_length_le (by omega), List.take_of_length_le (Nat.le_refl _)]
    refine cd_exit (xE (xE (xt_exit_block (xT (cS (cS (cR (sV (vF rfl fa27_1 rfl) (sV (v_ldy rfl ld25) ?_)))))))))
    refine sV (v_len rfl Tryz.underlying25) (sV (vM rfl) (sN (nK [1, 2, 33, 34] rfl (nT (cd_block (cd_pv (pv_add (triv_star (L := []) (fun r h => by cases h))) ?_))))))
    refine cd_lp (σ := Nat × (Nat → PH) × List (List Value)) (fun q => [(1, .pointer (some ⟨b1, 0, none⟩)), (2, .pointer (some ⟨b2, 0, none⟩)), (33, .int .i64 y.procs.length), (34, .int .i64 (q.1 : Nat))]) (fun q => pt b1 (cl [.slice ja y.jobs.length jc, .slice pa y.procs.length pc] 27) :: VR (.slice pa y.procs.length pc) 77 9 q.2.2 :: Res.star ((List.range q.1).map fun k => PR (q.2.1 k) (y.pr k)) :: VR (.slice ja y.jobs.length jc) 108 1 (hs.map fun h => [h]) :: Res.star (jrows hs y.jobs) :: pt b2 (cl [.slice none 0 0, .slice none 0 0] 27) :: S :: hr) (fun q => q.1 ≤ y.procs.length ∧ q.2.2.length = y.procs.length ∧ (∀ k, k < q.1 → q.2.2[k]? = some (hpC (q.2.1 k) (y.pr k))) ∧ ∀ (k : Nat) us p, q.1 ≤ k → q.2.2[k]? = some us → y.procs[k]? = some p → procR S us p) (fun q => y.procs.length - q.1) (0, (fun _ => PH.nil), rows2) ⟨Nat.zero_le _, hl2, fun k hk => absurd hk (Nat.not_lt_zero _), fun k us p _ => hr2 k us p⟩ ?_
    rintro ⟨i, H, rows⟩ ⟨hi, hrl, hdone, hrest⟩
    simp only at hi hrl hdone hrest
    dsimp only
    refine cS (cR (sV (v_lss rfl rfl) (sN (nT (cS (cC rfl (fun hd2 => ?_) (fun hd2 => ?_)))))))
    · skip
      have hlt : i < y.procs.length := by simpa using hd2
      refine cd_row (v := .slice pa y.procs.length pc) (by repeat (first | exact Sel.here | apply Sel.there)) (fun _ h0 => by rw [h0] at hrl; simp at hrl; omega) (fun pb po pc2 hve hjl _ => ?_)
      simp only [hrl, Value.slice.injEq] at hve
      obtain ⟨rfl, _, rfl⟩ := hve
      have hri : rows[i]? = some rows[i] := List.getElem?_eq_getElem (by omega)
      obtain ⟨lv, pv', hv, dv, hus, hL, hP, hH, hD⟩ := hrest i rows[i] y.procs[i] (Nat.le_refl _) hri (List.getElem?_eq_getElem hlt)
      have hfp1 := hfpp _ (List.getElem_mem hlt)
      have hpr := pr_get hlt
      rw [hus] at hri
      generalize hpe : y.procs[i] = p at *
      obtain ⟨hq1, hq2, hq3, hq4, hq5⟩ := hfp1
      have g0 := rd_vrk (E := 77) (b := pb) (o := po) (n := y.procs.length) (cp := pc) (sz := 9) (k := 0) hri rfl
      have g1 := rd_vrk (E := 77) (b := pb) (o := po) (n := y.procs.length) (cp := pc) (sz := 9) (k := 1) hri rfl
      have g5 := rd_vrk (E := 77) (b := pb) (o := po) (n := y.procs.length) (cp := pc) (sz := 9) (k := 5) hri rfl
      have g8 := rd_vrk (E := 77) (b := pb) (o := po) (n := y.procs.length) (cp := pc) (sz := 9) (k := 8) hri rfl
      refine cK (xT (cS (cd_block (cS (cR (sV (vM rfl) (sV (vA rfl) (sN (nK [1, 2, 5, 33, 34] rfl (nT (cS (cR (sV (vF rfl fa27_1 rfl) (sV (v_ldy rfl ld25) ?_))))))))))))))
      refine sV (vM rfl) (sV (v_indexAddr (k := i) rfl rfl sl25 rfl hlt rfl) (sV (vA rfl) (sN (nK [1, 2, 6, 33, 34] rfl (nT (cS (cd_drawh (ork [(0, 2), (1, 2), (2, 2), (3, 2), (4, 2), (5, 2), (6, 2), (7, 1), (9, 2), (10, 2), (11, 2), (12, 1), (14, 2), (15, 2), (16, 2), (17, 1), (19, 2), (20, 2), (21, 2), (22, 1), (8, 0), (13, 0), (18, 0), (23, 0), (24, 2), (25, 2), (26, 0), (27, 2), (28, 2), (29, 0), (30, 2), (31, 2), (32, 0), (33, 2), (34, 2), (35, 0)] .nil) (fun i => !(Nat.beq i 23 || Nat.beq i 26 || Nat.beq i 29 || Nat.beq i 32 || Nat.beq i 35)) mixed (by kernel_rfl) ?_)))))))
      refine dV rfl (vM rfl) (dV rfl (vM rfl) (dV rfl (vM rfl) (dV rfl (vM rfl) (dV rfl (vM rfl) (dV rfl (vN rfl) (dV rfl (vF rfl fa77_0 rfl) (dr_v rfl (v_ldy rfl ld73) ?_)))))))
      refine dV rfl (vM rfl) (dV rfl (vN rfl) (dV rfl (vF rfl fa77_1 rfl) (dr_v rfl (v_ldy rfl ld74) ?_)))
      refine dV rfl (vM rfl) (dV rfl (vN rfl) (dV rfl (vF rfl fa77_5 rfl) (dr_v rfl (v_ldy rfl ld75) ?_)))
      refine dV rfl (vM rfl) (dV rfl (vN rfl) (dV rfl (vF rfl fa77_8 rfl) (dr_v rfl (v_ldy rfl ld62) ?_)))
      refine dr_eff rfl (st_cl rfl rfl en116 rfl (clone116_ct hL hq1 (lineR_one _)) ?_)
      rintro u49 h' ⟨T, rfl, ⟨hu49, rows3, rfl, hl3, hr3⟩⟩
      refine dr_nx ?_
      refine dr_eff rfl (st_cl rfl rfl en82 rfl (clone82_ct hP hq2 (kC_one _)) ?_)
      rintro u54 h' ⟨T, rfl, hT⟩
      obtain ⟨rfl, hu54⟩ := hT.eqC
      refine dr_nx ?_
      refine dr_eff rfl (st_cl rfl rfl en117 rfl (clone117_ct hH hq3 (hC_one _)) ?_)
      rintro u59 h' ⟨T, rfl, hT⟩
      obtain ⟨rfl, hu59⟩ := hT.eqC
      refine dr_nx ?_
      refine dr_eff rfl (st_cl rfl rfl en118 rfl (clone118_ct hD hq4 (dC_one _)) ?_)
      rintro u64 h' ⟨T, rfl, hT⟩
      obtain ⟨rfl, hu64⟩ := hT.eqC
      refine dr_nx ?_
      refine dV rfl (vN rfl) (dV rfl (vF rfl fa77_0 rfl) (dr_eff rfl (st_vr (sz := 9) (m := i) (k := 0) rfl rfl sz73 hu49 hri (by decide) rfl (by repeat (first | exact Sel.here | apply Sel.there)) (dr_nx ?_))))
      refine dV rfl (vN rfl) (dV rfl (vF rfl fa77_1 rfl) (dr_eff rfl (st_vr (sz := 9) (m := i) (k := 1) (rows := rows.set i (pC u49 pv' hv dv p)) (r := pC u49 pv' hv dv p) rfl rfl sz74 hu54 (set_at (by omega) _) (by decide) (List.set_set _) (by repeat (first | exact Sel.here | apply Sel.there)) (dr_nx ?_))))
      refine dV rfl (vN rfl) (dV rfl (vF rfl fa77_5 rfl) (dr_eff rfl (st_vr (sz := 9) (m := i) (k := 5) (rows := rows.set i (pC u49 u54 hv dv p)) (r := pC u49 u54 hv dv p) rfl rfl sz75 hu59 (set_at (by omega) _) (by decide) (List.set_set _) (by repeat (first | exact Sel.here | apply Sel.there)) (dr_nx ?_))))
      refine dV rfl (vN rfl) (dV rfl (vF rfl fa77_8 rfl) (dr_eff rfl (st_vr (sz := 9) (m := i) (k := 8) (rows := rows.set i (pC u49 u54 u59 dv p)) (r := pC u49 u54 u59 dv p) rfl rfl sz62 hu64 (set_at (by omega) _) (by decide) (List.set_set _) (by repeat (first | exact Sel.here | apply Sel.there)) (dr_nx ?_))))
      refine dr_nil (nK [1, 2, 6, 33, 34] rfl (nT (cS ?_)))
      obtain ⟨avs0, rfl, avs0l, avs0r⟩ := lines_rows hl3 hr3
      refine cd_rowf (v := u49) (by repeat (first | exact Sel.here | apply Sel.there)) fun la lc hlu _ _ => ?_
      simp only [hl3] at hlu
      subst hlu
      have f0 : Rd (VR (.slice (some ⟨pb, po, none⟩) y.procs.length pc) 77 9 (rows.set i (pC (.slice la p.lines.length lc) u54 u59 u64 p))) ⟨pb, po + i * 9 + 0, none⟩ (.slice la p.lines.length lc) := rd_vrk (m := i) (k := 0) (set_at (by omega) _) rfl
      refine cR (sV (vM rfl) (sV (vN rfl) (sV (vF rfl fa77_0 rfl) (sV (v_ldy rfl ld73) ?_))))
      refine sV (v_len rfl Tryz.underlying73) (sV (vM rfl) (sN (nK [1, 2, 6, 33, 34, 77, 78] rfl (nT (cd_block (cd_pv (pv_add (triv_star (L := []) (fun r h => by cases h))) ?_))))))
      refine cd_lp (σ := Nat × List Value) (fun q => [(1, .pointer (some ⟨b1, 0, none⟩)), (2, .pointer (some ⟨b2, 0, none⟩)), (6, .pointer (some ⟨pb, po + i * 9, none⟩)), (33, .int .i64 y.procs.length), (34, .int .i64 (i : Nat)), (77, .int .i64 p.lines.length), (78, .int .i64 (q.1 : Nat))]) (fun q => VR (.slice (some ⟨pb, po, none⟩) y.procs.length pc) 77 9 (rows.set i (pC (.slice la p.lines.length lc) u54 u59 u64 p)) :: VR (.slice la p.lines.length lc) 120 5 (lrows q.2 p.lines) :: Res.star (arows (q.2.take q.1) (p.lines.take q.1)) :: VR u64 81 5 (p.did.map dC) :: VR u59 161 4 (p.holds.map holdC) :: VR u54 79 2 (p.puts.map kC) :: pt b1 (cl [.slice ja y.jobs.length jc, .slice (some ⟨pb, po, none⟩) y.procs.length pc] 27) :: Res.star ((List.range i).map fun k => PR (H k) (y.pr k)) :: VR (.slice ja y.jobs.length jc) 108 1 (hs.map fun h => [h]) :: Res.star (jrows hs y.jobs) :: pt b2 (cl [.slice none 0 0, .slice none 0 0] 27) :: S :: hr) (fun q => q.1 ≤ p.lines.length ∧ q.2.length = p.lines.length ∧ ∀ (k : Nat) v l, q.1 ≤ k → q.2[k]? = some v → p.lines[k]? = some l → Row S 2 (eqC aC) v l.asks) (fun q => p.lines.length - q.1) (0, avs0) ⟨Nat.zero_le _, avs0l, fun k v l _ => avs0r k v l⟩ ?_
      rintro ⟨k, avs⟩ ⟨hk, hal, har⟩
      simp only at hk hal har
      dsimp only
      refine cS (cR (sV (v_lss rfl rfl) (sN (nT (cS (cC rfl (fun hd3 => ?_) (fun hd3 => ?_)))))))
      · skip
        have hkt : k < p.lines.length := by simpa using hd3
        have hlen3 : (lrows avs p.lines).length = p.lines.length := by simp [lrows, hal]
        refine cd_row (v := .slice la p.lines.length lc) (by repeat (first | exact Sel.here | apply Sel.there)) (fun _ h0 => by rw [h0] at hlen3; simp at hlen3; omega) (fun lb lo lc2 hve2 _ _ => ?_)
        simp only [hlen3, Value.slice.injEq] at hve2
        obtain ⟨rfl, _, rfl⟩ := hve2
        have hki : avs[k]? = some avs[k] := List.getElem?_eq_getElem (by omega)
        have hkl : p.lines[k]? = some p.lines[k] := List.getElem?_eq_getElem hkt
        have hrow : (lrows avs p.lines)[k]? = some (lC avs[k] p.lines[k]) := by simp [lrows, List.getElem?_zipWith, hki, hkl]
        have hA := har k avs[k] p.lines[k] (Nat.le_refl _) hki hkl
        have hal3 := hq5 _ (List.getElem_mem hkt)
        generalize hle : p.lines[k] = l at *
        have f1 := rd_vrk (E := 120) (b := lb) (o := lo) (n := p.lines.length) (cp := lc) (sz := 5) (k := 2) hrow rfl
        refine cK (xT (cS (cd_block (cS (cR (sV (vM rfl) (sV (vA rfl) (sN (nK [1, 2, 6, 7, 33, 34, 77, 78] rfl (nT (cd_drawh (ork [(0, 2), (1, 2), (2, 2), (3, 1), (4, 2), (5, 2), (6, 2), (7, 2), (8, 1), (9, 2), (10, 2), (11, 2), (12, 1), (13, 0), (14, 2), (15, 2), (16, 0)] .nil) (fun i => !(Nat.beq i 16)) mixed (by kernel_rfl) ?_)))))))))))
        refine dV rfl (vM rfl) (dV rfl (vN rfl) (dV rfl (vF rfl fa77_0 rfl) (dr_v rfl (v_ldy rfl ld73) ?_)))
        refine dV rfl (vM rfl) (dV rfl (vM rfl) (dV rfl (vN rfl) (dV rfl (vF rfl fa77_0 rfl) (dr_v rfl (v_ldy rfl ld73) ?_))))
        refine dV rfl (vM rfl) (dV rfl (v_indexAddr (k := k) rfl rfl sl73 rfl hkt rfl) (dV rfl (vF rfl fa120_1 rfl) (dr_v rfl (v_ldy rfl ld118) ?_)))
        refine dr_eff rfl (st_cl rfl rfl en119 rfl (clone119_ct hA hal3 (aC_one _)) ?_)
        rintro u94 h' ⟨T, rfl, hT⟩
        obtain ⟨rfl, hu94⟩ := hT.eqC
        refine dr_nx ?_
        refine dV rfl (v_indexAddr (k := k) rfl rfl sl73 rfl hkt rfl) (dV rfl (vF rfl fa120_1 rfl) (dr_eff rfl (st_vr (sz := 5) (m := k) (k := 2) rfl rfl sz118 hu94 hrow (by decide) rfl (by repeat (first | exact Sel.here | apply Sel.there)) (dr_nx ?_))))
        refine dr_nil (nK [1, 2, 6, 33, 34, 77, 78] rfl (nx_xt (xB (xT (cR (sV (v_add rfl rfl (by unfold I64 at *; omega)) (sV (vM rfl) (sN (nK [1, 2, 6, 33, 34, 77, 78] rfl (nx_xt ?_))))))))))
        have e2 : (lrows avs p.lines).set k ((lC avs[k] l).set 2 u94) = lrows (avs.set k u94) p.lines := lrows_set hkl
        rw [e2]
        refine xt_pv (pv_snoc (L := arows (avs.take k) (p.lines.take k)) (r := VR u94 117 2 (l.asks.map aC))) ?_
        have e3 : arows (avs.take k) (p.lines.take k) ++ [VR u94 117 2 (l.asks.map aC)] = arows ((avs.set k u94).take (k + 1)) (p.lines.take (k + 1)) := by
          rw [take_set (by omega), List.take_succ_eq_append_getElem hkt, hle, arows_snoc (by simp; omega)]
        rw [e3]
        refine xt_ag (k + 1, avs.set k u94) ⟨hkt, by simp [hal], fun j v l hj h1 h2 => har j v l (by show k ≤ j; have : k + 1 ≤ j := hj; omega) (by rw [← h1, List.getElem?_set, if_neg (by have : k + 1 ≤ j := hj; omega)]) h2⟩ (by show _ - _ < _ - _; omega)
      · skip
        have hkj : k = p.lines.length := by have : ¬ k < p.lines.length := by simpa using hd3
                                            omega
        subst hkj
        rw [List.take_of_length_le (by omega), List.take_of_length_le (Nat.le_refl _)]
        refine cd_exit (xE (xE (xt_exit_block (xB (xT (cR (sV (v_add rfl rfl (by unfold I64 at *; omega)) (sV (vM rfl) (sN (nK [1, 2, 33, 34] rfl (nx_xt (xt_pv (pv_add (triv_pure (φ := avs.length = p.lines.length) hal)) ?_))))))))))))
        refine xt_pv (pv_pack (L := prl ⟨.slice la p.lines.length lc, u54, u59, u64, avs⟩ p)) ?_
        refine xt_pv (pv_snoc (L := (List.range i).map fun k => PR (H k) (y.pr k)) (r := PR ⟨.slice la p.lines.length lc, u54, u59, u64, avs⟩ p)) ?_
        have e4 : ((List.range i).map fun k => PR (H k) (y.pr k)) ++ [PR ⟨.slice la p.lines.length lc, u54, u59, u64, avs⟩ p] = (List.range (i + 1)).map fun k => PR (upd H i ⟨.slice la p.lines.length lc, u54, u59, u64, avs⟩ k) (y.pr k) := by
          rw [List.range_succ, List.map_append]
          congr 1
          · exact List.map_congr_left fun j hj => by rw [upd_ne _ _ (by have := List.mem_range.1 hj; omega)]
          · rw [List.map_singleton, upd_same, hpr]
        rw [e4]
        refine xt_ag (i + 1, upd H i ⟨.slice la p.lines.length lc, u54, u59, u64, avs⟩, rows.set i (pC (.slice la p.lines.length lc) u54 u59 u64 p)) ⟨hlt, by simp [hrl], fun j hj => ?_, fun j us q hj h1 h2 => hrest j us q (by show i ≤ j; have : i + 1 ≤ j := hj; omega) (by rw [← h1, List.getElem?_set, if_neg (by have : i + 1 ≤ j := hj; omega)]) h2⟩ (by show _ - _ < _ - _; omega)
        show (rows.set i _)[j]? = some (hpC (upd H i _ j) (y.pr j))
        by_cases hji : j = i
        · subst hji; rw [set_at (by omega), upd_same, hpr]; rfl
        · rw [List.getElem?_set, if_neg (Ne.symm hji), upd_ne _ _ hji]; exact hdone j (by have : j < i + 1 := hj; omega)
    · skip
      have hin : i = y.procs.length := by have : ¬ i < y.procs.length := by simpa using hd2
                                          omega
      subst hin
      have e5 : rows = (List.range y.procs.length).map fun k => hpC (H k) (y.pr k) := by
        apply List.ext_getElem?
        intro j
        rw [List.getElem?_map]
        by_cases hj : j < y.procs.length
        · rw [hdone j hj, List.getElem?_range hj]; rfl
        · rw [List.getElem?_eq_none (by omega), List.getElem?_eq_none (by simp; omega)]; rfl
      rw [e5]
      refine cd_exit (xE (xE (xt_exit_block (xT (cS (cR (sV (v_ldn rfl ld27 rfl rds_pt) ?_)))))))
      refine st_stoW rfl rfl sz27 rfl rfl ?_
      refine sN (nK [2] rfl (nT (cT (xt_pv (pv_add (triv_pure (φ := hs.length = y.jobs.length) hsl)) ?_))))
      exact xt_retV (.cellN rfl ld27 rfl (by repeat (first | exact Sel.here | apply Sel.there)) .nil) ⟨.slice ja y.jobs.length jc, .slice pa y.procs.length pc, H, hs, rfl, rfl⟩ (by repeat (first | exact Sub.refl _ | exact Sub.nil _ | refine Sub.sel (by repeat (first | exact Sel.here | apply Sel.there)) ?_ | apply Sub.cons))
end
end Go.Wt
namespace Go.Ck
open Go
section
variable {P : Program} {r : Option Nat} {n : Nat} {w0 : World} {hr : SH} {R : Value → SH → Prop} {fn : Func} {e : Env} {h h' k : SH} {vs : List Value} {bs : List Nat} {ds : List Deferred}
theorem xt_retMV (hds : ds = bs.map mk) (hv : ResV P k e fn.results.toList vs) (hR : R (outOf vs) h') (hk : Sub (h' ++ hr) k) (hp : Sub (marks bs ++ k) h) : Xt ⟨P, r, n, ds, w0⟩ .ret (bodyPostM (Fw none) 0 P fn (Post w0 hr R)) e h :=
  fun a w hk' hh hw => by
    show LeavesInM (Fw none) 0 P fn a.tmps _ a.defers .returning w
    rw [hk'.defers, hds]
    exact leavesM bs w (hh.sub hp) hw fun w' h1 h2 => ⟨_, run_resultsV hk' hv h1, _, h', rfl, hR, h1.sub hk, h2⟩
end
end Go.Ck
namespace Go.Wt
open Go Go.Ck Go.Proofs Go.Proofs.YtboepbencndobaaGreat Fx
attribute [local irreducible] St Cd Xt Nx DrL LsW
def yv (b : Nat) : Value := .agg #[.pointer (some ⟨b, 0, none⟩)]
def lptr (lv : Value) : Option Nat → Value
  | none => .pointer none
  | some j => match lv with
    | .slice (some ⟨lb, lo, _⟩) _ _ => .pointer (some ⟨lb, lo + j * 5, none⟩)
    | _ => .pointer none
theorem ixF_line (p : Proc) (k : Key) : ixF (fun l : Line => l.key == k) p.lines = match p.line k with | some i => (i : Int) | none => -1 := rfl
section
variable {S : Res}
set_option maxRecDepth 100000 in
theorem linek_ct {S' : Res} {us : List Value} {l : Line} {k : Key} {bk : Nat} (hl : lineR S' us l) : Reads Tryz.prog 191 #[.agg us.toArray, .pointer (some ⟨bk, 0, none⟩)] [pt bk (cl (kC k) 79), S] (.bool (l.key == k)) := by
  obtain ⟨av, rfl, _⟩ := hl
  refine ct_of (n := 8) Tryz.func191 rfl rfl (len rfl) fun hr w0 => ?_
  refine cS (cR (st_bx rfl rfl fun b2 => ?_))
  refine sV (vA rfl) (sN (nK [1, 2, 3] rfl (nT (cS (cR (sV (vF rfl fa120_0 rfl) (sV (v_ldn (vs := kC l.key) rfl ld79 rfl (rds_sub rds_pt rfl)) ?_)))))))
  refine sV (v_ldn (vs := kC k) rfl ld79 rfl rds_pt) ?_
  refine sV (v_eql_T eq79 rfl rfl) (sV (vA rfl) (sN (nK [3] rfl (nT (cT ?_)))))
  exact xt_rt rfl ⟨rfl, rfl⟩
set_option maxRecDepth 100000 in
theorem line_ct {b pb po pc n i : Nat} {jv lv pv hv dv : Value} {p : Proc} (hi : i < n) (hrd : Rds S pb (po + i * 9) (pC lv pv hv dv p)) (hL : Row S 5 (lineR S) lv p.lines) (hl : p.lines.length ≤ 1000000) (k : Key) :
    Reads Tryz.prog 188 #[yv b, .int .i64 i, .agg (kC k).toArray] [pt b (cl [jv, .slice (some ⟨pb, po, none⟩) n pc] 27), S] (lptr lv (p.line k)) := by
  unfold yv
  refine ct_of (n := 26) Tryz.func188 rfl rfl (len rfl) fun hr w0 => ?_
  refine cS (cR (st_bx rfl rfl fun b3 => ?_))
  refine st_bx rfl rfl fun b5 => ?_
  refine sV (vA rfl) (sN (nK [1, 3, 5, 6] rfl (nT (cS (cR (sV (vF rfl fa179_0 rfl) (sV (v_ldy rfl ld177) ?_)))))))
  refine sV (vN rfl) (sV (vF rfl fa27_1 rfl) (sV (v_ldy rfl ld25) ?_))
  refine sV (vM rfl) (sV (v_indexAddr (k := i) rfl rfl sl25 rfl hi rfl) (sV (vF rfl fa77_0 rfl) (sV (v_ldy rfl ld73) ?_)))
  refine sV (vA rfl) (sN (nK [5, 6, 7] rfl (nT (cS (cR (sV (vM rfl) (sV (v_makeFunc rfl rfl) (st_clr rfl rfl en184 rfl (reads_star (ix184_ct (X := lineR S) (g := fun l : Line => l.key == k) (S := Res.star [pt b5 (cl (kC k) 79), S]) (hL.mono (rd_in (.there .here)) fun _ _ _ h => h) hl en191 fun x hx us hus hX => reads_one (linek_ct hX))) ?_))))))))
  rw [ixF_line]
  cases hk : p.line k with
  | none =>
    refine sV (vA rfl) (sN (nK [6, 7, 8] rfl (nT (cS (cS (cR (sV (vM rfl) (sV (v_lss rfl rfl) (sN (nK [6, 7, 8, 22] rfl (nT (cd_true rfl ?_))))))))))))
    refine cS (cR (sV (vA rfl) (sN (nK [6, 7, 8] rfl (nT (cT (xR ?_)))))))
    exact xt_rt rfl ⟨rfl, rfl⟩
  | some j =>
    have hj : j < p.lines.length := by
      unfold Proc.line at hk
      exact (List.findIdx?_eq_some_iff_getElem.1 hk).1
    obtain ⟨lb, lo, lc, us, rfl, _⟩ := hL.at (List.getElem?_eq_getElem hj)
    refine sV (vA rfl) (sN (nK [6, 7, 8] rfl (nT (cS (cS (cR (sV (vM rfl) (sV (v_lss rfl rfl) (sN (nK [6, 7, 8, 22] rfl (nT (cC rfl (fun hd => ?_) (fun hd => ?_)))))))))))))
    · skip
      exact absurd hd (by simp)
    · skip
      refine cK (xT (cS (cR (sV (vM rfl) (sV (vM rfl) (sV (v_indexAddr (k := j) rfl rfl sl73 rfl hj rfl) (sV (vA rfl) (sN (nK [6] rfl (nT (cT ?_)))))))))))
      exact xt_rt rfl ⟨rfl, rfl⟩
set_option maxRecDepth 100000 in
theorem back1_ct {v : Value} {l : List Hold} {b1 yl : Nat} (Inv : SH) (Stop : Nat → SH → Prop) (g : Hold → Bool) (hv : Row S 4 (eqC holdC) v l) (hl : l.length ≤ 1000000)
    (hy : ∀ (i : Nat) (hi : i < l.length), Yc Tryz.prog yl #[.int .i64 i, .agg (holdC l[i]).toArray] Inv fun u h' => (u = .bool true ∧ g l[i] = false ∧ h' = Inv) ∨ (u = .bool false ∧ g l[i] = true ∧ Stop i h')) :
    Ct Tryz.prog 181 #[.func (.yield yl) #[] #[], .pointer (some ⟨b1, 0, none⟩)] (pt b1 (cl [v] 75) :: S :: Inv) fun u h' => u = .tuple #[] ∧ (((∀ (j : Nat) x, l[j]? = some x → g x = false) ∧ h' = pt b1 (cl [v] 75) :: S :: Inv) ∨ ∃ i, ∃ x, l[i]? = some x ∧ g x = true ∧ (∀ (j : Nat) y, i < j → l[j]? = some y → g y = false) ∧ ∃ k, Stop i k ∧ h' = pt b1 (cl [v] 75) :: S :: k) := by
  obtain ⟨ap, cp, hv1, _⟩ := id hv
  refine ct_of (n := 19) Tryz.func181 rfl rfl (len rfl) fun hr w0 => ?_
  refine cS (cR (sV (v_ldy rfl ld75) ?_))
  refine sV (v_len (congrArg some hv1) Tryz.underlying75) (sV (v_sub rfl rfl (by unfold I64 at *; omega)) (sV (vA rfl) (sN (nK [0, 1, 3] rfl (nT (cd_block (cd_lp (σ := Nat) (fun m => [(0, .func (.yield yl) #[] #[]), (1, .pointer (some ⟨b1, 0, none⟩)), (3, .int .i64 ((m : Nat) - 1))]) (fun m => pt b1 (cl [v] 75) :: S :: (Inv ++ hr)) (fun m => m ≤ l.length ∧ ∀ (j : Nat) y, m ≤ j → l[j]? = some y → g y = false) (fun m => m) l.length ⟨Nat.le_refl _, fun j y hj hh => by rw [List.getElem?_eq_none hj] at hh; cases hh⟩ ?_)))))))
  rintro m ⟨hm, hne⟩
  refine cS (cS (cR (sV (vM rfl) (sV (v_geq rfl rfl) (sN (nK [0, 1, 3, 8] rfl (nT (cC rfl (fun hd => ?_) (fun hd => ?_)))))))))
  · skip
    have hm1 : 1 ≤ m := by have := of_decide_eq_true hd; omega
    obtain ⟨m, rfl⟩ : ∃ m', m = m' + 1 := ⟨m - 1, by omega⟩
    have hlt : m < l.length := by omega
    obtain ⟨b, o, cp2, us, hv2, hus, hrd, rfl⟩ := hv.at (List.getElem?_eq_getElem hlt)
    have hcast : ((m + 1 : Nat) : Int) - 1 = (m : Nat) := by omega
    rw [hcast]
    refine cK (xT (cS (cd_block (cS (cR (sV (vM rfl) (sV (vM rfl) (sV (v_ldy rfl ld75) ?_))))))))
    refine sV (vM rfl) (sV (v_indexAddr (k := m) (congrArg some hv2) rfl sl75 rfl hlt rfl) (sV (v_ldn rfl ld161 hus hrd) ?_))
    refine st_yield (gd := 0) (.inl rfl) rfl rfl (hy m hlt) (Pk.of (hr := pt b1 (cl [v] 75) :: S :: hr) (by exact (List.perm_append_comm_assoc [pt b1 (cl [v] 75), S] Inv hr))) (ltn rfl) ?_
    rintro u h' (⟨rfl, h1, rfl⟩ | ⟨rfl, h1, h2⟩)
    · skip
      refine sV (v_not rfl) (sN (nK [0, 1, 3, 18] rfl (nT (cd_false rfl ?_))))
      refine cK (xB (xT (cR (sV (vM rfl) (sV (v_sub rfl rfl (by unfold I64 at *; omega)) (sV (vA rfl) (sN (nK [0, 1, 3] rfl (nx_xt (xt_pk (k := pt b1 (cl [v] 75) :: S :: (h' ++ hr)) (by exact (List.perm_append_comm_assoc h' [pt b1 (cl [v] 75), S] hr)) ?_))))))))))
      refine xt_ag m ⟨by omega, fun j y hj hh => ?_⟩ (Nat.lt_succ_self m)
      by_cases hjm : j = m
      · subst hjm; rw [List.getElem?_eq_getElem hlt] at hh; cases hh; exact h1
      · exact hne j y (by omega) hh
    · skip
      refine sV (v_not rfl) (sN (nK [0, 1, 3, 18] rfl (nT (cd_true rfl ?_))))
      refine cT (xt_ret_block (xR (xR (xt_ret_block (xt_pk (k := pt b1 (cl [v] 75) :: S :: (h' ++ hr)) (by exact (List.perm_append_comm_assoc h' [pt b1 (cl [v] 75), S] hr)) ?_)))))
      exact xt_rt rfl ⟨rfl, .inr ⟨m, l[m], List.getElem?_eq_getElem hlt, h1, fun j y hj hh => hne j y (by omega) hh, h', h2, rfl⟩⟩
  · skip
    refine cd_exit (xE (xE (xt_exit_block ?_)))
    have hm0 : m = 0 := by have := of_decide_eq_false hd; omega
    subst hm0
    exact xt_en rfl ⟨rfl, .inl ⟨fun j y hh => hne j y (Nat.zero_le _) hh, rfl⟩⟩
set_option maxRecDepth 100000 in
theorem back_ct {ap : Option Addr} {n cp : Nat} : Ct Tryz.prog 153 #[.slice ap n cp] [] fun u h' => ∃ b1, u = .func (.func 181) #[] #[.pointer (some ⟨b1, 0, none⟩)] ∧ h' = [pt b1 (cl [.slice ap n cp] 75)] := by
  refine ct_of (n := 4) Tryz.func153 rfl rfl (len rfl) fun hr w0 => ?_
  refine cS (cR (st_bx rfl rfl fun b1 => ?_))
  refine sV (vA rfl) (sN (nK [1, 2] rfl (nT (cS (cR (sV (v_makeFunc rfl rfl) (sV (vA rfl) (sN (nK [2] rfl (nT (cT ?_)))))))))))
  exact xt_rt rfl ⟨b1, rfl, rfl⟩
def holdV : Option Hold → Value
  | some h => .tuple #[.agg (holdC h).toArray, .bool true]
  | none => .tuple #[.agg (holdC (0, (0, 0), false)).toArray, .bool false]
theorem hold_none {p : Proc} {of : Int} (h : ∀ (j : Nat) x, p.holds[j]? = some x → (x.1 == of && !x.2.2) = false) : p.hold of = none := by
  unfold Proc.hold
  rw [List.find?_eq_none]
  intro x hx
  obtain ⟨j, hj, rfl⟩ := List.mem_iff_getElem.1 (List.mem_reverse.1 hx)
  rw [h j _ (List.getElem?_eq_getElem hj)]; simp
theorem find_last {α : Type} {g : α → Bool} : ∀ (l : List α) (i : Nat) (x : α), l[i]? = some x → g x = true → (∀ (j : Nat) y, i < j → l[j]? = some y → g y = false) → l.reverse.find? g = some x
  | [], i, x, h, _, _ => by simp at h
  | a :: t, i, x, h, h1, h2 => by
    rw [List.reverse_cons, List.find?_append]
    cases i with
    | zero =>
      simp at h; subst h
      have : t.reverse.find? g = none := by
        rw [List.find?_eq_none]
        intro y hy
        obtain ⟨j, hj, rfl⟩ := List.mem_iff_getElem.1 (List.mem_reverse.1 hy)
        rw [h2 (j + 1) t[j] (by omega) (by simp [List.getElem?_eq_getElem hj])]; simp
      rw [this]; simp [h1]
    | succ i =>
      rw [find_last t i x (by simpa using h) h1 fun j y hj hy => h2 (j + 1) y (by omega) (by simpa using hy)]; rfl
theorem hold_some {p : Proc} {of : Int} {i : Nat} {x : Hold} (h : p.holds[i]? = some x) (h1 : (x.1 == of && !x.2.2) = true) (h2 : ∀ (j : Nat) y, i < j → p.holds[j]? = some y → (y.1 == of && !y.2.2) = false) : p.hold of = some x := find_last p.holds i x h h1 h2
set_option maxRecDepth 100000 in
theorem hold_ct {b pb po pc n i : Nat} {jv lv pv hv dv : Value} {p : Proc} (hi : i < n) (hrd : Rds S pb (po + i * 9) (pC lv pv hv dv p)) (hH : Row S 4 (eqC holdC) hv p.holds) (hl : p.holds.length ≤ 1000000) (of : Int) :
    Reads Tryz.prog 125 #[yv b, .int .i64 i, .int .i64 of] [pt b (cl [jv, .slice (some ⟨pb, po, none⟩) n pc] 27), S] (holdV (p.hold of)) := by
  unfold yv
  obtain ⟨ha, hc, rfl, _⟩ := id hH
  refine ct_ofM (n := 35) Tryz.func125 rfl rfl (len rfl) fun hr w0 => ?_
  refine cS (cR (st_bx rfl rfl fun b3 => ?_))
  refine st_bx rfl rfl fun b5 => ?_
  refine st_alc al161 fun b6 => ?_
  refine st_alc al4 fun b7 => ?_
  refine sN (nK [1, 3, 5, 6, 7] rfl (nT (cS (cR (sV (vF rfl fa179_0 rfl) (sV (v_ldy rfl ld177) ?_))))))
  refine sV (vN rfl) (sV (vF rfl fa27_1 rfl) (sV (v_ldy rfl ld25) ?_))
  refine sV (vM rfl) (sV (v_indexAddr (k := i) rfl rfl sl25 rfl hi rfl) (sV (vF rfl fa77_5 rfl) (sV (v_ldy rfl ld75) ?_)))
  refine sV (vA rfl) (sN (nK [5, 6, 7, 8] rfl (nT (cS (cS (cR (sV (vM rfl) (st_cl rfl rfl en153 rfl (back_ct) ?_))))))))
  rintro u h' ⟨c1, rfl, rfl⟩
  refine sN (nK [5, 6, 7, 21] rfl (nT (cd_block ?_)))
  simp only [List.cons_append, List.nil_append]
  refine cd_range' rfl en181 fun yl db rec hst hpe hps has hbo hkn2 => ?_
  refine ⟨_, Ct.perm (back1_ct (S := S) (l := p.holds) (b1 := c1) (yl := yl) (pt yl (.loop rec) :: pt db (.deferred (some [])) :: pt b5 (cl [.int .i64 of] 3) :: pt b6 (cl (holdC (0, (0, 0), false)) 161) :: pt b7 (cl [.bool false] 4) :: pt b3 (cl [.pointer (some ⟨b, 0, none⟩)] 179) :: pt b (cl [jv, .slice (some ⟨pb, po, none⟩) n pc] 27) :: hr)
    (fun i h' => ∃ x rec', p.holds[i]? = some x ∧ h' = pt yl (.loop rec') :: pt db (.deferred (some [])) :: pt b5 (cl [.int .i64 of] 3) :: pt b6 (cl (holdC x) 161) :: pt b7 (cl [.bool true] 4) :: pt b3 (cl [.pointer (some ⟨b, 0, none⟩)] 179) :: pt b (cl [jv, .slice (some ⟨pb, po, none⟩) n pc] 27) :: hr ∧ rec'.state ≠ .busy ∧ rec'.pending = some .ret) (fun x => x.1 == of && !x.2.2) hH hl ?_) ?_, ?_⟩
  · intro j hj
    have hx := List.getElem?_eq_getElem hj
    generalize p.holds[j] = x at hx ⊢
    refine Yc.perm (yc_of (n := 35) (rec := rec) (args := [.int .i64 j, .agg (holdC x).toArray]) (hf := pt db (.deferred (some [])) :: pt b5 (cl [.int .i64 of] 3) :: pt b6 (cl (holdC (0, (0, 0), false)) 161) :: pt b7 (cl [.bool false] 4) :: pt b3 (cl [.pointer (some ⟨b, 0, none⟩)] 179) :: pt b (cl [jv, .slice (some ⟨pb, po, none⟩) n pc] 27) :: hr) (by rw [hps]; rfl) hkn2 (by rw [hps]; decide) ?_) (List.Perm.refl _)
    intro hr2 w1
    rw [has, hps, hbo]
    simp only [List.cons_append, List.nil_append]
    refine cR (st_alc al161 fun b10 => ?_)
    refine st_stoW rfl rfl sz161 rfl rfl ?_
    refine sN (nK [5, 6, 7, 10] rfl (nx_xt (xt_mid rfl (by repeat (first | exact Sel.here | apply Sel.there)) (by first | rfl | assumption) ?_)))
    refine cd_block (cS (cR (sV (vF rfl fa161_0 rfl) (sV (v_ldy rfl ld3) ?_))))
    refine sV (v_ldy rfl ld3) ?_
    refine sV (v_eql rfl rfl) (sV (vM rfl) (st_cut (k := 9) (d := 32) (v := .bool (x.1 == of && !x.2.2)) (fun hcut => bool_want (b := (x.1 == of)) true (fun hg => ?_) (fun hg => ?_)) ?_))
    · refine st_sk rfl rfl hg ?_
      refine st_sk rfl rfl hg ?_
      refine st_sk rfl rfl hg ?_
      refine sV (vP (bool_ev rfl hg) rfl) ?_
      exact hcut _ (ssub_head (by first | rfl | (rw [hg]; rfl) | simp_all) (uS rfl (uS rfl (uS rfl (ssub_refl)))))
    · skip
      refine st_vg rfl (bG rfl hg) (vF rfl fa161_2 rfl) (st_vg rfl (bG rfl hg) (v_ldy rfl ld4) ?_)
      refine st_vg rfl (bG rfl hg) (v_not rfl) (sV (v_pick_true (bool_ev rfl hg) rfl) ?_)
      exact hcut _ (ssub_head (by first | rfl | (rw [hg]; rfl) | simp_all) (uS rfl (uS rfl (uS rfl (ssub_refl)))))
    refine sN (nK [6, 7, 10, 32] rfl (nT (cC rfl (fun hg => ?_) (fun hg => ?_))))
    · skip
      refine cS (cR (sV (v_ldn rfl ld161 rfl rds_pt) ?_))
      refine st_stoW rfl rfl sz161 rfl rfl ?_
      refine st_sto rfl rfl sz4 ?_
      refine sN (nK [6, 7] rfl (nT (cT (xt_ret_block (xt_round_ret (by repeat (first | exact Sel.here | apply Sel.there)) (.inr ⟨rfl, hg, x, { ({ rec with state := .busy } : Loop) with state := .done, pending := some .ret }, hx, rfl, ?_, rfl⟩) ?_)))))
      · simp
      · exact (by repeat (first | exact Sub.refl _ | exact Sub.nil _ | refine Sub.sel (by repeat (first | exact Sel.here | apply Sel.there)) ?_ | apply Sub.cons))
    · skip
      refine cK (xB (xt_round (by repeat (first | exact Sel.here | apply Sel.there)) (.inl ⟨rfl, hg, rfl⟩) ?_))
      rw [rec_back hst hpe]
      exact (by repeat (first | exact Sub.refl _ | exact Sub.nil _ | refine Sub.sel (by repeat (first | exact Sel.here | apply Sel.there)) ?_ | apply Sub.cons))
  · exact (by repeat (first | exact Pm.refl | refine Pm.cons (by repeat (first | exact Sel.here | apply Sel.there)) ?_) : Pm _ _).perm
  · rintro u h' ⟨rfl, (⟨h1, rfl⟩ | ⟨j, x, hx, hg, hlater, _, ⟨x', rec', hx', rfl, h2, h3⟩, rfl⟩)⟩
    · rw [hold_none h1]
      refine ⟨rec, _, (by repeat (first | exact Sel.here | apply Sel.there)), (by rw [hst]; simp), ?_⟩
      rw [hpe]
      dsimp only
      refine xB (xT (cS (cR (sV (v_build (cells := holdC (0, (0, 0), false)) rfl (fun _ => by kernel_rfl)) ?_))))
      refine st_stoW rfl rfl sz161 rfl rfl ?_
      refine st_sto rfl rfl sz4 ?_
      refine sN (nK [6, 7] rfl (nT (cT (xt_retMV (bs := [db]) (k := pt b6 (cl (holdC (0, (0, 0), false)) 161) :: pt b7 (cl [.bool false] 4) :: ([pt b (cl [jv, .slice (some ⟨pb, po, none⟩) n pc] 27), S] ++ hr)) rfl (.cellN rfl ld161 rfl (by repeat (first | exact Sel.here | apply Sel.there)) (.cell1 rfl ld4 (at_there (at_here (rd_cl rfl))) .nil)) ⟨rfl, rfl⟩ ?_ ?_))))
      · exact Sub.cons (Sub.cons (Sub.refl _))
      · unfold marks
        simp only [List.cons_append, List.nil_append, List.map_cons, List.map_nil]
        exact (by repeat (first | exact Sub.refl _ | exact Sub.nil _ | refine Sub.sel (by repeat (first | exact Sel.here | apply Sel.there)) ?_ | apply Sub.cons))
    · rw [hx] at hx'
      cases hx'
      rw [hold_some hx hg hlater]
      refine ⟨rec', _, (by repeat (first | exact Sel.here | apply Sel.there)), h2, ?_⟩
      rw [h3]
      dsimp only
      refine cT (xt_ret_block (xR (xt_retMV (bs := [db]) (k := pt b6 (cl (holdC x) 161) :: pt b7 (cl [.bool true] 4) :: ([pt b (cl [jv, .slice (some ⟨pb, po, none⟩) n pc] 27), S] ++ hr)) rfl (.cellN rfl ld161 rfl (by repeat (first | exact Sel.here | apply Sel.there)) (.cell1 rfl ld4 (at_there (at_here (rd_cl rfl))) .nil)) ⟨rfl, rfl⟩ ?_ ?_)))
      · exact Sub.cons (Sub.cons (Sub.refl _))
      · unfold marks
        simp only [List.cons_append, List.nil_append, List.map_cons, List.map_nil]
        exact (by repeat (first | exact Sub.refl _ | exact Sub.nil _ | refine Sub.sel (by repeat (first | exact Sel.here | apply Sel.there)) ?_ | apply Sub.cons))
end
end Go.Wt
