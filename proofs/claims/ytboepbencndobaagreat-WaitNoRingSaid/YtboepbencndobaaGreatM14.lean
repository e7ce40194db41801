/-
  WaitNoRing: the jobs that are made. Conditions: what is read.
-/
import Derived.Test.YtboepbencndobaaGreatM13
import Derived.Test.YtboepbencndobaaGreatM12
import Derived.Test.YtboepbencndobaaGreatM2
set_option linter.unusedVariables false
set_option linter.unusedSimpArgs false
namespace Go.Wt
open Go Go.Ck Go.Proofs Go.Proofs.YtboepbencndobaaGreat Fx
attribute [local irreducible] Go.Ck.Sub St Cd Xt Nx DrL LsW
def itemR (us : List Value) (x : Item) : Prop := us = itemC x ∧ x.1 < 256 ∧ x.2.1 < 256
def itemsR (S : Res) (us : List Value) (l : List Item) : Prop := ∃ v, us = [v] ∧ Row S 3 itemR v l
theorem items_of {r : Res} {v : Value} {y : (Ty.slice (.slice itemTy)).D} (h : Rep r (.slice (.slice itemTy)) [v] y) : Row r 1 (itemsR r) v ((show List (Ty.slice itemTy).D from y).map fun l => (show List itemTy.D from l).map itemOf) :=
  row_of (t := .slice itemTy) (fun l => (show List itemTy.D from l).map itemOf) (itemsR r) (fun us x h => by
    obtain ⟨a, rfl⟩ := one_cell (rep_len (t := itemTy) h)
    exact ⟨a, rfl, row_of itemOf itemR (fun us x h => item_of h) h⟩) h
def partA (kd s a : Nat) : List Move := match kd % 4 with
  | 0 => [(1, (s : Int), 0), (3, (s : Int), (a : Int)), (2, 0, 0)]
  | 1 => [(1, (s : Int), 0), (3, (s : Int), (a : Int)), (4, (s : Int), (a : Int)), (2, 0, 0)]
  | 2 => [(1, (s : Int), 0), (4, (s : Int), (a : Int)), (3, (s : Int), (a : Int)), (2, 0, 0)]
  | _ => [(5, (s : Int), (a : Int))]
theorem partE_eq (n L i : Nat) (x : Item) : partE n L i x = if (x.2.1 % L) % n ≤ i % n then [] else partA x.1 ((x.2.1 % L) % n) (x.2.1 % L) := rfl
theorem jobE_snoc (n L i : Nat) (l : List Item) (x : Item) : jobE n L i (l ++ [x]) = jobE n L i l ++ partE n L i x := by unfold jobE; rw [List.flatMap_append]; simp
theorem tmod_nat {a k : Nat} : ((a : Int)).tmod (k : Int) = ((a % k : Nat) : Int) := by
  rw [Int.tmod_eq_emod_of_nonneg (by omega)]; omega
theorem wrap_nat {a : Nat} (h : a < 256) : IntKind.i64.wrap (a : Int) = a := wrap_small ⟨by omega, by omega⟩
section
variable {Q : Exit → Act → World → Prop} {w0 : World} {hr : SH} {S : Res} {av w5 w13 w14 w15 lv : Value} {L n i : Nat} {l : List Item}
set_option maxHeartbeats 4000000 in
set_option maxRecDepth 100000 in
theorem job_c (hl : Row S 3 itemR lv l) (hll : l.length ≤ 3) (hn : 0 < n ∧ n ≤ 12) (hL : 0 < L ∧ L ≤ 8) (hi : i < 8) {aa : Option Addr} {ac : Nat} (hav : av = .slice aa L ac)
    (hcont : ∀ v, v.oneCell' = true → Xt ⟨Tryz.prog, none, 95, [], w0⟩ .normal Q [(0, av), (1, .int .i64 n), (5, w5), (8, v), (13, w13), (14, w14), (15, w15)] (VR v 110 3 ((jobE n L i l).map mC) :: S :: hr)) :
    Cd ⟨Tryz.prog, none, 95, [], w0⟩ (cdr (cdl (cdr (cdr (cdl (cdl (cdr (cdr (cdl (cdl (cdr (cdl (cdr (cdr (fbody Tryz.f30))))))))))))))) Q [(0, av), (1, .int .i64 n), (5, w5), (6, .int .i64 (i : Nat)), (8, .slice none 0 0), (13, w13), (14, w14), (15, w15), (20, lv), (21, .int .i64 l.length), (22, .int .i64 0)] (S :: hr) := by
  subst hav
  refine cd_vw (vw_nil 110 3) (cd_block (cd_lq (σ := Nat × Value) (fun s => [(0, .slice aa L ac), (1, .int .i64 n), (5, w5), (6, .int .i64 (i : Nat)), (8, s.2), (13, w13), (14, w14), (15, w15), (20, lv), (21, .int .i64 l.length), (22, .int .i64 (s.1 : Nat))]) (fun s => VR s.2 110 3 ((jobE n L i (l.take s.1)).map mC) :: S :: hr) (fun s => s.1 ≤ l.length ∧ s.2.oneCell' = true) (fun s => l.length - s.1) (0, .slice none 0 0) ⟨Nat.zero_le _, rfl⟩ ?_))
  rintro ⟨k, v⟩ ⟨hk, hv⟩
  simp only at hk hv
  dsimp only
  refine cS (cR (sV (v_lss rfl rfl) (sN (nT (cS (cC rfl (fun h1 => ?_) (fun h1 => ?_)))))))
  · skip
    have hkl : k < l.length := by have := of_decide_eq_true h1; omega
    obtain ⟨c1, c2, c3, cus, hcv, hcus, hcrd, hcu, hx1, hx2⟩ := hl.at (List.getElem?_eq_getElem hkl)
    subst hcu
    have hsucc : jobE n L i (l.take (k + 1)) = jobE n L i (l.take k) ++ partE n L i l[k] := by rw [List.take_succ_eq_append_getElem hkl, jobE_snoc]
    have hjl : (jobE n L i (l.take k)).length ≤ 12 := by
      have := job_len (n := n) (L := L) (i := i) (l.take k)
      rw [List.length_take] at this
      omega
    generalize l[k] = x at *
    obtain ⟨xk, xa, xb⟩ := x
    simp only at hx1 hx2
    have ha1 : ((xa : Int)).tmod (L : Int) = ((xa % L : Nat) : Int) := tmod_nat
    have ha2 : (((xa % L : Nat)) : Int).tmod (n : Int) = (((xa % L) % n : Nat) : Int) := tmod_nat
    have ha3 : ((i : Int)).tmod (n : Int) = ((i % n : Nat) : Int) := tmod_nat
    have hpart := partE_eq n L i (xk, xa, xb)
    simp only at hpart
    generalize (xa % L) % n = s at *
    generalize xa % L = a at *
    refine cK (xT (cS (cd_block (cS (cR (sV (v_indexAddr (k := k) (congrArg some hcv) rfl sl65 rfl hkl rfl) (sV (v_ldn rfl ld140 hcus hcrd) ?_)))))))
    refine st_alc al140 fun b10 => ?_
    refine st_stoW rfl rfl sz140 rfl rfl ?_
    refine sN (nK [0, 1, 5, 6, 8, 10, 13, 14, 15, 20, 21, 22] rfl (nT (cS (cR (sV (vF rfl fa140_1 rfl) (sV (v_ldy rfl ld5) ?_))))))
    refine sV (v_conv rfl Tryz.underlying5 Tryz.underlying3 (wrap_nat hx2)) (sV (vM rfl) (sV (v_len rfl Tryz.underlying64) (sV (v_is (congrArg (Value.int .i64) ha1) (v_remu rfl rfl (by omega))) (sV (vA rfl) (sN (nK [0, 1, 5, 6, 8, 10, 11, 13, 14, 15, 20, 21, 22] rfl (nT (cS (cR (sV (vM rfl) (sV (vM rfl) (sV (v_is (congrArg (Value.int .i64) ha2) (v_remu rfl rfl (by omega))) (sV (vA rfl) (sN (nK [0, 1, 5, 6, 8, 10, 11, 12, 13, 14, 15, 20, 21, 22] rfl (nT (cS ?_)))))))))))))))))
    refine cS (cR (sV (vM rfl) (sV (vM rfl) (sV (vM rfl) (sV (v_is (congrArg (Value.int .i64) ha3) (v_remu rfl rfl (by omega))) (sV (v_leq rfl rfl) (sN (nK [0, 1, 5, 6, 8, 10, 11, 12, 13, 14, 15, 20, 21, 22, 39] rfl (nT (cC rfl (fun h2 => ?_) (fun h2 => ?_)))))))))))
    · skip
      have hle : s ≤ i % n := by have := of_decide_eq_true h2; omega
      rw [if_pos hle] at hpart
      rw [hpart, List.append_nil] at hsucc
      refine cd_exit (xE (xt_exit_block (xT (cR (sV (v_add rfl rfl (by unfold I64 at *; omega)) (sV (vM rfl) (sN (nK [0, 1, 5, 6, 8, 13, 14, 15, 20, 21, 22] rfl (nx_xt (xt_pv (pv_eq (show VR v 110 3 ((jobE n L i (l.take k)).map mC) = VR v 110 3 ((jobE n L i (l.take (k + 1))).map mC) by rw [hsucc])) ?_))))))))))
      simp only [List.cons_append, List.nil_append]
      refine xt_aq (k + 1, v) ⟨hkl, hv⟩ (by show _ - _ < _ - _; omega)
    · skip
      have hle : ¬ s ≤ i % n := by have := of_decide_eq_false h2; omega
      rw [if_neg hle] at hpart
      rw [hpart] at hsucc
      refine cK (xT (cS (cR (sV (vF rfl fa140_0 rfl) (sV (v_ldy rfl ld5) ?_)))))
      refine sV (v_is (congrArg (Value.int .u8) (tmod_nat (a := xk) (k := 4))) (v_remu rfl rfl (by decide))) ?_
      refine sN (nK [0, 1, 5, 6, 8, 11, 12, 13, 14, 15, 20, 21, 22, 42] rfl (nT (cd_block (cS (cR (sV (v_eql rfl rfl) (sV (vA rfl) (sN (nK [0, 1, 5, 6, 8, 11, 12, 13, 14, 15, 20, 21, 22, 42, 49] rfl (nT (cC rfl (fun q0 => ?_) (fun q0 => ?_))))))))))))
      · skip
        have hp0 : partA xk s a = [(1, (s : Int), 0), (3, (s : Int), (a : Int)), (2, 0, 0)] := by
          have : xk % 4 = 0 := by have := beq_iff_eq.1 q0; omega
          unfold partA; rw [this]; rfl
        refine cR (sV (vM rfl) (sV (vM rfl) (st_clr rfl rfl en48 rfl (menter_ct (s : Int)) ?_)))
        refine sV (vM rfl) (sV (vM rfl) (st_clr rfl rfl en49 rfl (mput_ct (s : Int) (a : Int)) ?_))
        refine st_clr rfl rfl en51 rfl (mleave_ct ()) ?_
        refine st_buildSlice (cells := mC (1, (s : Int), 0) ++ mC (3, (s : Int), (a : Int)) ++ mC (2, 0, 0)) rfl Tryz.underlying108 inf110 rfl rfl (by kernel_rfl) (ltn rfl) fun b58 => ?_
        refine st_app (v := v) [mC (1, (s : Int), 0), mC (3, (s : Int), (a : Int)), mC (2, 0, 0)] rfl rfl Tryz.underlying108 inf110 rfl (by decide) (by repeat (first | exact Sel.here | apply Sel.there)) (by simp [mC]) rfl (fun j u2 hu2 => at_here (rd_cl (by simpa using hu2))) (by simp [mC, Value.oneCell']) (by simp; omega) (by simp; omega) (ltn rfl) fun v' hv' _ => ?_
        refine sV (vA rfl) (sN (nK [0, 1, 5, 6, 8, 13, 14, 15, 20, 21, 22] rfl (nx_xt (xB (xB (xT (cR (sV (v_add rfl rfl (by unfold I64 at *; omega)) (sV (vM rfl) (sN (nK [0, 1, 5, 6, 8, 13, 14, 15, 20, 21, 22] rfl (nx_xt (xt_pv (pv_eq (show VR v' 110 3 ((jobE n L i (l.take k)).map mC ++ [mC (1, (s : Int), 0), mC (3, (s : Int), (a : Int)), mC (2, 0, 0)]) = VR v' 110 3 ((jobE n L i (l.take (k + 1))).map mC) by rw [hsucc, hp0, List.map_append]; rfl)) ?_)))))))))))))
        simp only [List.cons_append, List.nil_append]
        refine xt_aq (k + 1, v') ⟨hkl, hv'⟩ (by show _ - _ < _ - _; omega)
      · skip
        have n0 : xk % 4 ≠ 0 := fun h => by rw [h] at q0; simp at q0
        refine cS (cR (sV (v_eql rfl rfl) (sV (vA rfl) (sN (nK [0, 1, 5, 6, 8, 11, 12, 13, 14, 15, 20, 21, 22, 42, 60] rfl (nT (cC rfl (fun q1 => ?_) (fun q1 => ?_))))))))
        · skip
          have hp1 : partA xk s a = [(1, (s : Int), 0), (3, (s : Int), (a : Int)), (4, (s : Int), (a : Int)), (2, 0, 0)] := by
            have : xk % 4 = 1 := by have := beq_iff_eq.1 q1; omega
            unfold partA; rw [this]; rfl
          refine cR (sV (vM rfl) (sV (vM rfl) (st_clr rfl rfl en48 rfl (menter_ct (s : Int)) ?_)))
          refine sV (vM rfl) (sV (vM rfl) (st_clr rfl rfl en49 rfl (mput_ct (s : Int) (a : Int)) ?_))
          refine sV (vM rfl) (sV (vM rfl) (st_clr rfl rfl en50 rfl (mask_ct (s : Int) (a : Int)) ?_))
          refine st_clr rfl rfl en51 rfl (mleave_ct ()) ?_
          refine st_buildSlice (cells := mC (1, (s : Int), 0) ++ mC (3, (s : Int), (a : Int)) ++ mC (4, (s : Int), (a : Int)) ++ mC (2, 0, 0)) rfl Tryz.underlying108 inf110 rfl rfl (by kernel_rfl) (ltn rfl) fun b72 => ?_
          refine st_app (v := v) [mC (1, (s : Int), 0), mC (3, (s : Int), (a : Int)), mC (4, (s : Int), (a : Int)), mC (2, 0, 0)] rfl rfl Tryz.underlying108 inf110 rfl (by decide) (by repeat (first | exact Sel.here | apply Sel.there)) (by simp [mC]) rfl (fun j u2 hu2 => at_here (rd_cl (by simpa using hu2))) (by simp [mC, Value.oneCell']) (by simp; omega) (by simp; omega) (ltn rfl) fun v' hv' _ => ?_
          refine sV (vA rfl) (sN (nK [0, 1, 5, 6, 8, 13, 14, 15, 20, 21, 22] rfl (nx_xt (xB (xB (xT (cR (sV (v_add rfl rfl (by unfold I64 at *; omega)) (sV (vM rfl) (sN (nK [0, 1, 5, 6, 8, 13, 14, 15, 20, 21, 22] rfl (nx_xt (xt_pv (pv_eq (show VR v' 110 3 ((jobE n L i (l.take k)).map mC ++ [mC (1, (s : Int), 0), mC (3, (s : Int), (a : Int)), mC (4, (s : Int), (a : Int)), mC (2, 0, 0)]) = VR v' 110 3 ((jobE n L i (l.take (k + 1))).map mC) by rw [hsucc, hp1, List.map_append]; rfl)) ?_)))))))))))))
          simp only [List.cons_append, List.nil_append]
          refine xt_aq (k + 1, v') ⟨hkl, hv'⟩ (by show _ - _ < _ - _; omega)
        · skip
          have n1 : xk % 4 ≠ 1 := fun h => by rw [h] at q1; simp at q1
          refine cS (cR (sV (v_eql rfl rfl) (sV (vA rfl) (sN (nK [0, 1, 5, 6, 8, 11, 12, 13, 14, 15, 20, 21, 22, 74] rfl (nT (cC rfl (fun q2 => ?_) (fun q2 => ?_))))))))
          · skip
            have hp2 : partA xk s a = [(1, (s : Int), 0), (4, (s : Int), (a : Int)), (3, (s : Int), (a : Int)), (2, 0, 0)] := by
              have : xk % 4 = 2 := by have := beq_iff_eq.1 q2; omega
              unfold partA; rw [this]; rfl
            refine cR (sV (vM rfl) (sV (vM rfl) (st_clr rfl rfl en48 rfl (menter_ct (s : Int)) ?_)))
            refine sV (vM rfl) (sV (vM rfl) (st_clr rfl rfl en50 rfl (mask_ct (s : Int) (a : Int)) ?_))
            refine sV (vM rfl) (sV (vM rfl) (st_clr rfl rfl en49 rfl (mput_ct (s : Int) (a : Int)) ?_))
            refine st_clr rfl rfl en51 rfl (mleave_ct ()) ?_
            refine st_buildSlice (cells := mC (1, (s : Int), 0) ++ mC (4, (s : Int), (a : Int)) ++ mC (3, (s : Int), (a : Int)) ++ mC (2, 0, 0)) rfl Tryz.underlying108 inf110 rfl rfl (by kernel_rfl) (ltn rfl) fun b86 => ?_
            refine st_app (v := v) [mC (1, (s : Int), 0), mC (4, (s : Int), (a : Int)), mC (3, (s : Int), (a : Int)), mC (2, 0, 0)] rfl rfl Tryz.underlying108 inf110 rfl (by decide) (by repeat (first | exact Sel.here | apply Sel.there)) (by simp [mC]) rfl (fun j u2 hu2 => at_here (rd_cl (by simpa using hu2))) (by simp [mC, Value.oneCell']) (by simp; omega) (by simp; omega) (ltn rfl) fun v' hv' _ => ?_
            refine sV (vA rfl) (sN (nK [0, 1, 5, 6, 8, 13, 14, 15, 20, 21, 22] rfl (nx_xt (xB (xB (xT (cR (sV (v_add rfl rfl (by unfold I64 at *; omega)) (sV (vM rfl) (sN (nK [0, 1, 5, 6, 8, 13, 14, 15, 20, 21, 22] rfl (nx_xt (xt_pv (pv_eq (show VR v' 110 3 ((jobE n L i (l.take k)).map mC ++ [mC (1, (s : Int), 0), mC (4, (s : Int), (a : Int)), mC (3, (s : Int), (a : Int)), mC (2, 0, 0)]) = VR v' 110 3 ((jobE n L i (l.take (k + 1))).map mC) by rw [hsucc, hp2, List.map_append]; rfl)) ?_)))))))))))))
            simp only [List.cons_append, List.nil_append]
            refine xt_aq (k + 1, v') ⟨hkl, hv'⟩ (by show _ - _ < _ - _; omega)
          · skip
            have n2 : xk % 4 ≠ 2 := fun h => by rw [h] at q2; simp at q2
            have hp3 : partA xk s a = [(5, (s : Int), (a : Int))] := by
              have : xk % 4 = 3 := by omega
              unfold partA; rw [this]; rfl
            refine cR (sV (vM rfl) (sV (vM rfl) (sV (vM rfl) (st_clr rfl rfl en53 rfl (mspawn_ct (s : Int) (a : Int)) ?_))))
            refine st_buildSlice (cells := mC (5, (s : Int), (a : Int))) rfl Tryz.underlying108 inf110 rfl rfl (by kernel_rfl) (ltn rfl) fun b47 => ?_
            refine st_app (v := v) [mC (5, (s : Int), (a : Int))] rfl rfl Tryz.underlying108 inf110 rfl (by decide) (by repeat (first | exact Sel.here | apply Sel.there)) (by simp [mC]) rfl (fun j u2 hu2 => at_here (rd_cl (by simpa using hu2))) (by simp [mC, Value.oneCell']) (by simp; omega) (by simp; omega) (ltn rfl) fun v' hv' _ => ?_
            refine sV (vA rfl) (sN (nK [0, 1, 5, 6, 8, 13, 14, 15, 20, 21, 22] rfl (nx_xt (xB (xB (xT (cR (sV (v_add rfl rfl (by unfold I64 at *; omega)) (sV (vM rfl) (sN (nK [0, 1, 5, 6, 8, 13, 14, 15, 20, 21, 22] rfl (nx_xt (xt_pv (pv_eq (show VR v' 110 3 ((jobE n L i (l.take k)).map mC ++ [mC (5, (s : Int), (a : Int))]) = VR v' 110 3 ((jobE n L i (l.take (k + 1))).map mC) by rw [hsucc, hp3, List.map_append]; rfl)) ?_)))))))))))))
            simp only [List.cons_append, List.nil_append]
            refine xt_aq (k + 1, v') ⟨hkl, hv'⟩ (by show _ - _ < _ - _; omega)
  · skip
    have hkl : k = l.length := by have : ¬ ((k : Nat) : Int) < (l.length : Int) := of_decide_eq_false h1
                                  omega
    subst hkl
    refine cd_exit (xE (xE (xt_exit_block ?_)))
    have := hcont v hv
    rw [List.take_length]
    exact xt_use this
end
end Go.Wt
