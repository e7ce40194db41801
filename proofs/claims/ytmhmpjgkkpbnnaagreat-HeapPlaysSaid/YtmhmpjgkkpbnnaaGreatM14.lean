/-
  The law HeapPlays, walked. Conditions: what the heap holds.
  HeapPlays: for every input the law answers true, and the input reads as it did. No condition.
-/
import Derived.Test.YtmhmpjgkkpbnnaaGreatM13
import Derived.Test.YtmhmpjgkkpbnnaaGreatM10
import Derived.Test.YtmhmpjgkkpbnnaaGreatRows
import Derived.Test.YtmhmpjgkkpbnnaaGreatM11
namespace Go.Proofs.YtmhmpjgkkpbnnaaGreat
open Go.Ck Fx Go.Hm Go.Hm.AM
attribute [local irreducible] St Cd Xt Nx DrL LsW
section
variable {R : Res} {v0 v1 v2 v4 : Value} {sh : List (List Bool)} {xs : List Go.Hm.Act} {half young n : Int} {l1 l2 : List Int}
set_option maxRecDepth 100000 in
set_option maxRecDepth 100000 in
theorem sameErrs_ct (h1 : RowI R v1 l1) (h2 : RowI R v2 l2) (hl : l1.length ≤ 1000000) : Reads Tryz.prog 12 #[v1, v2] [R] (.bool (l1 == l2)) := by
  obtain ⟨a1, cp1, hv1, _⟩ := id h1
  obtain ⟨a2, cp2, hv2, _⟩ := id h2
  refine ct_of (n := 26) Tryz.func12 rfl rfl (len rfl) fun hr w0 => ?_
  refine cS (cR (sV (vA rfl) (sN (nT (cS (cS (cR (sV (vM rfl) (sV (v_len (congrArg some hv1) Tryz.underlying28) (sV (vM rfl) (sV (v_len (congrArg some hv2) Tryz.underlying28) (sV (v_neq rfl rfl) (sN (nK [0, 1, 4, 10] rfl (nT (cC rfl (fun hc => ?_) (fun hc => ?_)))))))))))))))))
  · skip
    have hne : l1 ≠ l2 := fun e => by rw [e] at hc; simp at hc
    rw [beq_eq_false_iff_ne.2 hne]
    refine cS (cR (sV (vA rfl) (sN (nK [0, 1, 4] rfl (nT (cT (xR ?_)))))))
    exact xt_rt rfl ⟨rfl, rfl⟩ (by (repeat (refine Sub.sel (by repeat (first | exact Sel.here | apply Sel.there)) ?_)); (repeat apply Sub.cons); first | exact Sub.refl _ | exact Sub.nil _)
  · skip
    have hlen : l1.length = l2.length := by simp at hc; omega
    refine cK (xT (cS (cS (cR (sV (vA rfl) (sN (nK [0, 1, 4, 5] rfl (nT (cd_block (cd_loop (σ := Nat) (fun i => [(0, v1), (1, v2), (5, .int .i64 (i : Nat))]) (fun _ => R :: hr) (fun i => i ≤ l1.length ∧ l1.take i = l2.take i) (fun i => l1.length - i) 0 ⟨Nat.zero_le _, rfl⟩ ⟨rfl, rfl, rfl, trivial⟩ (Sub.refl _) ?_))))))))))
    rintro i ⟨hi, heq⟩
    refine cS (cS (cR (sV (vM rfl) (sV (vM rfl) (sV (v_len (congrArg some hv1) Tryz.underlying28) (sV (v_lss rfl rfl) (sN (nK [0, 1, 5, 14] rfl (nT (cC rfl (fun hd => ?_) (fun hd => ?_)))))))))))
    · skip
      have hlt : i < l1.length := by simpa using hd
      have hlt2 : i < l2.length := by omega
      obtain ⟨b1, o1, c1, hw1, hrd1⟩ := h1.at hlt
      obtain ⟨b2, o2, c2, hw2, hrd2⟩ := h2.at hlt2
      refine cK (xT (cS (cd_block (cS (cd_drawh (ork [(0, 2), (1, 2), (2, 2), (3, 1), (4, 2), (5, 2), (6, 2), (7, 1), (8, 2)] .nil) (fun _ => true) mixed (by kernel_rfl) ?_)))))
      refine dV rfl (vM rfl) (dV rfl (vM rfl) (dV rfl (v_ixo i (congrArg some hw1) rfl sl28 rfl hlt) (dr_v rfl (vL rfl ld29) ?_)))
      refine dV rfl (vM rfl) (dV rfl (vM rfl) (dV rfl (v_ixo i (congrArg some hw2) rfl sl28 rfl hlt2) (dr_v rfl (vL rfl ld29) ?_)))
      refine dV rfl (v_neq rfl rfl) (dr_nil (nK [0, 1, 5, 25] rfl (nT (cC rfl (fun he => ?_) (fun he => ?_)))))
      · skip
        have hne : l1 ≠ l2 := fun e => by subst e; simp at he
        rw [beq_eq_false_iff_ne.2 hne]
        refine cS (cR (sV (vA rfl) (sN (nK [0, 1, 4, 5] rfl (nT (cT (xt_ret_block (xR (xR (xt_ret_block (xR ?_)))))))))))
        exact xt_rt rfl ⟨rfl, rfl⟩ (by (repeat (refine Sub.sel (by repeat (first | exact Sel.here | apply Sel.there)) ?_)); (repeat apply Sub.cons); first | exact Sub.refl _ | exact Sub.nil _)
      · skip
        have he' : l1[i] = l2[i] := by simpa using he
        refine cK (xB (xT (cR (sV (vM rfl) (sV (v_add rfl rfl (by unfold I64 at *; omega)) (sV (vA rfl) (sN (nK [0, 1, 5] rfl (nx_xt (xt_ag (i + 1) ⟨hlt, by rw [List.take_succ_eq_append_getElem hlt, List.take_succ_eq_append_getElem hlt2, heq, he']⟩ (by omega) (by repeat (first | exact trivial | refine ⟨rfl, ?_⟩)) ?_))))))))))
        exact (by (repeat (refine Sub.sel (by repeat (first | exact Sel.here | apply Sel.there)) ?_)); (repeat apply Sub.cons); first | exact Sub.refl _ | exact Sub.nil _)
    · skip
      have hge : l1.length ≤ i := by simpa using hd
      have heq' : l1 = l2 := by rw [List.take_of_length_le hge, List.take_of_length_le (by omega)] at heq; exact heq
      rw [heq', beq_self_eq_true]
      refine cd_exit (xE (xE (xt_exit_block (xT (cS (cR (sV (vA rfl) (sN (nK [4] rfl (nT (cT ?_)))))))))))
      exact xt_rt rfl ⟨rfl, rfl⟩ (by (repeat (refine Sub.sel (by repeat (first | exact Sel.here | apply Sel.there)) ?_)); (repeat apply Sub.cons); first | exact Sub.refl _ | exact Sub.nil _)
set_option maxRecDepth 100000 in
theorem sameErrs2_ct {R1 R2 : Res} (h1 : RowI R1 v1 l1) (h2 : RowI R2 v2 l2) (hl : l1.length ≤ 1000000) : Reads Tryz.prog 12 #[v1, v2] [R1, R2] (.bool (l1 == l2)) :=
  Reads.unstar (sameErrs_ct (RowI.star .here h1) (RowI.star (.there .here) h2) hl)
end
section
variable {L : RL} {m : AM} {S R : Res} {rv : Value} {ly ln lf : List Int} {φ : Int → Option Nat} {A : Store} {r : List Int}
theorem rpicture2 (hS : Shp S L.vs m.sh) (h : AM.Good m ly ln lf φ A) (hv : RowI R rv r) (hrl : r.length ≤ 1000000) :
    Ct Tryz.prog 9 #[.pointer (some ⟨L.hb, 0, none⟩), rv] [hR L m, wR L m, eR L m, oR L m, S, R] fun u h' => ∃ sv fv wv us, u = .agg #[sv, fv, wv, .int .i64 (m.pictured r).2] ∧ PF sv fv wv us (m.pictured r).1 ∧ h' = [pR sv fv wv us (m.pictured r).1, hR L m, wR L m, eR L m, oR L m, S, R] := by
  refine Ct.unpair (pre := [hR L m, wR L m, eR L m, oR L m]) (rpicture_ct (S := Res.star [S, R]) (hS.star .here) h (hv.star (.there .here)) hrl) ?_
  rintro v h' ⟨sv, fv, wv, us, rfl, hp, rfl⟩
  exact ⟨[pR sv fv wv us (m.pictured r).1, hR L m, wR L m, eR L m, oR L m], rfl, sv, fv, wv, us, rfl, hp, rfl⟩
end
section
variable {R : Res} {v0 v4 : Value} {sh : List (List Bool)} {xs : List Go.Hm.Act} {half young n : Int}
set_option maxHeartbeats 4000000 in
set_option maxRecDepth 100000 in
theorem heapPlays_c (hS : Shp R v0 sh) (hs0 : sh.length ≤ maxLen) (hX : ActsV R v4 xs) (ha : ∀ x ∈ xs, I64 x.a) (_ : I64 half) (_ : I64 young) (_ : I64 n) :
    Ct Tryz.prog 3 #[v0, .int .i64 half, .int .i64 young, .int .i64 n, v4] [R] fun u h' => u = .bool true ∧ h' = [R] := by
  obtain ⟨a, cp, hv, _⟩ := id hS
  obtain ⟨xa, xcp, hxv, _⟩ := id hX
  refine ct_of (n := 164) Tryz.func3 rfl rfl (len rfl) fun hr w0 => ?_
  simp only [List.cons_append, List.nil_append]
  refine cS (cR (sV (vA rfl) (sN (nT (cS (cS (cR (sV (vM rfl) (st_clr rfl rfl en4 rfl (fit_ct hS hs0) ?_)))))))))
  refine sV (v_not rfl) (sV (vM rfl) (st_cut (k := 11) (d := 32) (v := .bool (!(fitp sh) || (decide (200 < half) && decide (half ≤ 4096)))) (fun hcut => bool_want (b := !(fitp sh)) false (fun hg => ?_) (fun hg => ?_)) ?_))
  · refine st_sk rfl rfl hg ?_
    refine st_sk rfl rfl hg ?_
    refine st_sk rfl rfl hg ?_
    refine st_sku rfl rfl ?_
    refine st_sku rfl rfl ?_
    refine st_sk rfl rfl hg ?_
    refine sV (v_pick_true (bool_ev rfl hg) rfl) ?_
    exact hcut _ (ssub_head (by first | rfl | (rw [hg]; rfl) | simp_all) (uS rfl (uS rfl (uS rfl (uS rfl (uS rfl (uS rfl (ssub_refl))))))))
  · skip
    refine st_vg rfl (bG rfl hg) (vM rfl) (st_vg rfl (bG rfl hg) (v_gtr rfl rfl) (st_vg rfl (bG rfl hg) (vM rfl) (st_cut (k := 10) (d := 31) (v := .bool (decide (200 < half) && decide (half ≤ 4096))) (fun hcut => bool_want (b := decide (200 < half)) true (fun hg1 => ?_) (fun hg1 => ?_)) ?_)))
    · refine st_sk rfl rfl hg1 ?_
      refine st_sk rfl rfl hg1 ?_
      refine st_vg rfl (bG rfl hg) (vP (bool_ev rfl hg1) rfl) ?_
      exact hcut _ (ssub_head (by first | rfl | (rw [hg1]; rfl) | simp_all) (uS rfl (uS rfl (ssub_refl))))
    · skip
      refine st_vg rfl (bG rfl hg1) (vM rfl) (st_vg rfl (bG rfl hg1) (v_leq rfl rfl) (st_vg rfl (bG rfl hg) (v_pick_true (bool_ev rfl hg1) rfl) ?_))
      exact hcut _ (ssub_head (by first | rfl | (rw [hg1]; rfl) | simp_all) (uS rfl (uS rfl (ssub_refl))))
    refine sV (vP (bool_ev rfl hg) rfl) ?_
    exact hcut _ (ssub_head (by first | rfl | (rw [hg]; rfl) | simp_all) (by repeat (first | exact ssub_refl | refine uS rfl ?_)))
  refine sV (vM rfl) (st_cut (k := 19) (d := 40) (v := .bool ((!(fitp sh) || (decide (200 < half) && decide (half ≤ 4096))) || (decide (100 < young) && decide (young ≤ 1024)))) (fun hcut => bool_want (b := (!(fitp sh) || (decide (200 < half) && decide (half ≤ 4096)))) false (fun hg => ?_) (fun hg => ?_)) ?_)
  · refine st_sk rfl rfl hg ?_
    refine st_sk rfl rfl hg ?_
    refine st_sk rfl rfl hg ?_
    refine st_sku rfl rfl ?_
    refine st_sku rfl rfl ?_
    refine st_sk rfl rfl hg ?_
    refine sV (v_pick_true (bool_ev rfl hg) rfl) ?_
    exact hcut _ (ssub_head (by first | rfl | (rw [hg]; rfl) | simp_all) (uS rfl (uS rfl (uS rfl (uS rfl (uS rfl (uS rfl (ssub_refl))))))))
  · skip
    refine st_vg rfl (bG rfl hg) (vM rfl) (st_vg rfl (bG rfl hg) (v_gtr rfl rfl) (st_vg rfl (bG rfl hg) (vM rfl) (st_cut (k := 18) (d := 39) (v := .bool (decide (100 < young) && decide (young ≤ 1024))) (fun hcut => bool_want (b := decide (100 < young)) true (fun hg1 => ?_) (fun hg1 => ?_)) ?_)))
    · refine st_sk rfl rfl hg1 ?_
      refine st_sk rfl rfl hg1 ?_
      refine st_vg rfl (bG rfl hg) (vP (bool_ev rfl hg1) rfl) ?_
      exact hcut _ (ssub_head (by first | rfl | (rw [hg1]; rfl) | simp_all) (uS rfl (uS rfl (ssub_refl))))
    · skip
      refine st_vg rfl (bG rfl hg1) (vM rfl) (st_vg rfl (bG rfl hg1) (v_leq rfl rfl) (st_vg rfl (bG rfl hg) (v_pick_true (bool_ev rfl hg1) rfl) ?_))
      exact hcut _ (ssub_head (by first | rfl | (rw [hg1]; rfl) | simp_all) (uS rfl (uS rfl (ssub_refl))))
    refine sV (vP (bool_ev rfl hg) rfl) ?_
    exact hcut _ (ssub_head (by first | rfl | (rw [hg]; rfl) | simp_all) (by repeat (first | exact ssub_refl | refine uS rfl ?_)))
  refine sV (vM rfl) (st_cut (k := 27) (d := 48) (v := .bool (((!(fitp sh) || (decide (200 < half) && decide (half ≤ 4096))) || (decide (100 < young) && decide (young ≤ 1024))) || (decide (20 < n) && decide (n ≤ 200)))) (fun hcut => bool_want (b := ((!(fitp sh) || (decide (200 < half) && decide (half ≤ 4096))) || (decide (100 < young) && decide (young ≤ 1024)))) false (fun hg => ?_) (fun hg => ?_)) ?_)
  · refine st_sk rfl rfl hg ?_
    refine st_sk rfl rfl hg ?_
    refine st_sk rfl rfl hg ?_
    refine st_sku rfl rfl ?_
    refine st_sku rfl rfl ?_
    refine st_sk rfl rfl hg ?_
    refine sV (v_pick_true (bool_ev rfl hg) rfl) ?_
    exact hcut _ (ssub_head (by first | rfl | (rw [hg]; rfl) | simp_all) (uS rfl (uS rfl (uS rfl (uS rfl (uS rfl (uS rfl (ssub_refl))))))))
  · skip
    refine st_vg rfl (bG rfl hg) (vM rfl) (st_vg rfl (bG rfl hg) (v_gtr rfl rfl) (st_vg rfl (bG rfl hg) (vM rfl) (st_cut (k := 26) (d := 47) (v := .bool (decide (20 < n) && decide (n ≤ 200))) (fun hcut => bool_want (b := decide (20 < n)) true (fun hg1 => ?_) (fun hg1 => ?_)) ?_)))
    · refine st_sk rfl rfl hg1 ?_
      refine st_sk rfl rfl hg1 ?_
      refine st_vg rfl (bG rfl hg) (vP (bool_ev rfl hg1) rfl) ?_
      exact hcut _ (ssub_head (by first | rfl | (rw [hg1]; rfl) | simp_all) (uS rfl (uS rfl (ssub_refl))))
    · skip
      refine st_vg rfl (bG rfl hg1) (vM rfl) (st_vg rfl (bG rfl hg1) (v_leq rfl rfl) (st_vg rfl (bG rfl hg) (v_pick_true (bool_ev rfl hg1) rfl) ?_))
      exact hcut _ (ssub_head (by first | rfl | (rw [hg1]; rfl) | simp_all) (uS rfl (uS rfl (ssub_refl))))
    refine sV (vP (bool_ev rfl hg) rfl) ?_
    exact hcut _ (ssub_head (by first | rfl | (rw [hg]; rfl) | simp_all) (by repeat (first | exact ssub_refl | refine uS rfl ?_)))
  refine sV (vM rfl) (st_cut (k := 37) (d := 58) (v := .bool ((((!(fitp sh) || (decide (200 < half) && decide (half ≤ 4096))) || (decide (100 < young) && decide (young ≤ 1024))) || (decide (20 < n) && decide (n ≤ 200))) || (decide (80 < (xs.length : Int)) && decide ((xs.length : Int) ≤ 2000)))) (fun hcut => bool_want (b := (((!(fitp sh) || (decide (200 < half) && decide (half ≤ 4096))) || (decide (100 < young) && decide (young ≤ 1024))) || (decide (20 < n) && decide (n ≤ 200)))) false (fun hg => ?_) (fun hg => ?_)) ?_)
  · refine st_sk rfl rfl hg ?_
    refine st_sk rfl rfl hg ?_
    refine st_sk rfl rfl hg ?_
    refine st_sk rfl rfl hg ?_
    refine st_sku rfl rfl ?_
    refine st_sku rfl rfl ?_
    refine st_sku rfl rfl ?_
    refine st_sk rfl rfl hg ?_
    refine sV (v_pick_true (bool_ev rfl hg) rfl) ?_
    exact hcut _ (ssub_head (by first | rfl | (rw [hg]; rfl) | simp_all) (uS rfl (uS rfl (uS rfl (uS rfl (uS rfl (uS rfl (uS rfl (uS rfl (ssub_refl))))))))))
  · skip
    refine st_vg rfl (bG rfl hg) (vM rfl) (st_vg rfl (bG rfl hg) (v_len (congrArg some hxv) Tryz.underlying23) (st_vg rfl (bG rfl hg) (v_gtr rfl rfl) (st_vg rfl (bG rfl hg) (vM rfl) (st_cut (k := 36) (d := 57) (v := .bool (decide (80 < (xs.length : Int)) && decide ((xs.length : Int) ≤ 2000))) (fun hcut => bool_want (b := decide (80 < (xs.length : Int))) true (fun hg1 => ?_) (fun hg1 => ?_)) ?_))))
    · refine st_sk rfl rfl hg1 ?_
      refine st_sk rfl rfl hg1 ?_
      refine st_sk rfl rfl hg1 ?_
      refine st_vg rfl (bG rfl hg) (vP (bool_ev rfl hg1) rfl) ?_
      exact hcut _ (ssub_head (by first | rfl | (rw [hg1]; rfl) | simp_all) (uS rfl (uS rfl (uS rfl (ssub_refl)))))
    · skip
      refine st_vg rfl (bG rfl hg1) (vM rfl) (st_vg rfl (bG rfl hg1) (v_len (congrArg some hxv) Tryz.underlying23) (st_vg rfl (bG rfl hg1) (v_leq rfl rfl) (st_vg rfl (bG rfl hg) (v_pick_true (bool_ev rfl hg1) rfl) ?_)))
      exact hcut _ (ssub_head (by first | rfl | (rw [hg1]; rfl) | simp_all) (uS rfl (uS rfl (uS rfl (ssub_refl)))))
    refine sV (vP (bool_ev rfl hg) rfl) ?_
    exact hcut _ (ssub_head (by first | rfl | (rw [hg]; rfl) | simp_all) (by repeat (first | exact ssub_refl | refine uS rfl ?_)))
  refine sV (vM rfl) (st_cut (k := 42) (d := 63) (v := .bool (((((!(fitp sh) || (decide (200 < half) && decide (half ≤ 4096))) || (decide (100 < young) && decide (young ≤ 1024))) || (decide (20 < n) && decide (n ≤ 200))) || (decide (80 < (xs.length : Int)) && decide ((xs.length : Int) ≤ 2000))) || decide (2010 < (xs.length : Int)))) (fun hcut => bool_want (b := ((((!(fitp sh) || (decide (200 < half) && decide (half ≤ 4096))) || (decide (100 < young) && decide (young ≤ 1024))) || (decide (20 < n) && decide (n ≤ 200))) || (decide (80 < (xs.length : Int)) && decide ((xs.length : Int) ≤ 2000)))) false (fun hg => ?_) (fun hg => ?_)) ?_)
  · refine st_sk rfl rfl hg ?_
    refine st_sk rfl rfl hg ?_
    refine st_sk rfl rfl hg ?_
    refine sV (v_pick_true (bool_ev rfl hg) rfl) ?_
    exact hcut _ (ssub_head (by first | rfl | (rw [hg]; rfl) | simp_all) (uS rfl (uS rfl (uS rfl (ssub_refl)))))
  · skip
    refine st_vg rfl (bG rfl hg) (vM rfl) (st_vg rfl (bG rfl hg) (v_len (congrArg some hxv) Tryz.underlying23) (st_vg rfl (bG rfl hg) (v_gtr rfl rfl) (sV (vP (bool_ev rfl hg) rfl) ?_)))
    exact hcut _ (ssub_head (by first | rfl | (rw [hg]; rfl) | simp_all) (uS rfl (uS rfl (uS rfl (ssub_refl)))))
  refine sN (nK [0, 1, 2, 3, 4, 10, 63] rfl (nT (cC rfl (fun hc => ?_) (fun hc => ?_))))
  · skip
    refine cS (cR (st_cl rfl rfl en5 rfl (sanity_c) ?_))
    rintro v' h' ⟨rfl, rfl⟩
    simp only [List.nil_append]
    refine sV (vA rfl) (sN (nK [0, 1, 2, 3, 4, 10] rfl (nT (cT (xR ?_)))))
    exact xt_rt rfl ⟨rfl, rfl⟩ (by (repeat (refine Sub.sel (by repeat (first | exact Sel.here | apply Sel.there)) ?_)); (repeat apply Sub.cons); first | exact Sub.refl _ | exact Sub.nil _)
  · skip
    have hsl : sh.length ≤ 1000000 := by
      have hf : fitp sh = true := by
        simp only [Bool.or_eq_false_iff, Bool.not_eq_false'] at hc
        exact hc.1.1.1.1.1
      unfold fitp at hf
      simp only [Bool.and_eq_true, Bool.or_eq_true, decide_eq_true_eq] at hf
      omega
    refine cK (xT (cS (cR (sV (vM rfl) (sV (vM rfl) (sV (vM rfl) (sV (vM rfl) (sV (vM rfl) (st_cl rfl rfl en6 rfl (play_c hS hsl hX ha) ?_)))))))))
    rintro v' h' hu
    rcases hu with ⟨hne, rfl, rfl⟩ | ⟨hpe, hne, hN0, hN2, hxl, L0, μ0, S1, rv0, ev0, rfl, I0, rfl⟩
    · skip
      simp only [List.cons_append, List.nil_append]
      refine sV (vM rfl) (sV (v_extract rfl rfl) (sV (v_extract rfl rfl) (sV (v_extract rfl rfl) (sV (v_extract rfl rfl) (sV (vA rfl) (sV (vA rfl) (sV (vA rfl) (sV (vA rfl) (sN (nK [0, 1, 2, 3, 4, 10, 11, 12, 13, 14] rfl (nT (cS (cR (sV (vM rfl) (sV (vM rfl) ?_)))))))))))))))
      refine sV (vM rfl) (sV (vM rfl) (sV (vM rfl) (st_cl rfl rfl en7 rfl (rplay_c hS hsl hX ha) ?_)))
      rintro v' h' hu
      rcases hu with ⟨_, rfl, rfl⟩ | ⟨hp0, _⟩
      · skip
        simp only [List.cons_append, List.nil_append]
        refine st_alc al34 fun b15 => ?_
        refine st_stoW rfl rfl sz34 rfl rfl ?_
        refine sN (nK [10, 11, 12, 13, 14, 15] rfl (nT (cS (cS (cR (sV (vM rfl) (sV (vF rfl fa34_3 rfl) (sV (vL rfl ld29) ?_))))))))
        refine sV (v_neq_self rfl rfl) (sV (vM rfl) (st_vg rfl rfl (vM rfl) (st_vg rfl rfl (v_eql_ptr_nil rfl rfl pt26) (st_vg rfl rfl (vF rfl fa34_0 rfl) (st_vg rfl rfl (vL rfl ld32) ?_)))))
        refine st_vg rfl rfl (v_eql_ptr_nil rfl rfl pt32) (st_vg rfl rfl (v_neqb_self Tryz.underlying4 rfl rfl) (sV (vP rfl rfl) (sN (nK [10, 11, 12, 13, 15, 93] rfl (nT (cd_false rfl ?_))))))
        refine cK (xT (cS (cS (cR (sV (vM rfl) (sV (v_eql_ptr_nil rfl rfl pt26) (sN (nK [10, 11, 12, 13, 15, 95] rfl (nT (cd_true rfl ?_))))))))))
        refine cS (cR (st_cl rfl rfl en5 rfl (sanity_c) ?_))
        rintro v' h' ⟨rfl, rfl⟩
        simp only [List.nil_append]
        refine sV (vM rfl) (st_vg rfl rfl (vM rfl) (st_vg rfl rfl (v_len (congrArg some rfl) Tryz.underlying27) (st_vg rfl rfl (v_eql rfl rfl) (sV (v_pick_true rfl rfl) (sV (vM rfl) (st_vg rfl rfl (vM rfl) (st_vg rfl rfl (v_len (congrArg some rfl) Tryz.underlying28) (st_vg rfl rfl (v_eql rfl rfl) (sV (v_pick_true rfl rfl) (sV (vA rfl) (sN (nK [10, 11, 12, 13, 15] rfl (nT (cT (xR ?_)))))))))))))))
        exact xt_rt rfl ⟨rfl, rfl⟩ (by (repeat (refine Sub.sel (by repeat (first | exact Sel.here | apply Sel.there)) ?_)); (repeat apply Sub.cons); first | exact Sub.refl _ | exact Sub.nil _)
      · skip
        exact absurd hp0 hne
    · skip
      simp only [List.cons_append, List.nil_append]
      refine sV (vM rfl) (sV (v_extract rfl rfl) (sV (v_extract rfl rfl) (sV (v_extract rfl rfl) (sV (v_extract rfl rfl) (sV (vA rfl) (sV (vA rfl) (sV (vA rfl) (sV (vA rfl) (sN (nK [0, 1, 2, 3, 4, 10, 11, 12, 13, 14] rfl (nT (cS (cR (sV (vM rfl) (sV (vM rfl) ?_)))))))))))))))
      refine sV (vM rfl) (sV (vM rfl) (sV (vM rfl) (st_cl rfl rfl en7 rfl (rplay_c hS hsl hX ha) ?_)))
      rintro v' h' hu
      rcases hu with ⟨hq, _⟩ | ⟨_, _, _, _, _, Lr, rv2, ev2, hLv, rfl, rfl⟩
      · exact absurd hpe hq
      · skip
        have hF := Fine.acts false xs (fine_new hne) (List.replicate n.toNat 0)
        have hK := kactsM false xs (fine_new hne) (List.replicate n.toNat 0)
        have hrl : (acts false xs (new' sh half young) (List.replicate n.toNat 0)).2.2.length ≤ 200 := by rw [acts_len, List.length_replicate]; omega
        have hel : (acts false xs (new' sh half young) (List.replicate n.toNat 0)).1.length ≤ 2000 := by rw [acts_errs]; omega
        generalize (acts false xs (new' sh half young) (List.replicate n.toNat 0)).2.1 = M at *
        generalize (acts false xs (new' sh half young) (List.replicate n.toNat 0)).2.2 = r0 at *
        generalize (acts false xs (new' sh half young) (List.replicate n.toNat 0)).1 = e0 at *
        have hzp := pictured_sz hF (roots := r0) (by omega)
        obtain ⟨ly, ln, lf, φ, A, hg⟩ := hF
        unfold rSH
        simp only [List.cons_append, List.nil_append]
        refine st_vecshape (v := rv0) (E := 3) (sz := 1) (n := r0.length) (l := ints r0) (by repeat (first | exact Sel.here | apply Sel.there)) fun ra rcp hrv hra => ?_
        refine st_vecshape (v := rv2) (E := 3) (sz := 1) (n := r0.length) (l := ints r0) (by repeat (first | exact Sel.here | apply Sel.there)) fun ra2 rcp2 hrv2 hra2 => ?_
        refine st_vecshape (v := ev0) (E := 29) (sz := 1) (n := e0.length) (l := ints e0) (by repeat (first | exact Sel.here | apply Sel.there)) fun ea ecp hev hea => ?_
        refine st_vecshape (v := ev2) (E := 29) (sz := 1) (n := e0.length) (l := ints e0) (by repeat (first | exact Sel.here | apply Sel.there)) fun ea2 ecp2 hev2 hea2 => ?_
        have hri := rowI_vec hrv hra rfl
        have hri2 := rowI_vec hrv2 hra2 rfl
        have hei := rowI_vecE (E := 29) hev hea rfl
        have hei2 := rowI_vecE (E := 29) hev2 hea2 rfl
        have o1 : rv2.oneCell' = true := by rw [hrv2]; rfl
        have o2 : ev2.oneCell' = true := by rw [hev2]; rfl
        have hpt := hpicture_ct I0 hg hri (by omega)
        have hrp := rpicture2 (L := Lr) (S := R) (by rw [hK.sh, hLv]; exact hS) hg hri2 (by omega)
        have hrm := room_c I0
        have hrr := rroom_ct (L := Lr) hg.g
        have hbz := busy_c I0
        have hsi := sameInts2_ct hri hri2 (by omega)
        have hse := sameErrs2_ct hei hei2 (by omega)
        rw [beq_self_eq_true] at hsi hse
        unfold memSH at hpt hrm hbz
        simp only [List.cons_append, List.nil_append] at hpt
        refine st_alc al34 fun b15 => ?_
        refine st_stoW rfl rfl sz34 rfl (by simp only [List.all_cons, List.all_nil, o1, o2]; rfl) ?_
        refine sN (nK [10, 11, 12, 13, 14, 15] rfl (nT (cS (cS (cR (sV (vM rfl) (sV (vF rfl fa34_3 rfl) (sV (vL rfl ld29) ?_))))))))
        refine sV (v_neq_self rfl rfl) (sV (vM rfl) (st_vg rfl rfl (vM rfl) (st_vg rfl rfl (v_eql_ptr_nil rfl rfl pt26) (st_vg rfl rfl (vF rfl fa34_0 rfl) (st_vg rfl rfl (vL rfl ld32) ?_)))))
        refine st_vg rfl rfl (v_eql_ptr_nil rfl rfl pt32) (st_vg rfl rfl (v_neqb_self Tryz.underlying4 rfl rfl) (sV (vP rfl rfl) (sN (nK [10, 11, 12, 13, 15, 93] rfl (nT (cd_false rfl ?_))))))
        refine cK (xT (cS (cS (cR (sV (vM rfl) (sV (v_eql_ptr_nil rfl rfl pt26) (sN (nK [10, 11, 12, 13, 15, 95] rfl (nT (cd_false rfl ?_))))))))))
        refine cK (xT (cS (cR (sV (vM rfl) (sV (vM rfl) (st_cl rfl rfl en8 rfl (hpt) ?_))))))
        rintro v' h' ⟨sv, fv, wv, us, rfl, hPF, rfl⟩
        have q1 := VForm.one hPF.s; have q2 := VForm.one hPF.f; have q3 := VForm.one hPF.r
        simp only [List.cons_append, List.nil_append]
        refine sV (vM rfl) (sV (v_extract rfl rfl) (sV (v_extract rfl rfl) (st_alc al38 fun b16 => ?_)))
        refine st_stoW rfl rfl sz38 rfl (by simp only [List.all_cons, List.all_nil, q1, q2, q3]; rfl) ?_
        refine sV (vA rfl) (sN (nK [10, 11, 12, 13, 15, 16, 17] rfl (nT (cS (cR (sV (vF rfl fa34_0 rfl) (sV (vL rfl ld32) ?_)))))))
        refine sV (vF rfl fa34_1 rfl) (sV (vL rfl ld27) ?_)
        refine st_cl rfl rfl en9 rfl (hrp) ?_
        rintro v' h' ⟨sv2, fv2, wv2, us2, rfl, hPF2, rfl⟩
        have q4 := VForm.one hPF2.s; have q5 := VForm.one hPF2.f; have q6 := VForm.one hPF2.r
        simp only [List.cons_append, List.nil_append]
        refine st_alc al42 fun b18 => ?_
        refine st_stoW rfl rfl sz42 rfl (by simp only [List.all_cons, List.all_nil, q4, q5, q6]; rfl) ?_
        have hsp := Reads.unstar (samePictures_ct (R := Res.star [pR sv fv wv us (M.pictured r0).1, pR sv2 fv2 wv2 us2 (M.pictured r0).1]) (hPF.v.star .here) (hPF2.v.star (.there .here)) hzp)
        rw [samePic_self] at hsp
        refine sN (nK [10, 11, 12, 13, 15, 16, 17, 18] rfl (nT (cS (cR (sV (v_loadW rfl ld38 rfl (by repeat (first | exact Sel.here | apply Sel.there))) ?_)))))
        refine sV (vF rfl fa42_0 rfl) (sV (v_loadR (r := pt b18 (cl ([sv2, fv2, wv2] ++ [.int .i64 (M.pictured r0).2]) 42)) rfl ld38 rfl (by repeat (first | exact Sel.here | apply Sel.there)) rds_pre) ?_)
        refine st_clr rfl rfl en10 rfl (hsp) ?_
        refine sV (vA rfl) (sN (nK [10, 11, 12, 13, 15, 17, 18, 19] rfl (nT (cS (cR (sV (vM rfl) (sV (vF rfl fa34_1 rfl) (sV (vL rfl ld27) ?_))))))))
        refine st_clr rfl rfl en11 rfl (hsi) ?_
        refine sV (vA rfl) (sN (nK [10, 11, 13, 15, 17, 18, 19, 20] rfl (nT (cS (cR (sV (vM rfl) (sV (vF rfl fa34_2 rfl) (sV (vL rfl ld28) ?_))))))))
        refine st_clr rfl rfl en12 rfl (hse) ?_
        refine sV (vA rfl) (sN (nK [10, 11, 15, 17, 18, 19, 20, 21] rfl (nT (cS (cd_drawh (ork [(0, 0), (1, 2), (2, 2), (3, 2), (4, 2), (5, 2), (6, 2), (7, 2), (8, 2), (9, 2), (10, 2), (11, 2), (12, 2), (13, 1), (14, 2), (15, 2), (16, 2), (17, 2), (18, 1), (19, 2), (20, 1), (21, 1), (22, 1), (23, 2), (24, 2), (25, 2), (26, 1), (27, 2), (28, 1), (29, 2), (30, 2), (31, 1), (32, 1), (33, 2), (34, 2)] .nil) (fun i => !(Nat.beq i 0)) mixed (by kernel_rfl) ?_)))))
        refine dr_eff rfl (st_cl rfl rfl en5 rfl (sanity_c) ?_)
        rintro v' h' ⟨rfl, rfl⟩
        simp only [List.nil_append]
        refine dr_nx ?_
        refine dV rfl (vM rfl) (dp_vg rfl rfl rfl (vM rfl) (dV rfl (v_pick_true rfl rfl) (dV rfl (vM rfl) (dp_vg rfl rfl rfl (vM rfl) (dV rfl (v_pick_true rfl rfl) (dV rfl (vM rfl) (dp_vg rfl rfl rfl (vM rfl) (dV rfl (v_pick_true rfl rfl) (dV rfl (vM rfl) (dp_vg rfl rfl rfl (vM rfl) (dp_vg rfl rfl rfl (vF rfl fa42_1 rfl) (dr_vg rfl rfl rfl (vL rfl ld29) ?_))))))))))))
        refine dp_vg rfl rfl rfl (v_eql rfl rfl) (dV rfl (v_pick_true rfl rfl) (dV rfl (vM rfl) ?_))
        rw [beq_self_eq_true]
        refine dp_vg rfl rfl rfl (vM rfl) (dr_clrg rfl rfl rfl rfl rfl en13 rfl (hrm) ?_)
        refine dp_vg rfl rfl rfl (vF rfl fa34_0 rfl) (dr_vg rfl rfl rfl (vL rfl ld32) ?_)
        refine dr_clrg rfl rfl rfl rfl rfl en14 rfl (hrr) ?_
        refine dr_vg rfl rfl rfl (v_eql_ints (xs := [M.room.1, M.room.2.1, M.room.2.2]) (ys := [M.room.1, M.room.2.1, M.room.2.2]) eqi48 rfl rfl rfl rfl) ?_
        rw [beq_self_eq_true]
        refine dV rfl (v_pick_true rfl rfl) (dV rfl (vM rfl) (dp_vg rfl rfl rfl (vM rfl) (dr_clrg rfl rfl rfl rfl rfl en15 rfl (hbz) ?_)))
        refine dp_vg rfl rfl rfl (vF rfl fa34_0 rfl) (dr_vg rfl rfl rfl (vL rfl ld32) ?_)
        refine dp_vg rfl rfl rfl (vN rfl) (dp_vg rfl rfl rfl (vF rfl fa53_9 rfl) (dr_vg rfl rfl rfl (vL rfl ld4) ?_))
        refine dr_vg rfl rfl rfl (v_eql_bool Tryz.underlying4 rfl rfl) ?_
        rw [beq_self_eq_true]
        refine dV rfl (v_pick_true rfl rfl) (dV rfl (vA rfl) (dr_nil (nK [10] rfl (nT (cT ?_)))))
        exact xt_rt rfl ⟨rfl, rfl⟩ (by (repeat (refine Sub.sel (by repeat (first | exact Sel.here | apply Sel.there)) ?_)); (repeat apply Sub.cons); first | exact Sub.refl _ | exact Sub.nil _)
end
end Go.Proofs.YtmhmpjgkkpbnnaaGreat
namespace Go.Proofs.YtmhmpjgkkpbnnaaGreat
open Go Go.RowKit Go.ChangeShapes Go.WideShapes Go.Ck
set_option maxRecDepth 100000 in
theorem heapPlays_lifted (os : Os) (started : os.Started) (H : Type) (enc : TypeId × Value → H) :
    ReturnsInHanded {} Tryz.checked os 3 .any (Rows.heapPlaysSpec.pre6 enc Tryz.prog Tryz.f3 Rows.heapPlaysRow.domain false) (Rows.heapPlaysSpec.post enc Tryz.prog Tryz.f3 false true false false) := by
  refine returnsInHanded_of_change (C := Tryz.checked) own' started (by kernel_rfl) Tryz.func3
    (ChangeSpec.witness6 (enc := enc) (C := Tryz.checked) false ⟨#[], #[.slice none 0 0, .int .i64 0, .int .i64 0, .int .i64 0, .slice none 0 0], []⟩ 8 (by kernel_rfl) (by kernel_rfl) (by kernel_rfl) (by kernel_rfl)) ?_
  intro W base args ds gs before hval0 hW hcnd _
  have hval : ∀ (j : Nat) t v, Tryz.f3.params[j]? = some t → args[j]? = some v → Value.okWide Tryz.prog W .any base t v := hval0
  have hW' := hW
  obtain ⟨p, q, hA0, hV, rfl, hfz, hnd⟩ := hW
  have hA : DataW.TrodAll enc Tryz.prog W 0 (fun _ => true) true Tryz.f3.params.toList args.toList ds p := hA0
  rw [Tryz.params3] at hA hval
  obtain ⟨v0, vs0, d0, ds0, p0, q0, hargs, rfl, rfl, h0, r0⟩ := trodAll_cons hA
  obtain ⟨v1, vs1, d1, ds1, p1, q1, rfl, rfl, rfl, h1, r1⟩ := trodAll_cons r0
  obtain ⟨v2, vs2, d2, ds2, p2, q2, rfl, rfl, rfl, h2, r2⟩ := trodAll_cons r1
  obtain ⟨v3, vs3, d3, ds3, p3, q3, rfl, rfl, rfl, h3, r3⟩ := trodAll_cons r2
  obtain ⟨v4, vs4, d4, ds4, p4, q4, rfl, rfl, rfl, h4, r4⟩ := trodAll_cons r3
  obtain ⟨rfl, rfl, rfl⟩ := trodAll_nil r4
  obtain rfl : args = #[v0, v1, v2, v3, v4] := by cases args; simp_all
  obtain ⟨rfl, rfl⟩ := trodVars_none hV
  obtain ⟨y0, e0⟩ := arg_one (ty := .slice (.slice .bool)) (by kernel_rfl) (by kernel_rfl) (hval 0 22 v0 rfl rfl) h0
  obtain ⟨y1, e1⟩ := arg_one (ty := .int .i64) (by kernel_rfl) (by kernel_rfl) (hval 1 3 v1 rfl rfl) h1
  obtain ⟨y2, e2⟩ := arg_one (ty := .int .i64) (by kernel_rfl) (by kernel_rfl) (hval 2 3 v2 rfl rfl) h2
  obtain ⟨y3, e3⟩ := arg_one (ty := .int .i64) (by kernel_rfl) (by kernel_rfl) (hval 3 3 v3 rfl rfl) h3
  obtain ⟨y4, e4⟩ := arg_one (ty := .slice actTy) (by kernel_rfl) (by kernel_rfl) (hval 4 23 v4 rfl rfl) h4
  obtain ⟨s0, l0⟩ := shp_of e0
  obtain ⟨s4, a4⟩ := acts_of e4
  obtain ⟨rfl, w1⟩ := rep_kind e1
  obtain ⟨rfl, w2⟩ := rep_kind e2
  obtain ⟨rfl, w3⟩ := rep_kind e3
  refine (ct_calls (heapPlays_c s0 l0 s4 a4 (wf_I64' w1) (wf_I64' w2) (wf_I64' w3)) fun v h' h => ⟨h.1, by rw [h.2]; exact .refl _⟩).mono fun e W' ⟨he, hk⟩ => ⟨_, he, ?_⟩
  exact law_post (tys := [.slice (.slice .bool), .int .i64, .int .i64, .int .i64, .slice actTy]) hW' rfl (by kernel_rfl) Tryz.underlying4 (by rw [Tryz.params3]; kernel_rfl) rfl hk
theorem heapPlays_holds : Rows.HeapPlaysSaid :=
  OpenClaim.holds_of_wide 3 Tryz.f3 rfl rfl rfl rfl rfl rfl rfl ⟨rfl, rfl, rfl, rfl, rfl⟩ rfl rfl rfl rfl rfl (by kernel_rfl) Tryz.func3 (by kernel_rfl)
    (of_decide_eq_true (by kernel_rfl)) (by unfold Func.isWrapper; first | (rw [if_pos (by decide +kernel)]; kernel_rfl) | (rw [if_neg (by decide +kernel)]; exact ⟨rfl, rfl⟩))
    (fun os started H enc _ => heapPlays_lifted os started H enc)
end Go.Proofs.YtmhmpjgkkpbnnaaGreat
