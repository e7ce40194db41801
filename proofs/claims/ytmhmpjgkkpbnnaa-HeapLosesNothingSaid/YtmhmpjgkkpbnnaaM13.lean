/-
  Package heap's Model: the player where there is always room. Conditions: what the heap holds.
  The law HeapLosesNothing, walked. Conditions: what the heap holds.
  HeapLosesNothing: for every input the law answers true, and the input reads as it did. No condition.
-/
import Derived.Test.YtmhmpjgkkpbnnaaM12
import Derived.Test.YtmhmpjgkkpbnnaaM11
import Derived.Test.YtmhmpjgkkpbnnaaM5
import Derived.Test.YtmhmpjgkkpbnnaaRows
namespace Go.Proofs.Ytmhmpjgkkpbnnaa
open Go.Ck Fx Go.Hm Go.Hm.AM
attribute [local irreducible] St Cd Xt Nx DrL LsW
def modErr (sh : List (List Bool)) (n : Int) (xs : List Go.Hm.Act) : Int := if sized sh ≠ 0 then sized sh else playedErr n xs
def words (sh : List (List Bool)) (xs : List Go.Hm.Act) : Int := 1 + (xs.map (cost sh)).sum
/-- The picture to which acts lead where there is always room. -/
def modPic (sh : List (List Bool)) (n : Int) (xs : List Go.Hm.Act) : Pic := ((acts true xs (new' sh 1 (words sh xs)) (List.replicate n.toNat 0)).2.1.pictured (acts true xs (new' sh 1 (words sh xs)) (List.replicate n.toNat 0)).2.2).1
theorem sized_ok {sh : List (List Bool)} (hz : sized sh = 0) : ShOk sh ∧ sh.length ≤ 60 ∧ ∀ l ∈ sh, l.length ≤ 60 := by
  unfold sized at hz
  by_cases hq : (decide (60 < (sh.length : Int)) || sh.any long) = true
  · rw [if_pos hq] at hz; cases hz
  · simp only [Bool.or_eq_true, decide_eq_true_eq, not_or, List.any_eq_true, not_exists, not_and] at hq
    have hw : ∀ l ∈ sh, l.length ≤ 60 := fun l hl => by have := hq.2 l hl; unfold long at this; simp at this; omega
    exact ⟨⟨by omega, fun l hl => by have := hw l hl; omega⟩, by omega, hw⟩
theorem cost_le {sh : List (List Bool)} (hw : ∀ l ∈ sh, l.length ≤ 60) (x : Go.Hm.Act) : 0 ≤ cost sh x ∧ cost sh x ≤ 61 := by
  refine ⟨cost_nonneg sh x, ?_⟩
  unfold cost
  split
  · split
    · omega
    · rename_i h
      simp only [Bool.or_eq_true, decide_eq_true_eq, not_or] at h
      have hk : x.b.toNat < sh.length := by omega
      rw [show sh.getD x.b.toNat [] = sh[x.b.toNat] from getD_lt hk]
      have := hw _ (List.getElem_mem hk)
      omega
  · omega
theorem cost_sum {sh : List (List Bool)} (hw : ∀ l ∈ sh, l.length ≤ 60) : ∀ xs : List Go.Hm.Act, 0 ≤ (xs.map (cost sh)).sum ∧ (xs.map (cost sh)).sum ≤ 61 * (xs.length : Int)
  | [] => by simp
  | x :: t => by
    have h1 := cost_le hw x
    have h2 := cost_sum hw t
    simp only [List.map_cons, List.sum_cons, List.length_cons]
    omega
structure MdS where
  i : Nat
  L : MemL
  μ : Mem
  rv : Value
section
variable {R : Res} {v0 v2 : Value} {sh : List (List Bool)} {xs : List Go.Hm.Act} {n : Int}
set_option maxHeartbeats 4000000 in
set_option maxRecDepth 100000 in
theorem model_c (hS : Shp R v0 sh) (hs0 : sh.length ≤ 1000000) (hX : ActsV R v2 xs) (ha : ∀ x ∈ xs, I64 x.a) : Ct Try.prog 37 #[v0, .int .i64 n, v2] [R] fun u h' =>
    (modErr sh n xs ≠ 0 ∧ u = .tuple #[.agg #[.slice none 0 0, .slice none 0 0, .slice none 0 0], .int .i64 (modErr sh n xs)] ∧ h' = [R]) ∨
    (modErr sh n xs = 0 ∧ ∃ sv fv rv us, u = .tuple #[.agg #[sv, fv, rv], .int .i64 0] ∧ PF sv fv rv us (modPic sh n xs) ∧ h' = [pR sv fv rv us (modPic sh n xs), R]) := by
  obtain ⟨a, cp, rfl, _⟩ := id hS
  obtain ⟨xa, xcp, hxv, _⟩ := id hX
  unfold modErr
  refine ct_of (n := 96) Try.func37 rfl rfl (len rfl) fun hr w0 => ?_
  simp only [List.cons_append, List.nil_append]
  refine cd_seq (cd_region (st_alc al42 fun b6 => ?_))
  refine st_v (v_assign rfl) (st_nil (nx_then (cd_seq (cd_seq (cd_region (st_v (v_move rfl) (st_clr rfl rfl en44 rfl (sized_ct hS hs0) ?_)))))))
  refine st_v (v_assign rfl) (st_nil (nx_kp [0, 1, 2, 6, 7, 8] rfl (nx_then (cd_seq (cd_region (st_v (v_move rfl) (st_v (v_neq rfl rfl) (st_nil (nx_kp [0, 1, 2, 6, 7, 8, 20] rfl (nx_then (cd_cond rfl (fun c1 => ?_) (fun c1 => ?_))))))))))))
  · skip
    have hz : sized sh ≠ 0 := by simpa using c1
    rw [if_pos hz]
    refine cd_seq (cd_region (st_v (v_build (cells := [.slice none 0 0, .slice none 0 0, .slice none 0 0]) rfl (fun _ => by kernel_rfl)) ?_))
    refine st_v (v_move rfl) (st_stoW rfl rfl sz42 rfl rfl ?_)
    refine st_v (v_assign rfl) (st_nil (nx_kp [0, 1, 2, 6, 7] rfl (nx_then (cd_ret (xt_ret_then ?_)))))
    exact xt_retV (.cellN rfl ld42 rfl (by repeat (first | exact Sel.here | apply Sel.there)) (.tmp rfl .nil)) (.inl ⟨hz, rfl, rfl⟩) (by repeat (first | exact Sub.refl _ | exact Sub.nil _ | refine Sub.sel (by repeat (first | exact Sel.here | apply Sel.there)) ?_ | apply Sub.cons))
  · skip
    have hz : sized sh = 0 := by simpa using c1
    obtain ⟨hso, hs1, hw⟩ := sized_ok hz
    rw [if_neg (by rw [hz]; simp)]
    refine cd_skip (xt_then (cd_seq (cd_seq (cd_region (st_v (v_move rfl) (st_v (v_move rfl) (st_clr rfl rfl en78 rfl (played_ct hX) ?_)))))))
    refine st_v (v_assign rfl) (st_nil (nx_kp [0, 1, 2, 6, 7, 9] rfl (nx_then (cd_seq (cd_region (st_v (v_move rfl) (st_v (v_neq rfl rfl) (st_nil (nx_kp [0, 1, 2, 6, 7, 9, 27] rfl (nx_then (cd_cond rfl (fun c2 => ?_) (fun c2 => ?_))))))))))))
    · skip
      have hp : playedErr n xs ≠ 0 := by simpa using c2
      refine cd_seq (cd_region (st_v (v_build (cells := [.slice none 0 0, .slice none 0 0, .slice none 0 0]) rfl (fun _ => by kernel_rfl)) ?_))
      refine st_v (v_move rfl) (st_stoW rfl rfl sz42 rfl rfl ?_)
      refine st_v (v_assign rfl) (st_nil (nx_kp [0, 1, 2, 6, 7] rfl (nx_then (cd_ret (xt_ret_then ?_)))))
      exact xt_retV (.cellN rfl ld42 rfl (by repeat (first | exact Sel.here | apply Sel.there)) (.tmp rfl .nil)) (.inl ⟨hp, rfl, rfl⟩) (by repeat (first | exact Sub.refl _ | exact Sub.nil _ | refine Sub.sel (by repeat (first | exact Sel.here | apply Sel.there)) ?_ | apply Sub.cons))
    · skip
      have hp : playedErr n xs = 0 := by simpa using c2
      have hp' := hp
      unfold playedErr at hp'
      have hq : ¬ (decide (200 < n) || decide (2000 < (xs.length : Int))) = true := fun hh => by rw [if_pos hh] at hp'; cases hp'
      rw [if_neg hq] at hp'
      have hn0 : 0 ≤ n := by
        by_cases h0 : n < 0
        · rw [if_pos h0] at hp'; cases hp'
        · omega
      simp only [Bool.or_eq_true, decide_eq_true_eq, not_or] at hq
      obtain ⟨N, rfl⟩ : ∃ N : Nat, n = N := ⟨n.toNat, by omega⟩
      have hbd : ∀ i, 0 ≤ ((xs.take i).map (cost sh)).sum ∧ ((xs.take i).map (cost sh)).sum ≤ 122000 := fun i => by
        have := cost_sum hw (xs.take i)
        have hl : (xs.take i).length ≤ 2000 := by rw [List.length_take]; omega
        omega
      refine cd_skip (xt_then (cd_seq (cd_region (st_v (v_assign rfl) (st_nil (nx_kp [0, 1, 2, 6, 7, 10] rfl (nx_then (cd_seq (cd_seq (cd_region (st_v (v_move rfl) (st_v (v_len (congrArg some hxv) Try.underlying62) (st_v (v_move rfl) (st_nil (nx_then (cd_block ?_))))))))))))))))
      refine cd_loop (σ := Nat) (fun i => [(0, .slice a sh.length cp), (1, .int .i64 N), (2, v2), (6, .pointer (some ⟨b6, 0, none⟩)), (10, .int .i64 (1 + ((xs.take i).map (cost sh)).sum)), (30, v2), (31, .int .i64 xs.length), (32, .int .i64 (i : Nat))]) (fun i => pt b6 (cl [.slice none 0 0, .slice none 0 0, .slice none 0 0] 42) :: R :: hr) (fun i => i ≤ xs.length) (fun i => xs.length - i) 0 (Nat.zero_le _) ⟨rfl, rfl, rfl, rfl, rfl, rfl, rfl, rfl, trivial⟩ (Sub.refl _) ?_
      rintro i hi
      have hb1 := hbd i
      refine cd_seq (cd_region (st_v (v_lss rfl rfl) (st_nil (nx_then (cd_seq (cd_cond rfl (fun hd => ?_) (fun hd => ?_)))))))
      · skip
        have hlt : i < xs.length := by simpa using hd
        obtain ⟨b, o, cp', hv', hrds⟩ := hX.at hlt
        have hcst : ((xs.take (i + 1)).map (cost sh)).sum = ((xs.take i).map (cost sh)).sum + cost sh xs[i] := by
          rw [List.take_succ_eq_append_getElem hlt, List.map_append, List.sum_append]; simp
        have hb2 := hbd (i + 1)
        refine cd_skip (xt_then (cd_seq (cd_block (cd_seq (cd_region (st_v (v_indexAddr (congrArg some hv') rfl sl62 rfl hlt rfl) (st_v (v_loadR rfl ld78 rfl (by repeat (first | exact Sel.here | apply Sel.there)) hrds) ?_)))))))
        refine st_alc al78 fun b12 => ?_
        refine st_stoW rfl rfl sz78 rfl rfl ?_
        refine st_nil (nx_kp [0, 1, 2, 6, 10, 12, 30, 31, 32] rfl (nx_then (cd_seq (cd_region (st_v (v_fieldAddr rfl fa78_0 rfl) (st_v (v_ld rfl ld3) ?_))))))
        refine st_v (v_eql rfl rfl) (st_v (v_move rfl) (st_cut (k := 8) (d := 43) (v := .bool (xs[i].k == 1 && decide (0 ≤ xs[i].b))) (fun hcut => bool_want (b := xs[i].k == 1) true (fun hg => ?_) (fun hg => ?_)) ?_))
        · refine st_sk rfl rfl hg ?_
          refine st_sk rfl rfl hg ?_
          refine st_sk rfl rfl hg ?_
          refine st_v (v_pick_false (bool_ev rfl hg) rfl) ?_
          exact hcut _ (ssub_head (by first | rfl | (rw [hg]; rfl) | simp_all) (ssub_skip rfl (ssub_skip rfl (ssub_skip rfl (ssub_refl)))))
        · skip
          refine st_vg rfl (bool_get rfl hg) (v_fieldAddr rfl fa78_2 rfl) (st_vg rfl (bool_get rfl hg) (v_ld rfl ld3) ?_)
          refine st_vg rfl (bool_get rfl hg) (v_geq rfl rfl) (st_v (v_pick_true (bool_ev rfl hg) rfl) ?_)
          exact hcut _ (ssub_head (by first | rfl | (rw [hg]; rfl) | simp_all) (ssub_skip rfl (ssub_skip rfl (ssub_skip rfl (ssub_refl)))))
        refine st_v (v_move rfl) (st_cut (k := 15) (d := 50) (v := .bool ((xs[i].k == 1 && decide (0 ≤ xs[i].b)) && decide (xs[i].b < (sh.length : Int)))) (fun hcut => bool_want (b := (xs[i].k == 1 && decide (0 ≤ xs[i].b))) true (fun hg => ?_) (fun hg => ?_)) ?_)
        · refine st_sk rfl rfl hg ?_
          refine st_sk rfl rfl hg ?_
          refine st_sk rfl rfl hg ?_
          refine st_sk rfl rfl hg ?_
          refine st_sk rfl rfl hg ?_
          refine st_v (v_pick_false (bool_ev rfl hg) rfl) ?_
          exact hcut _ (ssub_head (by first | rfl | (rw [hg]; rfl) | simp_all) (ssub_skip rfl (ssub_skip rfl (ssub_skip rfl (ssub_skip rfl (ssub_skip rfl (ssub_refl)))))))
        · skip
          refine st_vg rfl (bool_get rfl hg) (v_fieldAddr rfl fa78_2 rfl) (st_vg rfl (bool_get rfl hg) (v_ld rfl ld3) ?_)
          refine st_vg rfl (bool_get rfl hg) (v_move rfl) (st_vg rfl (bool_get rfl hg) (v_len (congrArg some rfl) Try.underlying22) (st_vg rfl (bool_get rfl hg) (v_lss rfl rfl) (st_v (v_pick_true (bool_ev rfl hg) rfl) ?_)))
          exact hcut _ (ssub_head (by first | rfl | (rw [hg]; rfl) | simp_all) (ssub_skip rfl (ssub_skip rfl (ssub_skip rfl (ssub_skip rfl (ssub_skip rfl (ssub_refl)))))))
        refine st_nil (nx_kp [0, 1, 2, 6, 10, 12, 30, 31, 32, 50] rfl (nx_then (cd_cond rfl (fun hk => ?_) (fun hk => ?_))))
        · skip
          simp only [Bool.and_eq_true, beq_iff_eq, decide_eq_true_eq] at hk
          obtain ⟨⟨k1, k2⟩, k3⟩ := hk
          have hkk : xs[i].b.toNat < sh.length := by omega
          have hcc : cost sh xs[i] = 1 + (sh[xs[i].b.toNat].length : Int) := by
            unfold cost
            rw [if_pos k1, if_neg (by simp only [Bool.or_eq_true, decide_eq_true_eq]; omega), show sh.getD xs[i].b.toNat [] = sh[xs[i].b.toNat] from getD_lt hkk]
          obtain ⟨b1, o1, cp1, u, hv1, hu, a2, cp2, hu2, _⟩ := hS.row hkk
          have hsz := hw _ (List.getElem_mem hkk)
          refine cd_region (st_v (v_move rfl) (st_v (v_move rfl) (st_v (v_fieldAddr rfl fa78_2 rfl) (st_v (v_ld rfl ld3) ?_))))
          refine st_v (v_ixo _ (congrArg some hv1) rfl sl22 (Int.toNat_of_nonneg k2).symm hkk) (st_v (v_ld rfl ld73) ?_)
          refine st_v (v_len (congrArg some hu2) Try.underlying73) (st_v (v_add rfl rfl (by unfold I64 at *; omega)) (st_v (v_add rfl rfl (by unfold I64 at *; omega)) (st_v (v_assign rfl) (st_nil (nx_kp [0, 1, 2, 6, 10, 30, 31, 32] rfl (nx_xt (xt_normal_block (xt_then (cd_region (st_v (v_add rfl rfl (by unfold I64 at *; omega)) (st_v (v_move rfl) (st_nil (nx_kp [0, 1, 2, 6, 10, 30, 31, 32] rfl (nx_xt ?_))))))))))))))
          rw [show 1 + ((xs.take i).map (cost sh)).sum + (1 + (sh[xs[i].b.toNat].length : Int)) = 1 + ((xs.take (i + 1)).map (cost sh)).sum by rw [hcst, hcc]; omega]
          refine xt_ag (i + 1 : Nat) hlt (by omega) (by repeat (first | exact trivial | refine ⟨rfl, ?_⟩)) ?_
          exact (by (repeat (refine Sub.sel (by repeat (first | exact Sel.here | apply Sel.there)) ?_)); (repeat apply Sub.cons); first | exact Sub.refl _ | exact Sub.nil _)
        · skip
          have hcc : cost sh xs[i] = 0 := by
            unfold cost
            by_cases k1 : xs[i].k = 1
            · rw [if_pos k1, if_pos]
              rw [k1] at hk
              simp at hk ⊢
              omega
            · rw [if_neg k1]
          refine cd_skip (xt_normal_block (xt_then (cd_region (st_v (v_add rfl rfl (by unfold I64 at *; omega)) (st_v (v_move rfl) (st_nil (nx_kp [0, 1, 2, 6, 10, 30, 31, 32] rfl (nx_xt ?_))))))))
          rw [show 1 + ((xs.take i).map (cost sh)).sum = 1 + ((xs.take (i + 1)).map (cost sh)).sum by rw [hcst, hcc]; omega]
          refine xt_ag (i + 1 : Nat) hlt (by omega) (by repeat (first | exact trivial | refine ⟨rfl, ?_⟩)) ?_
          exact (by (repeat (refine Sub.sel (by repeat (first | exact Sel.here | apply Sel.there)) ?_)); (repeat apply Sub.cons); first | exact Sub.refl _ | exact Sub.nil _)
      · skip
        have hge : i = xs.length := by
          have : ¬ i < xs.length := by simpa using hd
          omega
        subst hge
        rw [List.take_length] at hb1 ⊢
        obtain ⟨W, hW⟩ : ∃ W : Nat, 1 + (xs.map (cost sh)).sum = (W : Int) := ⟨(1 + (xs.map (cost sh)).sum).toNat, by omega⟩
        have hWw : words sh xs = (W : Int) := hW
        rw [hW]
        refine cd_exit (xt_exit_then (xt_exit_then (xt_exit_block (xt_then (cd_seq (cd_region (st_v (v_move rfl) (st_cl rfl rfl en45 rfl (spaceOf_ct' (fr := 1) (n := W) rfl rfl (by omega) (by omega)) ?_))))))))
        rintro v1 h1' ⟨ly, hy1, hy2, rfl, rfl⟩
        refine st_v (v_move rfl) (st_v (v_add rfl rfl (by unfold I64 at *; omega)) (st_cl rfl rfl en45 rfl (spaceOf_ct' (fr := 1 + W) (n := 1) (by omega) rfl (by omega) (by omega)) ?_))
        rintro v1 h2' ⟨ln, hn1, hn2, rfl, rfl⟩
        refine st_v (v_move rfl) (st_v (v_add rfl rfl (by unfold I64 at *; omega)) (st_cl rfl rfl en45 rfl (spaceOf_ct' (fr := 1 + W + 1) (n := 1) (by omega) rfl (by omega) (by omega)) ?_))
        rintro v3 h3' ⟨lo, ho1, ho2, rfl, rfl⟩
        unfold spSH
        simp only [List.cons_append, List.nil_append]
        refine st_makeMap (ltn rfl) fun mp => ?_
        refine st_v (v_move rfl) (st_v (v_build (cells := [.slice a sh.length cp, .pointer (some ⟨ly.sb, 0, none⟩), .pointer (some ⟨ln.sb, 0, none⟩), .pointer (some ⟨lo.sb, 0, none⟩), .slice none 0 0, .bool false, .int .i64 0, .map (some mp), .int .i64 0]) rfl (fun _ => by kernel_rfl)) ?_)
        refine st_bx rfl rfl fun b72 => ?_
        refine st_v (v_assign rfl) (st_nil (nx_kp [1, 2, 6, 13] rfl (nx_then (cd_seq (cd_region (st_v (v_move rfl) (st_v (v_move rfl) (st_make (n := N) rfl rfl rfl Try.underlying34 inf3 rfl (by omega) (by omega) (ltn rfl) fun b1 => ?_))))))))
        refine st_v (v_build (cells := [.pointer (some ⟨b72, 0, none⟩), .slice (some ⟨b1, 0, none⟩) N N, .bool true]) rfl (fun _ => by kernel_rfl)) ?_
        refine st_bx rfl rfl fun b77 => ?_
        refine st_v (v_assign rfl) (st_nil (nx_kp [2, 6, 13, 14] rfl (nx_then (cd_seq (cd_seq (cd_region (st_v (v_move rfl) (st_v (v_len (congrArg some hxv) Try.underlying62) (st_v (v_move rfl) (st_nil (nx_kp [6, 13, 14, 78, 79, 80] rfl (nx_then (cd_block (cd_ne (a := ly.sb) (b := ln.sb) (by repeat (first | exact Sel.here | apply Sel.there)) (by repeat (first | exact Sel.here | apply Sel.there)) fun hyn => ?_))))))))))))))
        refine cd_ne (a := ly.sb) (b := lo.sb) (by repeat (first | exact Sel.here | apply Sel.there)) (by repeat (first | exact Sel.here | apply Sel.there)) fun hyo => ?_
        refine cd_ne (a := ln.sb) (b := lo.sb) (by repeat (first | exact Sel.here | apply Sel.there)) (by repeat (first | exact Sel.here | apply Sel.there)) fun hno => ?_
        refine cd_vecnil 131 2 ?_
        refine cd_shut (v := .slice (some ⟨b1, 0, none⟩) N N) (E := 3) (sz := 1) (n := N) (l := ints (List.replicate N 0)) (l' := ints (List.replicate N 0)) (b := b1) (cp := N) (j := []) ⟨rfl, by simp [ints], Nat.le_refl _, by unfold maxLen; omega, by simp [ints]⟩ rfl (by rw [show ints (List.replicate N 0) ++ [] = List.replicate N (.int .i64 0) by simp [ints]]; exact (by repeat (first | exact Sel.here | apply Sel.there))) ?_
        have I0 : MI ⟨b72, .slice a sh.length cp, .slice none 0 0, mp, ly, ln, lo⟩ (Mem.new sh 1 W) R (new' sh 1 (words sh xs)) := by
          refine ⟨?_, hyn, hyo, hno, hS⟩
          have := Rel.new (sh := sh) (half := 1) (young := W) (by omega) (by omega)
          rw [hWw]
          exact this
        have hF0 : Fine (new' sh 1 (words sh xs)) := ⟨_, _, _, _, _, Good.newS (by omega) (by omega) (by omega) (by omega) (by omega) (fun l hl => by have := hw l hl; omega)⟩
        obtain ⟨L0, hL0⟩ : ∃ L0 : MemL, L0 = ⟨b72, .slice a sh.length cp, .slice none 0 0, mp, ly, ln, lo⟩ := ⟨_, rfl⟩
        have hmb : L0.mb = b72 := by rw [hL0]
        rw [← hL0] at I0
        refine cd_loop (σ := MdS) (fun s => [(6, .pointer (some ⟨b6, 0, none⟩)), (13, .pointer (some ⟨b72, 0, none⟩)), (14, .pointer (some ⟨b77, 0, none⟩)), (78, v2), (79, .int .i64 xs.length), (80, .int .i64 (s.i : Nat))]) (fun s => memSH s.L s.μ R ++ [plR b77 b72 s.rv true, vec s.rv 3 1 (acts true (xs.take s.i) (new' sh 1 (words sh xs)) (List.replicate N 0)).2.2.length (ints (acts true (xs.take s.i) (new' sh 1 (words sh xs)) (List.replicate N 0)).2.2), pt b6 (cl [.slice none 0 0, .slice none 0 0, .slice none 0 0] 42)] ++ hr) (fun s => s.i ≤ xs.length ∧ MI s.L s.μ R (acts true (xs.take s.i) (new' sh 1 (words sh xs)) (List.replicate N 0)).2.1 ∧ s.L.mb = b72) (fun s => xs.length - s.i) ⟨0, L0, Mem.new sh 1 W, .slice (some ⟨b1, 0, none⟩) N N⟩ ⟨Nat.zero_le _, I0, hmb⟩ ⟨rfl, rfl, rfl, rfl, rfl, rfl, trivial⟩ (by rw [hL0]; unfold memSH plR; simp only [List.cons_append, List.nil_append, List.take_zero, acts, List.length_replicate]; exact (by (repeat (refine Sub.sel (by repeat (first | exact Sel.here | apply Sel.there)) ?_)); (repeat apply Sub.cons); first | exact Sub.refl _ | exact Sub.nil _)) ?_
        rintro ⟨i, L, μ, rv⟩ ⟨hi, I, hL⟩
        dsimp only at hi I hL ⊢
        unfold memSH plR
        simp only [List.cons_append, List.nil_append, List.append_assoc]
        refine cd_seq (cd_region (st_v (v_lss rfl rfl) (st_nil (nx_then (cd_seq (cd_cond rfl (fun hd => ?_) (fun hd => ?_)))))))
        · skip
          have hlt : i < xs.length := by simpa using hd
          obtain ⟨b, o, cp', hv', hrds⟩ := hX.at hlt
          obtain ⟨ly', ln', lf', φ', A', hg⟩ := Fine.acts true (xs.take i) hF0 (List.replicate N 0)
          have hlen : (acts true (xs.take i) (new' sh 1 (words sh xs)) (List.replicate N 0)).2.2.length ≤ 1000000 := by rw [acts_len, List.length_replicate]; omega
          have hact := act_c (pb := b77) (rv := rv) (en := true) (k := xs[i].k) (a := xs[i].a) (b := xs[i].b) (c := xs[i].c) I hg hlen (ha _ (List.getElem_mem hlt))
          have hsn := acts_snoc true (xs.take i) xs[i] (new' sh 1 (words sh xs)) (List.replicate N 0)
          rw [← List.take_succ_eq_append_getElem hlt] at hsn
          unfold playSH memSH plR at hact
          rw [hL] at hact
          simp only [List.cons_append, List.nil_append] at hact
          refine cd_skip (xt_then (cd_seq (cd_block (cd_seq (cd_region (st_v (v_indexAddr (congrArg some hv') rfl sl62 rfl hlt rfl) (st_v (v_loadR rfl ld78 rfl (by repeat (first | exact Sel.here | apply Sel.there)) hrds) ?_)))))))
          refine st_alc al78 fun b16 => ?_
          refine st_stoW rfl rfl sz78 rfl rfl ?_
          refine st_nil (nx_kp [6, 13, 14, 16, 78, 79, 80] rfl (nx_then (cd_region (st_v (v_move rfl) (st_v (v_loadW rfl ld78 rfl (by repeat (first | exact Sel.here | apply Sel.there))) ?_)))))
          refine st_cl rfl rfl en79 rfl (hact) ?_
          rintro v' h' ⟨L1, μ1, rv1, rfl, I1, hL1, rfl⟩
          unfold playSH memSH plR
          simp only [List.cons_append, List.nil_append]
          rw [hL1, hL]
          refine st_nil (nx_kp [6, 13, 14, 78, 79, 80] rfl (nx_xt (xt_normal_block (xt_then (cd_region (st_v (v_add rfl rfl (by unfold I64 at *; omega)) (st_v (v_move rfl) (st_nil (nx_kp [6, 13, 14, 78, 79, 80] rfl (nx_xt ?_))))))))))
          have hi2 : (acts true (xs.take (i + 1)) (new' sh 1 (words sh xs)) (List.replicate N 0)).2 = (AM.act true (acts true (xs.take i) (new' sh 1 (words sh xs)) (List.replicate N 0)).2.1 (acts true (xs.take i) (new' sh 1 (words sh xs)) (List.replicate N 0)).2.2 ⟨xs[i].k, xs[i].a, xs[i].b, xs[i].c⟩).2 := by rw [hsn]
          refine xt_ag (⟨i + 1, L1, μ1, rv1⟩ : MdS) ⟨hlt, by dsimp only; rw [hi2]; exact I1, hL1.trans hL⟩ (by dsimp only; omega) (by repeat (first | exact trivial | refine ⟨rfl, ?_⟩)) ?_
          dsimp only
          rw [hi2]
          exact (by (repeat (refine Sub.sel (by repeat (first | exact Sel.here | apply Sel.there)) ?_)); (repeat apply Sub.cons); first | exact Sub.refl _ | exact Sub.nil _)
        · skip
          have hge : i = xs.length := by
            have : ¬ i < xs.length := by simpa using hd
            omega
          subst hge
          rw [List.take_length] at I ⊢
          have hst0 := Wst.new (sh := sh) (half := 1) (young := words sh xs) (by omega) (by omega) (by omega) (by omega) (by omega) (fun l hl => by have := hw l hl; omega) (n := N) (by omega)
          obtain ⟨A1, xs1, hst1⟩ := hst0.acts_any true xs
          have hro := hst1.rooted
          obtain ⟨ly', ln', lf', φ', A', hg⟩ := Fine.acts true xs hF0 (List.replicate N 0)
          have hpe0 : ((acts true xs (new' sh 1 (words sh xs)) (List.replicate N 0)).2.1.pictured (acts true xs (new' sh 1 (words sh xs)) (List.replicate N 0)).2.2).2 = 0 := by
            unfold AM.pictured
            rw [if_neg (by rw [hro]; simp)]
          have hlen : (acts true xs (new' sh 1 (words sh xs)) (List.replicate N 0)).2.2.length ≤ 1000000 := by rw [acts_len, List.length_replicate]; omega
          refine cd_exit (xt_exit_then (xt_exit_then (xt_exit_block (xt_then (cd_seq (cd_region (st_v (v_move rfl) (st_v (v_move rfl) (st_v (v_nilCheck rfl) (st_v (v_fieldAddr rfl fa140_1 rfl) (st_v (v_ld rfl ld34) ?_)))))))))))
          refine st_vecshape (v := rv) (E := 3) (sz := 1) (by repeat (first | exact Sel.here | apply Sel.there)) fun ra rcp hrv hra => ?_
          have hpt := hpicture_ct I hg (rowI_vec hrv hra rfl) hlen
          rw [hpe0, hL] at hpt
          unfold memSH at hpt
          simp only [List.cons_append, List.nil_append] at hpt
          refine st_cl rfl rfl en19 rfl (hpt) ?_
          rintro v' h' ⟨sv2, fv2, rv2, us2, rfl, hPF, rfl⟩
          have q1 := VForm.one hPF.s; have q2 := VForm.one hPF.f; have q3 := VForm.one hPF.r
          simp only [List.cons_append, List.nil_append]
          refine st_v (v_extract rfl rfl) (st_v (v_extract rfl rfl) (st_stoW rfl rfl sz42 rfl (by simp only [List.all_cons, List.all_nil, q1, q2, q3]; rfl) ?_))
          refine st_v (v_assign rfl) (st_nil (nx_kp [6, 7] rfl (nx_then (cd_ret ?_))))
          rw [hp]
          exact xt_retV (.cellN rfl ld42 rfl (by repeat (first | exact Sel.here | apply Sel.there)) (.tmp rfl .nil)) (.inr ⟨rfl, sv2, fv2, rv2, us2, rfl, hPF, rfl⟩) (by (repeat (refine Sub.sel (by repeat (first | exact Sel.here | apply Sel.there)) ?_)); (repeat apply Sub.cons); first | exact Sub.refl _ | exact Sub.nil _)
end
end Go.Proofs.Ytmhmpjgkkpbnnaa
namespace Go.Proofs.Ytmhmpjgkkpbnnaa
open Go.Ck Fx Go.Hm Go.Hm.AM
attribute [local irreducible] St Cd Xt Nx DrL LsW
section
variable {R : Res} {v0 v4 : Value} {sh : List (List Bool)} {xs : List Go.Hm.Act} {half young n : Int}
theorem err_same {H Y : Int} (h1 : 1 ≤ H) (h2 : H ≤ 600) (h3 : 1 ≤ Y) (h4 : Y ≤ 100) : playErr sh H Y n xs = modErr sh n xs := by
  unfold playErr modErr
  have hs : sized sh = 0 ∨ sized sh = 3 := by unfold sized; split; exact .inr rfl; exact .inl rfl
  have hn : newErr sh H Y = sized sh := by
    unfold newErr
    rw [show decide (4096 < H) = false from decide_eq_false (by omega), show decide (1024 < Y) = false from decide_eq_false (by omega), show decide (H < 1) = false from decide_eq_false (by omega), show decide (Y < 1) = false from decide_eq_false (by omega)]
    rcases hs with h | h <;> rw [h] <;> rfl
  rw [hn]
  by_cases hz : sized sh = 0
  · rw [if_pos hz, if_neg (by rw [hz]; simp)]
  · rw [if_neg hz, if_pos hz]
set_option maxHeartbeats 4000000 in
set_option maxRecDepth 100000 in
theorem heapLoses_c (hS : Shp R v0 sh) (hs0 : sh.length ≤ maxLen) (hX : ActsV R v4 xs) (ha : ∀ x ∈ xs, I64 x.a) (hh : 0 ≤ half ∧ half < 65536) (hy : 0 ≤ young ∧ young < 65536) (hn : 0 ≤ n ∧ n < 256) :
    Ct Try.prog 11 #[v0, .int .u16 half, .int .u16 young, .int .u8 n, v4] [R] fun u h' => u = .bool true ∧ h' = [R] := by
  obtain ⟨a, cp, hv, _⟩ := id hS
  obtain ⟨xa, xcp, hxv, _⟩ := id hX
  refine ct_of (n := 102) Try.func11 rfl rfl (len rfl) fun hr w0 => ?_
  simp only [List.cons_append, List.nil_append]
  refine cd_seq (cd_region (st_v (v_assign rfl) (st_nil (nx_then (cd_seq (cd_seq (cd_region (st_v (v_move rfl) (st_v (v_move rfl) (st_clr rfl rfl en28 rfl (light_ct hS hs0 hX) ?_))))))))))
  refine st_v (v_not rfl) (st_nil (nx_kp [0, 1, 2, 3, 4, 10, 25] rfl (nx_then (cd_cond rfl (fun hc => ?_) (fun hc => ?_)))))
  · skip
    refine cd_seq (cd_region (st_cl rfl rfl en14 rfl (sanity_c) ?_))
    rintro v' h' ⟨rfl, rfl⟩
    simp only [List.nil_append]
    refine st_v (v_assign rfl) (st_nil (nx_kp [0, 1, 2, 3, 4, 10] rfl (nx_then (cd_ret (xt_ret_then ?_)))))
    exact xt_rt rfl ⟨rfl, rfl⟩ (by (repeat (refine Sub.sel (by repeat (first | exact Sel.here | apply Sel.there)) ?_)); (repeat apply Sub.cons); first | exact Sub.refl _ | exact Sub.nil _)
  · skip
    have hl : lightp sh xs = true := by simpa using hc
    have hsl : sh.length ≤ 1000000 := by
      unfold lightp at hl
      simp only [Bool.and_eq_true, decide_eq_true_eq] at hl
      omega
    refine cd_skip (xt_then (cd_seq (cd_region (st_v (v_move rfl) (st_v (v_move rfl) (st_clr rfl rfl en29 rfl (spaces_ct hh hy) ?_))))))
    refine st_v (v_move rfl) (st_v (v_extract rfl rfl) (st_v (v_extract rfl rfl) (st_v (v_assign rfl) (st_v (v_assign rfl) (st_nil (nx_kp [0, 3, 4, 10, 11, 12] rfl (nx_then (cd_seq (cd_region (st_v (v_move rfl) ?_))))))))))
    have hn1 : IntKind.wrap .i64 n = n := I64.wrap (by unfold I64; omega)
    obtain ⟨p1, p2⟩ := tmod_bd (k := 21) (by omega) hn.1
    have hp1 := pick1_bd (k := 600) (by omega) hh.1
    have hp2 := pick1_bd (k := 100) (by omega) hy.1
    refine st_v (v_conv rfl Try.underlying5 Try.underlying3 hn1) (st_v (v_rem rfl rfl (by decide) (I64.wrap (by unfold I64; omega))) ?_)
    obtain ⟨N, hN⟩ : ∃ N : Nat, n.tmod 21 = N := ⟨(n.tmod 21).toNat, by omega⟩
    rw [hN]
    rw [hN] at p1 p2
    refine st_v (v_assign rfl) (st_nil (nx_kp [0, 4, 10, 11, 12, 13] rfl (nx_then (cd_seq (cd_region (st_v (v_move rfl) (st_v (v_move rfl) (st_v (v_move rfl) (st_v (v_move rfl) (st_v (v_move rfl) ?_))))))))))
    have hes : playErr sh (pick1 600 half) (pick1 100 young) N xs = modErr sh N xs := err_same hp1.1 hp1.2 hp2.1 hp2.2
    refine st_cl rfl rfl en30 rfl (play_c (half := pick1 600 half) (young := pick1 100 young) (n := N) hS hsl hX ha) ?_
    rintro v' h' hu
    rcases hu with ⟨hne, rfl, rfl⟩ | ⟨hpe, hne, hN0, hN2, hxl, L0, μ0, S1, rv0, ev0, rfl, I0, rfl⟩
    · skip
      simp only [List.cons_append, List.nil_append]
      rw [hes] at hne ⊢
      refine st_v (v_move rfl) (st_v (v_extract rfl rfl) (st_v (v_extract rfl rfl) (st_v (v_extract rfl rfl) (st_v (v_extract rfl rfl) (st_v (v_assign rfl) (st_v (v_assign rfl) (st_v (v_assign rfl) (st_v (v_assign rfl) (st_nil (nx_kp [0, 4, 10, 13, 14, 15, 16, 17] rfl (nx_then (cd_seq (cd_region (st_v (v_move rfl) (st_v (v_move rfl) ?_)))))))))))))))
      refine st_v (v_move rfl) (st_cl rfl rfl en37 rfl (model_c hS hsl hX ha) ?_)
      rintro v' h' hu
      rcases hu with ⟨_, rfl, rfl⟩ | ⟨hq, _⟩
      · skip
        simp only [List.cons_append, List.nil_append]
        refine st_v (v_move rfl) (st_v (v_extract rfl rfl) (st_v (v_extract rfl rfl) (st_alc al42 fun b18 => ?_)))
        refine st_stoW rfl rfl sz42 rfl rfl ?_
        refine st_v (v_assign rfl) (st_nil (nx_kp [4, 10, 13, 14, 15, 16, 17, 18, 19] rfl (nx_then (cd_seq (cd_seq (cd_region (st_v (v_move rfl) (st_v (v_neq rfl rfl) (st_v (v_move rfl) ?_)))))))))
        rw [show (modErr sh N xs != 0) = true by simpa using hne]
        refine st_sk rfl rfl rfl ?_
        refine st_sk rfl rfl rfl ?_
        refine st_v (v_pick_true rfl rfl) (st_nil (nx_kp [4, 10, 13, 14, 15, 16, 17, 18, 19, 59] rfl (nx_then (cd_true rfl ?_))))
        refine cd_seq (cd_region (st_cl rfl rfl en14 rfl (sanity_c) ?_))
        rintro v' h' ⟨rfl, rfl⟩
        simp only [List.nil_append]
        refine st_v (v_move rfl) (st_vg rfl rfl (v_move rfl) (st_vg rfl rfl (v_move rfl) (st_vg rfl rfl (v_eql rfl rfl) (st_v (v_pick_true rfl rfl) (st_v (v_assign rfl) (st_nil (nx_kp [4, 10, 13, 14, 15, 16, 18] rfl (nx_then (cd_ret (xt_ret_then ?_))))))))))
        rw [beq_self_eq_true]
        exact xt_rt rfl ⟨rfl, rfl⟩ (by (repeat (refine Sub.sel (by repeat (first | exact Sel.here | apply Sel.there)) ?_)); (repeat apply Sub.cons); first | exact Sub.refl _ | exact Sub.nil _)
      · exact absurd hq hne
    · skip
      simp only [List.cons_append, List.nil_append]
      rw [hes] at hpe
      refine st_v (v_move rfl) (st_v (v_extract rfl rfl) (st_v (v_extract rfl rfl) (st_v (v_extract rfl rfl) (st_v (v_extract rfl rfl) (st_v (v_assign rfl) (st_v (v_assign rfl) (st_v (v_assign rfl) (st_v (v_assign rfl) (st_nil (nx_kp [0, 4, 10, 13, 14, 15, 16, 17] rfl (nx_then (cd_seq (cd_region (st_v (v_move rfl) (st_v (v_move rfl) ?_)))))))))))))))
      refine st_v (v_move rfl) (st_cl rfl rfl en37 rfl (model_c hS hsl hX ha) ?_)
      rintro v' h' hu
      rcases hu with ⟨hq, _, _⟩ | ⟨_, sv1, fv1, rv1, us1, rfl, hPM, rfl⟩
      · exact absurd hpe hq
      · skip
        have u1 := VForm.one hPM.s; have u2 := VForm.one hPM.f; have u3 := VForm.one hPM.r
        simp only [List.cons_append, List.nil_append]
        refine st_v (v_move rfl) (st_v (v_extract rfl rfl) (st_v (v_extract rfl rfl) (st_alc al42 fun b18 => ?_)))
        refine st_stoW rfl rfl sz42 rfl (by simp only [List.all_cons, List.all_nil, u1, u2, u3]; rfl) ?_
        refine st_v (v_assign rfl) (st_nil (nx_kp [4, 10, 13, 14, 15, 16, 17, 18, 19] rfl (nx_then (cd_seq (cd_seq (cd_region (st_v (v_move rfl) (st_v (v_neq rfl rfl) (st_v (v_move rfl) (st_vg rfl rfl (v_move rfl) (st_vg rfl rfl (v_neq rfl rfl) (st_v (v_pick_false rfl rfl) (st_nil (nx_kp [4, 10, 13, 14, 15, 16, 17, 18, 19, 59] rfl (nx_then (cd_false rfl ?_))))))))))))))))
        refine cd_skip (xt_then (cd_seq (cd_region (st_v (v_move rfl) (st_v (v_move rfl) ?_)))))
        obtain ⟨z5, z6, z1, z2, z3, z4⟩ := lightp_sz hl hne
        have hmz : sized sh = 0 := by
          unfold modErr at hpe
          by_cases hz : sized sh = 0
          · exact hz
          · rw [if_pos hz] at hpe; exact hpe
        obtain ⟨_, w1, w2⟩ := sized_ok hmz
        have hws := cost_sum w2 xs
        have hwd : words sh xs = 1 + (xs.map (cost sh)).sum := rfl
        have hst0 := Wst.new (sh := sh) z1 z2 z3 z4 z5 z6 (n := N) (by omega)
        obtain ⟨A1, xs1, hst1⟩ := hst0.acts_any false xs
        have hro := hst1.rooted
        have hF := Fine.acts false xs (fine_new hne) (List.replicate N 0)
        have hzp := pictured_sz hF (roots := (acts false xs (new' sh (pick1 600 half) (pick1 100 young)) (List.replicate N 0)).2.2) (by rw [acts_len, List.length_replicate]; omega)
        have hpe0 : ((acts false xs (new' sh (pick1 600 half) (pick1 100 young)) (List.replicate N 0)).2.1.pictured (acts false xs (new' sh (pick1 600 half) (pick1 100 young)) (List.replicate N 0)).2.2).2 = 0 := by
          unfold AM.pictured
          rw [if_neg (by rw [hro]; simp)]
        have hsame : noFull sh (pick1 600 half) (pick1 100 young) N xs → ((acts false xs (new' sh (pick1 600 half) (pick1 100 young)) (List.replicate N 0)).2.1.pictured (acts false xs (new' sh (pick1 600 half) (pick1 100 young)) (List.replicate N 0)).2.2).1 = modPic sh N xs := fun g1 => by
          have := acts_same z1 z2 z3 z4 (show (1 : Int) ≤ 1 by omega) (show (1 : Int) ≤ 100000 by omega) (show 1 ≤ words sh xs by omega) (show words sh xs ≤ 400000 by omega) z5 z6 (n := N) (by omega) (en := false) (en' := true) (fun _ _ => rfl) g1 (new_en (by omega) (by omega) (by omega) (by omega) z5 z6 (by omega) (by omega))
          rw [this]; rfl
        have hnf : (acts false xs (new' sh (pick1 600 half) (pick1 100 young)) (List.replicate N 0)).1.contains 14 = false → noFull sh (pick1 600 half) (pick1 100 young) N xs := fun hq e he h14 => by
          rw [h14] at he
          rw [List.contains_iff_mem.2 he] at hq
          cases hq
        have hrl : (acts false xs (new' sh (pick1 600 half) (pick1 100 young)) (List.replicate N 0)).2.2.length = N := by rw [acts_len, List.length_replicate]
        have hel : (acts false xs (new' sh (pick1 600 half) (pick1 100 young)) (List.replicate N 0)).1.length = xs.length := acts_errs ..
        rw [Int.toNat_natCast] at I0 ⊢
        obtain ⟨ly, ln, lf, φ, A, hg⟩ := id hF
        generalize (acts false xs (new' sh (pick1 600 half) (pick1 100 young)) (List.replicate N 0)).2.1 = M at *
        generalize (acts false xs (new' sh (pick1 600 half) (pick1 100 young)) (List.replicate N 0)).2.2 = r0 at *
        generalize (acts false xs (new' sh (pick1 600 half) (pick1 100 young)) (List.replicate N 0)).1 = e0 at *
        refine st_vecshape (v := rv0) (E := 3) (sz := 1) (by repeat (first | exact Sel.here | apply Sel.there)) fun ra rcp hrv hra => ?_
        refine st_vecshape (v := ev0) (E := 28) (sz := 1) (by repeat (first | exact Sel.here | apply Sel.there)) fun ea ecp hev hea => ?_
        have hpt := hpicture_ct I0 hg (rowI_vec hrv hra rfl) (by omega)
        rw [hpe0] at hpt
        have hct := containsE_ct (x := 14) (rowI_vecE (E := 28) hev hea rfl) (by omega)
        have hck := check_c I0 hg
        rw [hel] at hev
        rw [hrl] at hrv
        unfold memSH at hpt hck
        simp only [List.cons_append, List.nil_append] at hpt ⊢
        refine st_cl rfl rfl en19 rfl (hpt) ?_
        rintro v' h' ⟨sv2, fv2, rv2, us2, rfl, hPF, rfl⟩
        have q1 := VForm.one hPF.s; have q2 := VForm.one hPF.f; have q3 := VForm.one hPF.r
        simp only [List.cons_append, List.nil_append]
        refine st_v (v_move rfl) (st_v (v_extract rfl rfl) (st_v (v_extract rfl rfl) (st_alc al42 fun b20 => ?_)))
        refine st_stoW rfl rfl sz42 rfl (by simp only [List.all_cons, List.all_nil, q1, q2, q3]; rfl) ?_
        refine st_v (v_assign rfl) (st_nil (nx_kp [4, 10, 13, 14, 15, 16, 18, 20, 21] rfl (nx_then (cd_seq (cd_seq (cd_region (st_v (v_move rfl) (st_v (v_neq rfl rfl) (st_v (v_move rfl) (st_vg rfl rfl (v_move rfl) (st_clrg rfl rfl rfl rfl en26 rfl (hck) ?_)))))))))))
        refine st_vg rfl rfl (v_neq rfl rfl) (st_v (v_pick_false rfl rfl) (st_v (v_move rfl) (st_vg rfl rfl (v_move rfl) (st_vg rfl rfl (v_len (congrArg some hev) Try.underlying66) (st_vg rfl rfl (v_move rfl) (st_vg rfl rfl (v_len (congrArg some hxv) Try.underlying62) (st_vg rfl rfl (v_neq_self rfl rfl) (st_v (v_pick_false rfl rfl) (st_v (v_move rfl) (st_vg rfl rfl (v_move rfl) (st_vg rfl rfl (v_len (congrArg some hrv) Try.underlying34) (st_vg rfl rfl (v_move rfl) (st_vg rfl rfl (v_neq_self rfl rfl) ?_)))))))))))))
        refine st_v (v_pick_false rfl rfl) (st_nil (nx_kp [10, 16, 18, 20, 91] rfl (nx_then (cd_false rfl ?_))))
        refine cd_skip (xt_then (cd_seq (cd_region (st_cl rfl rfl en14 rfl (sanity_c) ?_))))
        rintro v' h' ⟨rfl, rfl⟩
        simp only [List.nil_append]
        refine st_v (v_move rfl) (st_vg rfl rfl (v_move rfl) (st_clrg rfl rfl rfl rfl en35 rfl (hct) ?_))
        cases hE : e0.contains 14
        · skip
          have hq := hsame (hnf hE)
          rw [← hq] at hPM
          have hsp := Reads.unstar (samePictures_ct (R := Res.star [pR sv2 fv2 rv2 us2 (M.pictured r0).1, pR sv1 fv1 rv1 us1 (M.pictured r0).1]) (hPF.v.star .here) (hPM.v.star (.there .here)) hzp)
          rw [samePic_self] at hsp
          rw [← hq]
          refine st_vg rfl rfl (v_move rfl) (st_vg rfl rfl (v_loadW rfl ld42 rfl (by repeat (first | exact Sel.here | apply Sel.there))) ?_)
          refine st_vg rfl rfl (v_loadW rfl ld42 rfl (by repeat (first | exact Sel.here | apply Sel.there))) ?_
          refine st_clrg rfl rfl rfl rfl en22 rfl (hsp) ?_
          refine st_vg rfl rfl (v_pick_false rfl rfl) (st_v (v_pick_true rfl rfl) (st_v (v_assign rfl) (st_nil (nx_kp [10] rfl (nx_then (cd_ret ?_))))))
          exact xt_rt rfl ⟨rfl, rfl⟩ (by (repeat (refine Sub.sel (by repeat (first | exact Sel.here | apply Sel.there)) ?_)); (repeat apply Sub.cons); first | exact Sub.refl _ | exact Sub.nil _)
        · skip
          refine st_vg rfl rfl (v_move rfl) (st_sk rfl rfl rfl ?_)
          refine st_sk rfl rfl rfl ?_
          refine st_sk rfl rfl rfl ?_
          refine st_vg rfl rfl (v_pick_true rfl rfl) (st_v (v_pick_true rfl rfl) (st_v (v_assign rfl) (st_nil (nx_kp [10] rfl (nx_then (cd_ret ?_))))))
          exact xt_rt rfl ⟨rfl, rfl⟩ (by (repeat (refine Sub.sel (by repeat (first | exact Sel.here | apply Sel.there)) ?_)); (repeat apply Sub.cons); first | exact Sub.refl _ | exact Sub.nil _)
end
end Go.Proofs.Ytmhmpjgkkpbnnaa
namespace Go.Proofs.Ytmhmpjgkkpbnnaa
open Go Go.RowKit Go.ChangeShapes Go.WideShapes Go.Ck
set_option maxRecDepth 100000 in
theorem heapLosesNothing_lifted (os : Os) (started : os.Started) (H : Type) (enc : TypeId × Value → H) :
    ReturnsInHanded {} Try.checked os 11 .any (Rows.heapLosesNothingSpec.pre6 enc Try.prog Try.f11 Rows.heapLosesNothingRow.domain false) (Rows.heapLosesNothingSpec.post enc Try.prog Try.f11 false true false false) := by
  refine returnsInHanded_of_change (C := Try.checked) own' started (by kernel_rfl) Try.func11
    (ChangeSpec.witness6 (enc := enc) (C := Try.checked) false ⟨#[], #[.slice none 0 0, .int .u16 0, .int .u16 0, .int .u8 0, .slice none 0 0], []⟩ 8 (by kernel_rfl) (by kernel_rfl) (by kernel_rfl) (by kernel_rfl)) ?_
  intro W base args ds gs before hval0 hW hcnd _
  have hval : ∀ (j : Nat) t v, Try.f11.params[j]? = some t → args[j]? = some v → Value.okWide Try.prog W .any base t v := hval0
  have hW' := hW
  obtain ⟨p, q, hA0, hV, rfl, hfz, hnd⟩ := hW
  have hA : DataW.TrodAll enc Try.prog W 0 (fun _ => true) true Try.f11.params.toList args.toList ds p := hA0
  rw [Try.params11] at hA hval
  obtain ⟨v0, vs0, d0, ds0, p0, q0, hargs, rfl, rfl, h0, r0⟩ := trodAll_cons hA
  obtain ⟨v1, vs1, d1, ds1, p1, q1, rfl, rfl, rfl, h1, r1⟩ := trodAll_cons r0
  obtain ⟨v2, vs2, d2, ds2, p2, q2, rfl, rfl, rfl, h2, r2⟩ := trodAll_cons r1
  obtain ⟨v3, vs3, d3, ds3, p3, q3, rfl, rfl, rfl, h3, r3⟩ := trodAll_cons r2
  obtain ⟨v4, vs4, d4, ds4, p4, q4, rfl, rfl, rfl, h4, r4⟩ := trodAll_cons r3
  obtain ⟨rfl, rfl, rfl⟩ := trodAll_nil r4
  obtain rfl : args = #[v0, v1, v2, v3, v4] := by cases args; simp_all
  obtain ⟨rfl, rfl⟩ := trodVars_none hV
  obtain ⟨y0, e0⟩ := arg_one (ty := .slice (.slice .bool)) (by kernel_rfl) (by kernel_rfl) (hval 0 22 v0 rfl rfl) h0
  obtain ⟨y1, e1⟩ := arg_one (ty := .int .u16) (by kernel_rfl) (by kernel_rfl) (hval 1 61 v1 rfl rfl) h1
  obtain ⟨y2, e2⟩ := arg_one (ty := .int .u16) (by kernel_rfl) (by kernel_rfl) (hval 2 61 v2 rfl rfl) h2
  obtain ⟨y3, e3⟩ := arg_one (ty := .int .u8) (by kernel_rfl) (by kernel_rfl) (hval 3 5 v3 rfl rfl) h3
  obtain ⟨y4, e4⟩ := arg_one (ty := .slice actTy) (by kernel_rfl) (by kernel_rfl) (hval 4 62 v4 rfl rfl) h4
  obtain ⟨s0, l0⟩ := shp_of e0
  obtain ⟨s4, a4⟩ := acts_of e4
  obtain ⟨rfl, w1⟩ := rep_kind e1
  obtain ⟨rfl, w2⟩ := rep_kind e2
  obtain ⟨rfl, w3⟩ := rep_kind e3
  refine (ct_calls (heapLoses_c s0 l0 s4 a4 (wf_u16 w1) (wf_u16 w2) (wf_u8 w3)) fun v h' h => ⟨h.1, by rw [h.2]; exact .refl _⟩).mono fun e W' ⟨he, hk⟩ => ⟨_, he, ?_⟩
  exact law_post (tys := [.slice (.slice .bool), .int .u16, .int .u16, .int .u8, .slice actTy]) hW' rfl (by kernel_rfl) Try.underlying4 (by rw [Try.params11]; kernel_rfl) rfl hk
theorem heapLosesNothing_holds : Rows.HeapLosesNothingSaid :=
  OpenClaim.holds_of_wide 11 Try.f11 rfl rfl rfl rfl rfl rfl rfl ⟨rfl, rfl, rfl, rfl, rfl⟩ rfl rfl rfl rfl rfl (by kernel_rfl) Try.func11 (by kernel_rfl)
    (of_decide_eq_true (by kernel_rfl)) (by unfold Func.isWrapper; first | (rw [if_pos (by decide +kernel)]; kernel_rfl) | (rw [if_neg (by decide +kernel)]; exact ⟨rfl, rfl⟩))
    (fun os started H enc _ => heapLosesNothing_lifted os started H enc)
end Go.Proofs.Ytmhmpjgkkpbnnaa
