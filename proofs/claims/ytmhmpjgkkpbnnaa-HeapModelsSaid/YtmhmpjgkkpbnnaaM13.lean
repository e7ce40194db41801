/-
  Whether an error is among errors; the laws' light and spaces. Conditions: what the heap holds.
  Package heap's Model: the player where there is always room. Conditions: what the heap holds.
-/
import Derived.Test.YtmhmpjgkkpbnnaaM12
import Derived.Test.YtmhmpjgkkpbnnaaM5
namespace Go.Proofs.Ytmhmpjgkkpbnnaa
open Go.Ck Fx Go.Hm Go.Hm.AM
attribute [local irreducible] St Cd Xt Nx DrL LsW
section
def eidx (l : List Int) (x : Int) : Int := match l.findIdx? (· == x) with | some i => (i : Int) | none => -1
theorem eidx_has (l : List Int) (x : Int) : decide (0 ≤ eidx l x) = l.contains x := by
  unfold eidx
  cases h : l.findIdx? (· == x) with
  | none =>
    rw [List.findIdx?_eq_none_iff] at h
    have : l.contains x = false := by
      rw [List.contains_eq_mem, decide_eq_false_iff_not]
      intro hm; have := h x hm; simp at this
    rw [this]; rfl
  | some i =>
    have := List.findIdx?_eq_some_iff_getElem.1 h
    obtain ⟨h1, h2, _⟩ := this
    have hm : x ∈ l := by have : l[i] = x := by simpa using h2
                          rw [← this]; exact List.getElem_mem h1
    simp [hm]
theorem ecomm (a b : Int) : (a == b) = (b == a) := Bool.eq_iff_iff.2 (by simp only [beq_iff_eq]; exact eq_comm)
set_option maxRecDepth 100000 in
theorem indexE_ct {R : Res} {v : Value} {l : List Int} {x : Int} (hv : RowI R v l) (hl : l.length ≤ 1000000) : Reads Try.prog 87 #[v, .int .i64 x] [R] (.int .i64 (eidx l x)) := by
  obtain ⟨a, cp, hv1, _⟩ := id hv
  refine ct_of (n := 19) Try.func87 rfl rfl (len rfl) fun hr w0 => ?_
  refine cd_seq (cd_region (st_v (v_assign rfl) (st_nil (nx_then (cd_seq (cd_seq (cd_region (st_v (v_move rfl) (st_v (v_len (congrArg some hv1) Try.underlying66) (st_v (v_move rfl) (st_nil (nx_kp [0, 1, 4, 7, 8] rfl (nx_then (cd_block (cd_lp (σ := Nat) (fun i => [(0, v), (1, .int .i64 x), (7, .int .i64 l.length), (8, .int .i64 (i : Nat))]) (fun _ => R :: hr) (fun i => i ≤ l.length ∧ ∀ (j : Nat) (y : Int), j < i → l[j]? = some y → (y == x) = false) (fun i => l.length - i) 0 ⟨Nat.zero_le _, fun j y hj => by omega⟩ ?_)))))))))))))))
  rintro i ⟨hi, hne⟩
  refine cd_seq (cd_region (st_v (v_lss rfl rfl) (st_nil (nx_then (cd_seq (cd_cond rfl (fun hd => ?_) (fun hd => ?_)))))))
  · skip
    have hlt : i < l.length := by simpa using hd
    obtain ⟨b, o, cp2, hv2, hrd⟩ := RowI.at hv hlt
    refine cd_skip (xt_then (cd_seq (cd_block (cd_seq (cd_region (st_v (v_move rfl) (st_v (v_assign rfl) (st_nil (nx_kp [0, 1, 5, 7, 8] rfl (nx_then (cd_seq (cd_region (st_v (v_move rfl) (st_v (v_move rfl) (st_v (v_move rfl) ?_)))))))))))))))
    refine st_v (v_ixo i (congrArg some hv2) rfl sl66 rfl hlt) (st_v (v_ld rfl ld28) ?_)
    refine st_v (v_eql rfl rfl) (st_nil (nx_kp [0, 1, 5, 7, 8, 16] rfl (nx_then (cd_cond rfl (fun he => ?_) (fun he => ?_)))))
    · skip
      refine cd_seq (cd_region (st_v (v_move rfl) (st_v (v_assign rfl) (st_nil (nx_kp [0, 1, 4, 7, 8] rfl (nx_then (cd_ret (xt_ret_block (xt_ret_then (xt_ret_then (xt_ret_block (xt_ret_then ?_))))))))))))
      have hf : l.findIdx? (· == x) = some i := by
        rw [List.findIdx?_eq_some_iff_getElem]
        exact ⟨hlt, by rw [ecomm]; exact he, fun j hj => by have := hne j l[j] hj (List.getElem?_eq_getElem (by omega)); simpa using this⟩
      have hb : eidx l x = i := by unfold eidx; rw [hf]
      rw [hb]
      exact xt_rt rfl ⟨rfl, rfl⟩
    · skip
      refine cd_skip (xt_normal_block (xt_then (cd_region (st_v (v_add rfl rfl (by unfold I64 at *; omega)) (st_v (v_move rfl) (st_nil (nx_kp [0, 1, 7, 8] rfl (nx_xt (xt_ag (i + 1) ⟨hlt, fun j y hj hy => ?_⟩ (by show _ - _ < _ - _; omega))))))))))
      by_cases hji : j = i
      · subst hji; rw [List.getElem?_eq_getElem hlt] at hy; cases hy; rw [ecomm]; exact he
      · exact hne j y (by omega) hy
  · skip
    refine cd_exit (xt_exit_then (xt_exit_then (xt_exit_block (xt_then (cd_seq (cd_region (st_v (v_assign rfl) (st_nil (nx_kp [4] rfl (nx_then (cd_ret ?_)))))))))))
    have hge : l.length ≤ i := by simpa using hd
    have hb : eidx l x = -1 := by
      unfold eidx
      have : l.findIdx? (· == x) = none := List.findIdx?_eq_none_iff.2 fun y hy => by
        obtain ⟨j, hj, rfl⟩ := List.getElem_of_mem hy
        exact hne j _ (by omega) (List.getElem?_eq_getElem hj)
      rw [this]
    rw [hb]
    exact xt_rt rfl ⟨rfl, rfl⟩
set_option maxRecDepth 100000 in
theorem containsE_ct {R : Res} {v : Value} {l : List Int} {x : Int} (hv : RowI R v l) (hl : l.length ≤ 1000000) : Reads Try.prog 35 #[v, .int .i64 x] [R] (.bool (l.contains x)) := by
  rw [← eidx_has]
  refine ct_of (n := 9) Try.func35 rfl rfl (len rfl) fun hr w0 => ?_
  refine cd_seq (cd_region (st_v (v_assign rfl) (st_nil (nx_then (cd_seq (cd_region (st_v (v_move rfl) (st_v (v_move rfl) (st_clr rfl rfl en87 rfl (indexE_ct (x := x) hv hl) ?_)))))))))
  refine st_v (v_geq rfl rfl) (st_v (v_assign rfl) (st_nil (nx_kp [4] rfl (nx_then (cd_ret ?_)))))
  exact xt_rt rfl ⟨rfl, rfl⟩
end
section
variable {R : Res} {v0 v4 : Value} {sh : List (List Bool)} {xs : List Go.Hm.Act}
def lightp (sh : List (List Bool)) (xs : List Go.Hm.Act) : Bool := (decide ((sh.length : Int) ≤ 8) && fitp sh) && decide ((xs.length : Int) ≤ 300)
set_option maxRecDepth 100000 in
theorem light_ct (hS : Shp R v0 sh) (hs0 : sh.length ≤ maxLen) (hX : ActsV R v4 xs) : Reads Try.prog 28 #[v0, v4] [R] (.bool (lightp sh xs)) := by
  obtain ⟨a, cp, hv, _⟩ := id hS
  obtain ⟨xa, xcp, hxv, _⟩ := id hX
  unfold lightp
  refine ct_of (n := 17) Try.func28 rfl rfl (len rfl) fun hr w0 => ?_
  refine cd_seq (cd_region (st_v (v_assign rfl) (st_nil (nx_then (cd_seq (cd_region (st_v (v_move rfl) (st_v (v_len (congrArg some hv) Try.underlying22) (st_v (v_leq rfl rfl) (st_v (v_move rfl) (st_cut (k := 7) (d := 11) (v := .bool (decide ((sh.length : Int) ≤ 8) && fitp sh)) (fun hcut => bool_want (b := decide ((sh.length : Int) ≤ 8)) true (fun hg => ?_) (fun hg => ?_)) ?_)))))))))))
  · refine st_sk rfl rfl hg ?_
    refine st_sk rfl rfl hg ?_
    refine st_v (v_pick_false (bool_ev rfl hg) rfl) ?_
    exact hcut _ (ssub_head (by first | rfl | (rw [hg]; rfl) | simp_all) (ssub_skip rfl (ssub_skip rfl (ssub_refl))))
  · skip
    refine st_vg rfl (bool_get rfl hg) (v_move rfl) (st_clrg rfl (bool_get rfl hg) rfl rfl en12 rfl (fit_ct hS hs0) ?_)
    refine st_v (v_pick_true (bool_ev rfl hg) rfl) ?_
    exact hcut _ (ssub_head (by first | rfl | (rw [hg]; rfl) | simp_all) (ssub_skip rfl (ssub_skip rfl (ssub_refl))))
  refine st_v (v_move rfl) (st_cut (k := 12) (d := 16) (v := .bool ((decide ((sh.length : Int) ≤ 8) && fitp sh) && decide ((xs.length : Int) ≤ 300))) (fun hcut => bool_want (b := (decide ((sh.length : Int) ≤ 8) && fitp sh)) true (fun hg => ?_) (fun hg => ?_)) ?_)
  · refine st_sk rfl rfl hg ?_
    refine st_sk rfl rfl hg ?_
    refine st_sk rfl rfl hg ?_
    refine st_v (v_pick_false (bool_ev rfl hg) rfl) ?_
    exact hcut _ (ssub_head (by first | rfl | (rw [hg]; rfl) | simp_all) (ssub_skip rfl (ssub_skip rfl (ssub_skip rfl (ssub_refl)))))
  · skip
    refine st_vg rfl (bool_get rfl hg) (v_move rfl) (st_vg rfl (bool_get rfl hg) (v_len (congrArg some hxv) Try.underlying62) (st_vg rfl (bool_get rfl hg) (v_leq rfl rfl) (st_v (v_pick_true (bool_ev rfl hg) rfl) ?_)))
    exact hcut _ (ssub_head (by first | rfl | (rw [hg]; rfl) | simp_all) (ssub_skip rfl (ssub_skip rfl (ssub_skip rfl (ssub_refl)))))
  refine st_v (v_assign rfl) (st_nil (nx_kp [4] rfl (nx_then (cd_ret ?_))))
  exact xt_rt rfl ⟨rfl, rfl⟩
end
end Go.Proofs.Ytmhmpjgkkpbnnaa
namespace Go.Proofs.Ytmhmpjgkkpbnnaa
open Go.Ck Fx Go.Hm Go.Hm.AM
attribute [local irreducible] St Cd Xt Nx DrL LsW
def modErr (sh : List (List Bool)) (n : Int) (xs : List Go.Hm.Act) : Int := if sized sh ≠ 0 then sized sh else playedErr n xs
def words (sh : List (List Bool)) (xs : List Go.Hm.Act) : Int := 1 + (xs.map (cost sh)).sum
/-- The picture to which acts lead where there is always room. -/
def modPic (sh : List (List Bool)) (n : Int) (xs : List Go.Hm.Act) : Pic := ((acts true xs (new' sh 1 (words sh xs)) (List.replicate n.toNat 0)).2.1.pictured (acts true xs (new' sh 1 (words sh xs)) (List.replicate n.toNat 0)).2.2).1
theorem sized_ok {sh : List (List Bool)} (hz : sized sh = 0) : ShOk sh ∧ sh.length ≤ 60 ∧ ∀ l ∈ sh, l.length ≤ 60 := by
  unfold sized at hz
  by_cases hq : (decide (60 < (sh.length : Int)) || sh.any long) = true
  · rw [if_pos hq] at hz; cases hz
  · simp only [Bool.or_eq_true, decide_eq_true_eq, not_or, List.any_eq_true, not_exists, not_and] at hq
    have hw : ∀ l ∈ sh, l.length ≤ 60 := fun l hl => by have := hq.2 l hl; unfold long at this; simp at this; omega
    exact ⟨⟨by omega, fun l hl => by have := hw l hl; omega⟩, by omega, hw⟩
theorem cost_le {sh : List (List Bool)} (hw : ∀ l ∈ sh, l.length ≤ 60) (x : Go.Hm.Act) : 0 ≤ cost sh x ∧ cost sh x ≤ 61 := by
  refine ⟨cost_nonneg sh x, ?_⟩
  unfold cost
  split
  · split
    · omega
    · rename_i h
      simp only [Bool.or_eq_true, decide_eq_true_eq, not_or] at h
      have hk : x.b.toNat < sh.length := by omega
      rw [show sh.getD x.b.toNat [] = sh[x.b.toNat] from getD_lt hk]
      have := hw _ (List.getElem_mem hk)
      omega
  · omega
theorem cost_sum {sh : List (List Bool)} (hw : ∀ l ∈ sh, l.length ≤ 60) : ∀ xs : List Go.Hm.Act, 0 ≤ (xs.map (cost sh)).sum ∧ (xs.map (cost sh)).sum ≤ 61 * (xs.length : Int)
  | [] => by simp
  | x :: t => by
    have h1 := cost_le hw x
    have h2 := cost_sum hw t
    simp only [List.map_cons, List.sum_cons, List.length_cons]
    omega
structure MdS where
  i : Nat
  L : MemL
  μ : Mem
  rv : Value
section
variable {R : Res} {v0 v2 : Value} {sh : List (List Bool)} {xs : List Go.Hm.Act} {n : Int}
set_option maxHeartbeats 4000000 in
set_option maxRecDepth 100000 in
theorem model_c (hS : Shp R v0 sh) (hs0 : sh.length ≤ 1000000) (hX : ActsV R v2 xs) (ha : ∀ x ∈ xs, I64 x.a) : Ct Try.prog 37 #[v0, .int .i64 n, v2] [R] fun u h' =>
    (modErr sh n xs ≠ 0 ∧ u = .tuple #[.agg #[.slice none 0 0, .slice none 0 0, .slice none 0 0], .int .i64 (modErr sh n xs)] ∧ h' = [R]) ∨
    (modErr sh n xs = 0 ∧ ∃ sv fv rv us, u = .tuple #[.agg #[sv, fv, rv], .int .i64 0] ∧ PF sv fv rv us (modPic sh n xs) ∧ h' = [pR sv fv rv us (modPic sh n xs), R]) := by
  obtain ⟨a, cp, rfl, _⟩ := id hS
  obtain ⟨xa, xcp, hxv, _⟩ := id hX
  unfold modErr
  refine ct_of (n := 96) Try.func37 rfl rfl (len rfl) fun hr w0 => ?_
  simp only [List.cons_append, List.nil_append]
  refine cd_seq (cd_region (st_alc al42 fun b6 => ?_))
  refine st_v (v_assign rfl) (st_nil (nx_then (cd_seq (cd_seq (cd_region (st_v (v_move rfl) (st_clr rfl rfl en44 rfl (sized_ct hS hs0) ?_)))))))
  refine st_v (v_assign rfl) (st_nil (nx_kp [0, 1, 2, 6, 7, 8] rfl (nx_then (cd_seq (cd_region (st_v (v_move rfl) (st_v (v_neq rfl rfl) (st_nil (nx_kp [0, 1, 2, 6, 7, 8, 20] rfl (nx_then (cd_cond rfl (fun c1 => ?_) (fun c1 => ?_))))))))))))
  · skip
    have hz : sized sh ≠ 0 := by simpa using c1
    rw [if_pos hz]
    refine cd_seq (cd_region (st_v (v_build (cells := [.slice none 0 0, .slice none 0 0, .slice none 0 0]) rfl (fun _ => by kernel_rfl)) ?_))
    refine st_v (v_move rfl) (st_stoW rfl rfl sz42 rfl rfl ?_)
    refine st_v (v_assign rfl) (st_nil (nx_kp [0, 1, 2, 6, 7] rfl (nx_then (cd_ret (xt_ret_then ?_)))))
    exact xt_retV (.cellN rfl ld42 rfl (by repeat (first | exact Sel.here | apply Sel.there)) (.tmp rfl .nil)) (.inl ⟨hz, rfl, rfl⟩) (by repeat (first | exact Sub.refl _ | exact Sub.nil _ | refine Sub.sel (by repeat (first | exact Sel.here | apply Sel.there)) ?_ | apply Sub.cons))
  · skip
    have hz : sized sh = 0 := by simpa using c1
    obtain ⟨hso, hs1, hw⟩ := sized_ok hz
    rw [if_neg (by rw [hz]; simp)]
    refine cd_skip (xt_then (cd_seq (cd_seq (cd_region (st_v (v_move rfl) (st_v (v_move rfl) (st_clr rfl rfl en78 rfl (played_ct hX) ?_)))))))
    refine st_v (v_assign rfl) (st_nil (nx_kp [0, 1, 2, 6, 7, 9] rfl (nx_then (cd_seq (cd_region (st_v (v_move rfl) (st_v (v_neq rfl rfl) (st_nil (nx_kp [0, 1, 2, 6, 7, 9, 27] rfl (nx_then (cd_cond rfl (fun c2 => ?_) (fun c2 => ?_))))))))))))
    · skip
      have hp : playedErr n xs ≠ 0 := by simpa using c2
      refine cd_seq (cd_region (st_v (v_build (cells := [.slice none 0 0, .slice none 0 0, .slice none 0 0]) rfl (fun _ => by kernel_rfl)) ?_))
      refine st_v (v_move rfl) (st_stoW rfl rfl sz42 rfl rfl ?_)
      refine st_v (v_assign rfl) (st_nil (nx_kp [0, 1, 2, 6, 7] rfl (nx_then (cd_ret (xt_ret_then ?_)))))
      exact xt_retV (.cellN rfl ld42 rfl (by repeat (first | exact Sel.here | apply Sel.there)) (.tmp rfl .nil)) (.inl ⟨hp, rfl, rfl⟩) (by repeat (first | exact Sub.refl _ | exact Sub.nil _ | refine Sub.sel (by repeat (first | exact Sel.here | apply Sel.there)) ?_ | apply Sub.cons))
    · skip
      have hp : playedErr n xs = 0 := by simpa using c2
      have hp' := hp
      unfold playedErr at hp'
      have hq : ¬ (decide (200 < n) || decide (2000 < (xs.length : Int))) = true := fun hh => by rw [if_pos hh] at hp'; cases hp'
      rw [if_neg hq] at hp'
      have hn0 : 0 ≤ n := by
        by_cases h0 : n < 0
        · rw [if_pos h0] at hp'; cases hp'
        · omega
      simp only [Bool.or_eq_true, decide_eq_true_eq, not_or] at hq
      obtain ⟨N, rfl⟩ : ∃ N : Nat, n = N := ⟨n.toNat, by omega⟩
      have hbd : ∀ i, 0 ≤ ((xs.take i).map (cost sh)).sum ∧ ((xs.take i).map (cost sh)).sum ≤ 122000 := fun i => by
        have := cost_sum hw (xs.take i)
        have hl : (xs.take i).length ≤ 2000 := by rw [List.length_take]; omega
        omega
      refine cd_skip (xt_then (cd_seq (cd_region (st_v (v_assign rfl) (st_nil (nx_kp [0, 1, 2, 6, 7, 10] rfl (nx_then (cd_seq (cd_seq (cd_region (st_v (v_move rfl) (st_v (v_len (congrArg some hxv) Try.underlying62) (st_v (v_move rfl) (st_nil (nx_then (cd_block ?_))))))))))))))))
      refine cd_loop (σ := Nat) (fun i => [(0, .slice a sh.length cp), (1, .int .i64 N), (2, v2), (6, .pointer (some ⟨b6, 0, none⟩)), (10, .int .i64 (1 + ((xs.take i).map (cost sh)).sum)), (30, v2), (31, .int .i64 xs.length), (32, .int .i64 (i : Nat))]) (fun i => pt b6 (cl [.slice none 0 0, .slice none 0 0, .slice none 0 0] 42) :: R :: hr) (fun i => i ≤ xs.length) (fun i => xs.length - i) 0 (Nat.zero_le _) ⟨rfl, rfl, rfl, rfl, rfl, rfl, rfl, rfl, trivial⟩ (Sub.refl _) ?_
      rintro i hi
      have hb1 := hbd i
      refine cd_seq (cd_region (st_v (v_lss rfl rfl) (st_nil (nx_then (cd_seq (cd_cond rfl (fun hd => ?_) (fun hd => ?_)))))))
      · skip
        have hlt : i < xs.length := by simpa using hd
        obtain ⟨b, o, cp', hv', hrds⟩ := hX.at hlt
        have hcst : ((xs.take (i + 1)).map (cost sh)).sum = ((xs.take i).map (cost sh)).sum + cost sh xs[i] := by
          rw [List.take_succ_eq_append_getElem hlt, List.map_append, List.sum_append]; simp
        have hb2 := hbd (i + 1)
        refine cd_skip (xt_then (cd_seq (cd_block (cd_seq (cd_region (st_v (v_indexAddr (congrArg some hv') rfl sl62 rfl hlt rfl) (st_v (v_loadR rfl ld78 rfl (by repeat (first | exact Sel.here | apply Sel.there)) hrds) ?_)))))))
        refine st_alc al78 fun b12 => ?_
        refine st_stoW rfl rfl sz78 rfl rfl ?_
        refine st_nil (nx_kp [0, 1, 2, 6, 10, 12, 30, 31, 32] rfl (nx_then (cd_seq (cd_region (st_v (v_fieldAddr rfl fa78_0 rfl) (st_v (v_ld rfl ld3) ?_))))))
        refine st_v (v_eql rfl rfl) (st_v (v_move rfl) (st_cut (k := 8) (d := 43) (v := .bool (xs[i].k == 1 && decide (0 ≤ xs[i].b))) (fun hcut => bool_want (b := xs[i].k == 1) true (fun hg => ?_) (fun hg => ?_)) ?_))
        · refine st_sk rfl rfl hg ?_
          refine st_sk rfl rfl hg ?_
          refine st_sk rfl rfl hg ?_
          refine st_v (v_pick_false (bool_ev rfl hg) rfl) ?_
          exact hcut _ (ssub_head (by first | rfl | (rw [hg]; rfl) | simp_all) (ssub_skip rfl (ssub_skip rfl (ssub_skip rfl (ssub_refl)))))
        · skip
          refine st_vg rfl (bool_get rfl hg) (v_fieldAddr rfl fa78_2 rfl) (st_vg rfl (bool_get rfl hg) (v_ld rfl ld3) ?_)
          refine st_vg rfl (bool_get rfl hg) (v_geq rfl rfl) (st_v (v_pick_true (bool_ev rfl hg) rfl) ?_)
          exact hcut _ (ssub_head (by first | rfl | (rw [hg]; rfl) | simp_all) (ssub_skip rfl (ssub_skip rfl (ssub_skip rfl (ssub_refl)))))
        refine st_v (v_move rfl) (st_cut (k := 15) (d := 50) (v := .bool ((xs[i].k == 1 && decide (0 ≤ xs[i].b)) && decide (xs[i].b < (sh.length : Int)))) (fun hcut => bool_want (b := (xs[i].k == 1 && decide (0 ≤ xs[i].b))) true (fun hg => ?_) (fun hg => ?_)) ?_)
        · refine st_sk rfl rfl hg ?_
          refine st_sk rfl rfl hg ?_
          refine st_sk rfl rfl hg ?_
          refine st_sk rfl rfl hg ?_
          refine st_sk rfl rfl hg ?_
          refine st_v (v_pick_false (bool_ev rfl hg) rfl) ?_
          exact hcut _ (ssub_head (by first | rfl | (rw [hg]; rfl) | simp_all) (ssub_skip rfl (ssub_skip rfl (ssub_skip rfl (ssub_skip rfl (ssub_skip rfl (ssub_refl)))))))
        · skip
          refine st_vg rfl (bool_get rfl hg) (v_fieldAddr rfl fa78_2 rfl) (st_vg rfl (bool_get rfl hg) (v_ld rfl ld3) ?_)
          refine st_vg rfl (bool_get rfl hg) (v_move rfl) (st_vg rfl (bool_get rfl hg) (v_len (congrArg some rfl) Try.underlying22) (st_vg rfl (bool_get rfl hg) (v_lss rfl rfl) (st_v (v_pick_true (bool_ev rfl hg) rfl) ?_)))
          exact hcut _ (ssub_head (by first | rfl | (rw [hg]; rfl) | simp_all) (ssub_skip rfl (ssub_skip rfl (ssub_skip rfl (ssub_skip rfl (ssub_skip rfl (ssub_refl)))))))
        refine st_nil (nx_kp [0, 1, 2, 6, 10, 12, 30, 31, 32, 50] rfl (nx_then (cd_cond rfl (fun hk => ?_) (fun hk => ?_))))
        · skip
          simp only [Bool.and_eq_true, beq_iff_eq, decide_eq_true_eq] at hk
          obtain ⟨⟨k1, k2⟩, k3⟩ := hk
          have hkk : xs[i].b.toNat < sh.length := by omega
          have hcc : cost sh xs[i] = 1 + (sh[xs[i].b.toNat].length : Int) := by
            unfold cost
            rw [if_pos k1, if_neg (by simp only [Bool.or_eq_true, decide_eq_true_eq]; omega), show sh.getD xs[i].b.toNat [] = sh[xs[i].b.toNat] from getD_lt hkk]
          obtain ⟨b1, o1, cp1, u, hv1, hu, a2, cp2, hu2, _⟩ := hS.row hkk
          have hsz := hw _ (List.getElem_mem hkk)
          refine cd_region (st_v (v_move rfl) (st_v (v_move rfl) (st_v (v_fieldAddr rfl fa78_2 rfl) (st_v (v_ld rfl ld3) ?_))))
          refine st_v (v_ixo _ (congrArg some hv1) rfl sl22 (Int.toNat_of_nonneg k2).symm hkk) (st_v (v_ld rfl ld73) ?_)
          refine st_v (v_len (congrArg some hu2) Try.underlying73) (st_v (v_add rfl rfl (by unfold I64 at *; omega)) (st_v (v_add rfl rfl (by unfold I64 at *; omega)) (st_v (v_assign rfl) (st_nil (nx_kp [0, 1, 2, 6, 10, 30, 31, 32] rfl (nx_xt (xt_normal_block (xt_then (cd_region (st_v (v_add rfl rfl (by unfold I64 at *; omega)) (st_v (v_move rfl) (st_nil (nx_kp [0, 1, 2, 6, 10, 30, 31, 32] rfl (nx_xt ?_))))))))))))))
          rw [show 1 + ((xs.take i).map (cost sh)).sum + (1 + (sh[xs[i].b.toNat].length : Int)) = 1 + ((xs.take (i + 1)).map (cost sh)).sum by rw [hcst, hcc]; omega]
          refine xt_ag (i + 1 : Nat) hlt (by omega) (by repeat (first | exact trivial | refine ⟨rfl, ?_⟩)) ?_
          exact (by (repeat (refine Sub.sel (by repeat (first | exact Sel.here | apply Sel.there)) ?_)); (repeat apply Sub.cons); first | exact Sub.refl _ | exact Sub.nil _)
        · skip
          have hcc : cost sh xs[i] = 0 := by
            unfold cost
            by_cases k1 : xs[i].k = 1
            · rw [if_pos k1, if_pos]
              rw [k1] at hk
              simp at hk ⊢
              omega
            · rw [if_neg k1]
          refine cd_skip (xt_normal_block (xt_then (cd_region (st_v (v_add rfl rfl (by unfold I64 at *; omega)) (st_v (v_move rfl) (st_nil (nx_kp [0, 1, 2, 6, 10, 30, 31, 32] rfl (nx_xt ?_))))))))
          rw [show 1 + ((xs.take i).map (cost sh)).sum = 1 + ((xs.take (i + 1)).map (cost sh)).sum by rw [hcst, hcc]; omega]
          refine xt_ag (i + 1 : Nat) hlt (by omega) (by repeat (first | exact trivial | refine ⟨rfl, ?_⟩)) ?_
          exact (by (repeat (refine Sub.sel (by repeat (first | exact Sel.here | apply Sel.there)) ?_)); (repeat apply Sub.cons); first | exact Sub.refl _ | exact Sub.nil _)
      · skip
        have hge : i = xs.length := by
          have : ¬ i < xs.length := by simpa using hd
          omega
        subst hge
        rw [List.take_length] at hb1 ⊢
        obtain ⟨W, hW⟩ : ∃ W : Nat, 1 + (xs.map (cost sh)).sum = (W : Int) := ⟨(1 + (xs.map (cost sh)).sum).toNat, by omega⟩
        have hWw : words sh xs = (W : Int) := hW
        rw [hW]
        refine cd_exit (xt_exit_then (xt_exit_then (xt_exit_block (xt_then (cd_seq (cd_region (st_v (v_move rfl) (st_cl rfl rfl en45 rfl (spaceOf_ct' (fr := 1) (n := W) rfl rfl (by omega) (by omega)) ?_))))))))
        rintro v1 h1' ⟨ly, hy1, hy2, rfl, rfl⟩
        refine st_v (v_move rfl) (st_v (v_add rfl rfl (by unfold I64 at *; omega)) (st_cl rfl rfl en45 rfl (spaceOf_ct' (fr := 1 + W) (n := 1) (by omega) rfl (by omega) (by omega)) ?_))
        rintro v1 h2' ⟨ln, hn1, hn2, rfl, rfl⟩
        refine st_v (v_move rfl) (st_v (v_add rfl rfl (by unfold I64 at *; omega)) (st_cl rfl rfl en45 rfl (spaceOf_ct' (fr := 1 + W + 1) (n := 1) (by omega) rfl (by omega) (by omega)) ?_))
        rintro v3 h3' ⟨lo, ho1, ho2, rfl, rfl⟩
        unfold spSH
        simp only [List.cons_append, List.nil_append]
        refine st_makeMap (ltn rfl) fun mp => ?_
        refine st_v (v_move rfl) (st_v (v_build (cells := [.slice a sh.length cp, .pointer (some ⟨ly.sb, 0, none⟩), .pointer (some ⟨ln.sb, 0, none⟩), .pointer (some ⟨lo.sb, 0, none⟩), .slice none 0 0, .bool false, .int .i64 0, .map (some mp), .int .i64 0]) rfl (fun _ => by kernel_rfl)) ?_)
        refine st_bx rfl rfl fun b72 => ?_
        refine st_v (v_assign rfl) (st_nil (nx_kp [1, 2, 6, 13] rfl (nx_then (cd_seq (cd_region (st_v (v_move rfl) (st_v (v_move rfl) (st_make (n := N) rfl rfl rfl Try.underlying34 inf3 rfl (by omega) (by omega) (ltn rfl) fun b1 => ?_))))))))
        refine st_v (v_build (cells := [.pointer (some ⟨b72, 0, none⟩), .slice (some ⟨b1, 0, none⟩) N N, .bool true]) rfl (fun _ => by kernel_rfl)) ?_
        refine st_bx rfl rfl fun b77 => ?_
        refine st_v (v_assign rfl) (st_nil (nx_kp [2, 6, 13, 14] rfl (nx_then (cd_seq (cd_seq (cd_region (st_v (v_move rfl) (st_v (v_len (congrArg some hxv) Try.underlying62) (st_v (v_move rfl) (st_nil (nx_kp [6, 13, 14, 78, 79, 80] rfl (nx_then (cd_block (cd_ne (a := ly.sb) (b := ln.sb) (by repeat (first | exact Sel.here | apply Sel.there)) (by repeat (first | exact Sel.here | apply Sel.there)) fun hyn => ?_))))))))))))))
        refine cd_ne (a := ly.sb) (b := lo.sb) (by repeat (first | exact Sel.here | apply Sel.there)) (by repeat (first | exact Sel.here | apply Sel.there)) fun hyo => ?_
        refine cd_ne (a := ln.sb) (b := lo.sb) (by repeat (first | exact Sel.here | apply Sel.there)) (by repeat (first | exact Sel.here | apply Sel.there)) fun hno => ?_
        refine cd_vecnil 131 2 ?_
        refine cd_shut (v := .slice (some ⟨b1, 0, none⟩) N N) (E := 3) (sz := 1) (n := N) (l := ints (List.replicate N 0)) (l' := ints (List.replicate N 0)) (b := b1) (cp := N) (j := []) ⟨rfl, by simp [ints], Nat.le_refl _, by unfold maxLen; omega, by simp [ints]⟩ rfl (by rw [show ints (List.replicate N 0) ++ [] = List.replicate N (.int .i64 0) by simp [ints]]; exact (by repeat (first | exact Sel.here | apply Sel.there))) ?_
        have I0 : MI ⟨b72, .slice a sh.length cp, .slice none 0 0, mp, ly, ln, lo⟩ (Mem.new sh 1 W) R (new' sh 1 (words sh xs)) := by
          refine ⟨?_, hyn, hyo, hno, hS⟩
          have := Rel.new (sh := sh) (half := 1) (young := W) (by omega) (by omega)
          rw [hWw]
          exact this
        have hF0 : Fine (new' sh 1 (words sh xs)) := ⟨_, _, _, _, _, Good.newS (by omega) (by omega) (by omega) (by omega) (by omega) (fun l hl => by have := hw l hl; omega)⟩
        obtain ⟨L0, hL0⟩ : ∃ L0 : MemL, L0 = ⟨b72, .slice a sh.length cp, .slice none 0 0, mp, ly, ln, lo⟩ := ⟨_, rfl⟩
        have hmb : L0.mb = b72 := by rw [hL0]
        rw [← hL0] at I0
        refine cd_loop (σ := MdS) (fun s => [(6, .pointer (some ⟨b6, 0, none⟩)), (13, .pointer (some ⟨b72, 0, none⟩)), (14, .pointer (some ⟨b77, 0, none⟩)), (78, v2), (79, .int .i64 xs.length), (80, .int .i64 (s.i : Nat))]) (fun s => memSH s.L s.μ R ++ [plR b77 b72 s.rv true, vec s.rv 3 1 (acts true (xs.take s.i) (new' sh 1 (words sh xs)) (List.replicate N 0)).2.2.length (ints (acts true (xs.take s.i) (new' sh 1 (words sh xs)) (List.replicate N 0)).2.2), pt b6 (cl [.slice none 0 0, .slice none 0 0, .slice none 0 0] 42)] ++ hr) (fun s => s.i ≤ xs.length ∧ MI s.L s.μ R (acts true (xs.take s.i) (new' sh 1 (words sh xs)) (List.replicate N 0)).2.1 ∧ s.L.mb = b72) (fun s => xs.length - s.i) ⟨0, L0, Mem.new sh 1 W, .slice (some ⟨b1, 0, none⟩) N N⟩ ⟨Nat.zero_le _, I0, hmb⟩ ⟨rfl, rfl, rfl, rfl, rfl, rfl, trivial⟩ (by rw [hL0]; unfold memSH plR; simp only [List.cons_append, List.nil_append, List.take_zero, acts, List.length_replicate]; exact (by (repeat (refine Sub.sel (by repeat (first | exact Sel.here | apply Sel.there)) ?_)); (repeat apply Sub.cons); first | exact Sub.refl _ | exact Sub.nil _)) ?_
        rintro ⟨i, L, μ, rv⟩ ⟨hi, I, hL⟩
        dsimp only at hi I hL ⊢
        unfold memSH plR
        simp only [List.cons_append, List.nil_append, List.append_assoc]
        refine cd_seq (cd_region (st_v (v_lss rfl rfl) (st_nil (nx_then (cd_seq (cd_cond rfl (fun hd => ?_) (fun hd => ?_)))))))
        · skip
          have hlt : i < xs.length := by simpa using hd
          obtain ⟨b, o, cp', hv', hrds⟩ := hX.at hlt
          obtain ⟨ly', ln', lf', φ', A', hg⟩ := Fine.acts true (xs.take i) hF0 (List.replicate N 0)
          have hlen : (acts true (xs.take i) (new' sh 1 (words sh xs)) (List.replicate N 0)).2.2.length ≤ 1000000 := by rw [acts_len, List.length_replicate]; omega
          have hact := act_c (pb := b77) (rv := rv) (en := true) (k := xs[i].k) (a := xs[i].a) (b := xs[i].b) (c := xs[i].c) I hg hlen (ha _ (List.getElem_mem hlt))
          have hsn := acts_snoc true (xs.take i) xs[i] (new' sh 1 (words sh xs)) (List.replicate N 0)
          rw [← List.take_succ_eq_append_getElem hlt] at hsn
          unfold playSH memSH plR at hact
          rw [hL] at hact
          simp only [List.cons_append, List.nil_append] at hact
          refine cd_skip (xt_then (cd_seq (cd_block (cd_seq (cd_region (st_v (v_indexAddr (congrArg some hv') rfl sl62 rfl hlt rfl) (st_v (v_loadR rfl ld78 rfl (by repeat (first | exact Sel.here | apply Sel.there)) hrds) ?_)))))))
          refine st_alc al78 fun b16 => ?_
          refine st_stoW rfl rfl sz78 rfl rfl ?_
          refine st_nil (nx_kp [6, 13, 14, 16, 78, 79, 80] rfl (nx_then (cd_region (st_v (v_move rfl) (st_v (v_loadW rfl ld78 rfl (by repeat (first | exact Sel.here | apply Sel.there))) ?_)))))
          refine st_cl rfl rfl en79 rfl (hact) ?_
          rintro v' h' ⟨L1, μ1, rv1, rfl, I1, hL1, rfl⟩
          unfold playSH memSH plR
          simp only [List.cons_append, List.nil_append]
          rw [hL1, hL]
          refine st_nil (nx_kp [6, 13, 14, 78, 79, 80] rfl (nx_xt (xt_normal_block (xt_then (cd_region (st_v (v_add rfl rfl (by unfold I64 at *; omega)) (st_v (v_move rfl) (st_nil (nx_kp [6, 13, 14, 78, 79, 80] rfl (nx_xt ?_))))))))))
          have hi2 : (acts true (xs.take (i + 1)) (new' sh 1 (words sh xs)) (List.replicate N 0)).2 = (AM.act true (acts true (xs.take i) (new' sh 1 (words sh xs)) (List.replicate N 0)).2.1 (acts true (xs.take i) (new' sh 1 (words sh xs)) (List.replicate N 0)).2.2 ⟨xs[i].k, xs[i].a, xs[i].b, xs[i].c⟩).2 := by rw [hsn]
          refine xt_ag (⟨i + 1, L1, μ1, rv1⟩ : MdS) ⟨hlt, by dsimp only; rw [hi2]; exact I1, hL1.trans hL⟩ (by dsimp only; omega) (by repeat (first | exact trivial | refine ⟨rfl, ?_⟩)) ?_
          dsimp only
          rw [hi2]
          exact (by (repeat (refine Sub.sel (by repeat (first | exact Sel.here | apply Sel.there)) ?_)); (repeat apply Sub.cons); first | exact Sub.refl _ | exact Sub.nil _)
        · skip
          have hge : i = xs.length := by
            have : ¬ i < xs.length := by simpa using hd
            omega
          subst hge
          rw [List.take_length] at I ⊢
          have hst0 := Wst.new (sh := sh) (half := 1) (young := words sh xs) (by omega) (by omega) (by omega) (by omega) (by omega) (fun l hl => by have := hw l hl; omega) (n := N) (by omega)
          obtain ⟨A1, xs1, hst1⟩ := hst0.acts_any true xs
          have hro := hst1.rooted
          obtain ⟨ly', ln', lf', φ', A', hg⟩ := Fine.acts true xs hF0 (List.replicate N 0)
          have hpe0 : ((acts true xs (new' sh 1 (words sh xs)) (List.replicate N 0)).2.1.pictured (acts true xs (new' sh 1 (words sh xs)) (List.replicate N 0)).2.2).2 = 0 := by
            unfold AM.pictured
            rw [if_neg (by rw [hro]; simp)]
          have hlen : (acts true xs (new' sh 1 (words sh xs)) (List.replicate N 0)).2.2.length ≤ 1000000 := by rw [acts_len, List.length_replicate]; omega
          refine cd_exit (xt_exit_then (xt_exit_then (xt_exit_block (xt_then (cd_seq (cd_region (st_v (v_move rfl) (st_v (v_move rfl) (st_v (v_nilCheck rfl) (st_v (v_fieldAddr rfl fa140_1 rfl) (st_v (v_ld rfl ld34) ?_)))))))))))
          refine st_vecshape (v := rv) (E := 3) (sz := 1) (by repeat (first | exact Sel.here | apply Sel.there)) fun ra rcp hrv hra => ?_
          have hpt := hpicture_ct I hg (rowI_vec hrv hra rfl) hlen
          rw [hpe0, hL] at hpt
          unfold memSH at hpt
          simp only [List.cons_append, List.nil_append] at hpt
          refine st_cl rfl rfl en19 rfl (hpt) ?_
          rintro v' h' ⟨sv2, fv2, rv2, us2, rfl, hPF, rfl⟩
          have q1 := VForm.one hPF.s; have q2 := VForm.one hPF.f; have q3 := VForm.one hPF.r
          simp only [List.cons_append, List.nil_append]
          refine st_v (v_extract rfl rfl) (st_v (v_extract rfl rfl) (st_stoW rfl rfl sz42 rfl (by simp only [List.all_cons, List.all_nil, q1, q2, q3]; rfl) ?_))
          refine st_v (v_assign rfl) (st_nil (nx_kp [6, 7] rfl (nx_then (cd_ret ?_))))
          rw [hp]
          exact xt_retV (.cellN rfl ld42 rfl (by repeat (first | exact Sel.here | apply Sel.there)) (.tmp rfl .nil)) (.inr ⟨rfl, sv2, fv2, rv2, us2, rfl, hPF, rfl⟩) (by (repeat (refine Sub.sel (by repeat (first | exact Sel.here | apply Sel.there)) ?_)); (repeat apply Sub.cons); first | exact Sub.refl _ | exact Sub.nil _)
end
end Go.Proofs.Ytmhmpjgkkpbnnaa
