/-
  Package heir: right, Above, Is. Conditions: what is read.
  Package heir: Above, Is, Way, Below, Touched. Conditions: what is read.
  Package heir: Touched; Go's library: Collect. Conditions: what is read.
  Package heir: CheckWay, CheckRing. Conditions: what is read.
  Package heir: Ways. Conditions: what is read.
  Package heir: Order. Conditions: what is read.
  Go's library: slices.Sort at names, by the kit's contract laid at this program. Conditions: no name twice.
  Package heir: filter, Least. Conditions: what is read.
-/
import Derived.Test.YtjgiaohieadeiaaM6
import Derived.Test.YtjgiaohieadeiaaM1
import Derived.Shelf.Lays
import Derived.Shelf.Sort.Plain
import Derived.Shelf.Slices.In.SortNone
set_option linter.unusedVariables false
set_option linter.unusedSimpArgs false
namespace Go.Hr
open Go Go.Ck Go.Proofs Go.Proofs.Ytjgiaohieadeiaa Fx
attribute [local irreducible] Go.Ck.Sub St Cd Xt Nx DrL LsW
/-- The first error of a system and of names of classes. -/
def rightE (l : Sys) (ns : List Nm) : Int := if (check l).1 = 0 then (if ns.all (isC l) then 0 else 5) else (check l).1
theorem rightE_zero {l : Sys} {ns : List Nm} : rightE l ns = 0 ↔ Right l ∧ ∀ n ∈ ns, isC l n = true := by
  unfold rightE
  rw [← check_zero, ← List.all_eq_true]
  by_cases h : (check l).1 = 0
  · rw [if_pos h]
    by_cases h2 : ns.all (isC l) = true
    · simp [h, h2]
    · rw [if_neg h2]; simp [h, h2]
  · rw [if_neg h]; simp [h]
theorem all_take {f : Nm → Bool} {ns : List Nm} {i : Nat} (hi : i < ns.length) (h : ∀ x ∈ ns.take i, f x = true) (h2 : f ns[i] = true) : ∀ x ∈ ns.take (i + 1), f x = true := fun x hx => by
  rw [List.take_succ_eq_append_getElem hi] at hx
  rcases List.mem_append.1 hx with hx | hx
  · exact h x hx
  · simp at hx; rw [hx]; exact h2
def gr0 : Value := .agg #[.slice none 0 0, .map none]
section
variable {S N : Res} {v nv : Value} {l : Sys} {ns : List Nm}
set_option maxRecDepth 100000 in
theorem right_ct (hv : sysR S v l) (hn : nmsR N nv ns) (hnl : ns.length ≤ 1099511627776) : Ct Try.prog 51 #[v, nv] [S, N] fun u h' => (rightE l ns ≠ 0 ∧ u = .tuple #[gr0, .int .i64 (rightE l ns)] ∧ h' = [S, N]) ∨ (rightE l ns = 0 ∧ ∃ mb, u = .tuple #[.agg #[v, .map (some mb)], .int .i64 0] ∧ h' = [mps mb (kindsM l), S, N]) := by
  obtain ⟨a, cap, rfl, _⟩ := id hv
  obtain ⟨na, ncap, rfl, _⟩ := id hn
  refine ct_of (n := 42) Try.func51 rfl rfl (len rfl) fun hr w0 => ?_
  refine cd_seq (cd_region (st_alc al95 fun b4 => ?_))
  refine st_v (v_assign rfl) (st_nil (nx_then (cd_seq (cd_seq (cd_region (st_v (v_move rfl) (st_cl rfl rfl en46 rfl (Check_ct hv) ?_)))))))
  rintro u h' ⟨rfl, rfl⟩
  simp only [List.cons_append, List.nil_append]
  refine st_v (v_move rfl) (st_v (v_extract rfl rfl) (st_v (v_extract rfl rfl) (st_v (v_assign rfl) (st_v (v_assign rfl) (st_nil (nx_kp [0, 1, 4, 5, 6] rfl (nx_then (cd_seq (cd_region (st_v (v_move rfl) (st_v (v_neq rfl rfl) (st_nil (nx_kp [0, 1, 4, 5, 6, 19] rfl (nx_then (cd_cond rfl (fun hc => ?_) (fun hc => ?_))))))))))))))))
  · skip
    have hc : ¬ (check l).1 = 0 := by simpa using hc
    have he : rightE l ns = (check l).1 := by unfold rightE; rw [if_neg hc]
    rw [he]
    refine cd_seq (cd_region (st_v (v_build (cells := [.slice none 0 0, .map none]) rfl (fun _ => by kernel_rfl)) ?_))
    refine st_v (v_move rfl) (st_stoW rfl rfl sz95 rfl rfl ?_)
    refine st_v (v_assign rfl) (st_nil (nx_kp [4, 5] rfl (nx_then (cd_ret (xt_ret_then ?_)))))
    exact xt_retV (.cellN rfl ld95 rfl (by repeat (first | exact Sel.here | apply Sel.there)) (.tmp rfl .nil)) (.inl ⟨hc, rfl, rfl⟩) (by repeat (first | exact Sub.refl _ | exact Sub.nil _ | refine Sub.sel (by repeat (first | exact Sel.here | apply Sel.there)) ?_ | apply Sub.cons))
  · skip
    have hc : (check l).1 = 0 := by simpa using hc
    have hR := check_zero.1 hc
    refine cd_skip (xt_then (cd_seq (cd_region (st_v (v_move rfl) ?_))))
    have hFl := hR.len
    refine st_cl rfl rfl en60 rfl (of_ct hv (by omega)) ?_
    rintro u h' ⟨mb, rfl, rfl⟩
    simp only [List.cons_append, List.nil_append]
    refine st_alc al95 fun b8 => ?_
    refine st_stoW rfl rfl sz95 rfl rfl ?_
    refine st_nil (nx_kp [1, 4, 5, 8] rfl (nx_then (cd_seq (cd_seq (cd_region (st_v (v_move rfl) (st_v (v_len rfl Try.underlying25) (st_v (v_move rfl) (st_nil (nx_kp [4, 5, 8, 24, 25, 26] rfl (nx_then (cd_block (cd_lq (σ := Nat) (fun i => [(4, .pointer (some ⟨b4, 0, none⟩)), (8, .pointer (some ⟨b8, 0, none⟩)), (24, .slice na ns.length ncap), (25, .int .i64 ns.length), (26, .int .i64 (i : Nat))]) (fun _ => pt b4 (cl [.slice none 0 0, .map none] 95) :: pt b8 (cl [.slice a l.length cap, .map (some mb)] 95) :: mps mb (kindsM l) :: S :: N :: hr) (fun i => i ≤ ns.length ∧ ∀ x ∈ ns.take i, isC l x = true) (fun i => ns.length - i) 0 ⟨Nat.zero_le _, fun x hx => by simp at hx⟩ ?_)))))))))))))
    rintro i ⟨hi, hal⟩
    refine cd_seq (cd_region (st_v (v_lss rfl rfl) (st_nil (nx_then (cd_seq (cd_cond rfl (fun hd => ?_) (fun hd => ?_)))))))
    · skip
      have hlt : i < ns.length := by simpa using hd
      obtain ⟨b, o, cap2, hv2, hrd⟩ := nms_at hn (List.getElem?_eq_getElem hlt)
      refine cd_skip (xt_then (cd_seq (cd_block (cd_seq (cd_region (st_v (v_indexAddr (k := i) (congrArg some hv2) rfl sl25 rfl hlt rfl) (st_v (v_ldy rfl ld9) ?_)))))))
      refine st_v (v_assign rfl) (st_nil (nx_kp [4, 8, 10, 24, 25, 26] rfl (nx_then (cd_seq (cd_region (st_v (v_fieldAddr rfl fa95_1 rfl) (st_v (v_ldy rfl ld69) ?_)))))))
      refine st_v (v_move rfl) (st_v (v_slookup_ok rfl rfl mp69 inf3 (by repeat (first | exact Sel.here | apply Sel.there))) ?_)
      refine st_v (v_move rfl) (st_v (v_extract rfl rfl) (st_v (v_extract rfl rfl) (st_v (v_assign rfl) (st_v (v_assign rfl) (st_nil (nx_kp [4, 8, 12, 24, 25, 26] rfl (nx_then (cd_seq (cd_region (st_v (v_move rfl) (st_v (v_not rfl) (st_nil (nx_kp [4, 8, 24, 25, 26, 38] rfl (nx_then ?_))))))))))))))
      rw [look_isC]
      refine cd_cond rfl (fun hno => ?_) (fun hno => ?_)
      · skip
        have hno : isC l ns[i] = false := by simpa using hno
        have he : rightE l ns = 5 := by
          unfold rightE
          rw [if_pos hc, if_neg (by rw [List.all_eq_true]; intro h; rw [h _ (List.getElem_mem hlt)] at hno; cases hno)]
        rw [he]
        refine cd_seq (cd_region (st_v (v_build (cells := [.slice none 0 0, .map none]) rfl (fun _ => by kernel_rfl)) ?_))
        refine st_stoW rfl rfl sz95 rfl rfl ?_
        refine st_v (v_assign rfl) (st_nil (nx_kp [4, 5] rfl (nx_then (cd_ret (xt_ret_block (xt_ret_then (xt_ret_then (xt_ret_block (xt_ret_then ?_)))))))))
        exact xt_retV (.cellN rfl ld95 rfl (by repeat (first | exact Sel.here | apply Sel.there)) (.tmp rfl .nil)) (.inl ⟨by decide, rfl, rfl⟩) (by repeat (first | exact Sub.refl _ | exact Sub.nil _ | refine Sub.sel (by repeat (first | exact Sel.here | apply Sel.there)) ?_ | apply Sub.cons))
      · skip
        have hno : isC l ns[i] = true := by simpa using hno
        refine cd_skip (xt_normal_block (xt_then (cd_region (st_v (v_add rfl rfl (by unfold I64 at *; omega)) (st_v (v_move rfl) (st_nil (nx_kp [4, 8, 24, 25, 26] rfl (nx_xt ?_))))))))
        refine xt_aq (i + 1) ⟨hlt, all_take hlt hal hno⟩ (by show _ - _ < _ - _; omega)
    · skip
      have hil : i = ns.length := by have : ¬ i < ns.length := by simpa using hd
                                     omega
      subst hil
      rw [List.take_length] at hal
      have he : rightE l ns = 0 := rightE_zero.2 ⟨hR, hal⟩
      refine cd_exit (xt_exit_then (xt_exit_then (xt_exit_block (xt_then (cd_seq (cd_region (st_v (v_ldn rfl ld95 rfl rds_pt) ?_)))))))
      refine st_stoW rfl rfl sz95 rfl rfl ?_
      refine st_v (v_assign rfl) (st_nil (nx_kp [4, 5] rfl (nx_then (cd_ret ?_))))
      exact xt_retV (.cellN rfl ld95 rfl (by repeat (first | exact Sel.here | apply Sel.there)) (.tmp rfl .nil)) (.inr ⟨he, mb, rfl, rfl⟩) (by repeat (first | exact Sub.refl _ | exact Sub.nil _ | refine Sub.sel (by repeat (first | exact Sel.here | apply Sel.there)) ?_ | apply Sub.cons))
end
end Go.Hr
namespace Go.Hr
open Go Go.Ck Go.Proofs Go.Proofs.Ytjgiaohieadeiaa Fx
attribute [local irreducible] Go.Ck.Sub St Cd Xt Nx DrL LsW
/-- A result's list, if there is no error. -/
def okL {α : Type} (e : Int) (xs : List α) : List α := if e = 0 then xs else []
theorem okL_ne {α : Type} {e : Int} {xs : List α} (h : e ≠ 0) : okL e xs = [] := if_neg h
theorem okL_eq {α : Type} {e : Int} {xs : List α} (h : e = 0) : okL e xs = xs := if_pos h
theorem ne_true {e : Int} (h : e ≠ 0) : (e != 0) = true := by simpa using h
section
variable {S N : Res} {v nv : Value} {l : Sys} {ns : List Nm}
set_option maxRecDepth 100000 in
theorem Above_ct (hv : sysR S v l) (c : Nm) : CtN Try.prog 33 #[v, sv c] [S] fun u T => ∃ w, u = .tuple #[w, .int .i64 (rightE l [c])] ∧ w.oneCell' = true ∧ T = NR w (okL (rightE l [c]) (above l c)) := by
  obtain ⟨a, cap, rfl, _⟩ := id hv
  refine ct_of (n := 21) Try.func33 rfl rfl (len rfl) fun hr w0 => ?_
  refine cd_seq (cd_region (st_v (v_assign rfl) (st_v (v_assign rfl) (st_nil (nx_then (cd_seq (cd_region (st_v (v_move rfl) (st_v (v_move rfl) (st_buildSlice (cells := [sv c]) rfl Try.underlying25 inf9 rfl rfl (by kernel_rfl) (ltn rfl) fun b11 => ?_))))))))))
  refine st_pv (pv_of (b := b11) (n := 1) (sz := 1) (E := 9) [nC c] rfl (by simp [nC]) rfl (by decide)) ?_
  simp only [List.cons_append, List.nil_append]
  refine st_ok (r := NR (.slice (some ⟨b11, 0, none⟩) 1 1) [c]) (by repeat (first | exact Sel.here | apply Sel.there)) fun hok => ?_
  refine st_cl rfl rfl en51 rfl (right_ct hv (nms_own hok) (by simp)) ?_
  rintro u h' (⟨he, rfl, rfl⟩ | ⟨he, mb, rfl, rfl⟩)
  · skip
    simp only [List.cons_append, List.nil_append]
    unfold gr0
    refine st_v (v_move rfl) (st_v (v_extract rfl rfl) (st_v (v_extract rfl rfl) (st_alc al95 fun b6 => ?_)))
    refine st_stoW rfl rfl sz95 rfl rfl ?_
    refine st_v (v_assign rfl) (st_nil (nx_kp [1, 4, 5, 6, 7] rfl (nx_then (cd_seq (cd_seq (cd_region (st_v (v_move rfl) (st_v (v_neq rfl rfl) (st_nil (nx_kp [1, 4, 5, 6, 7, 16] rfl (nx_then ?_)))))))))))
    rw [ne_true he]
    refine cd_true rfl ?_
    refine cd_seq (cd_region (st_v (v_move rfl) (st_v (v_assign rfl) (st_v (v_assign rfl) (st_nil (nx_kp [4, 5] rfl (nx_then (cd_ret (xt_ret_then ?_)))))))))
    rw [okL_ne he]
    refine xt_vw (vw_nil 9 1) ?_
    exact xt_rt rfl ⟨NR (.slice none 0 0) [], rfl, _, rfl, rfl, rfl⟩ (by (repeat (refine Sub.sel (by repeat (first | exact Sel.here | apply Sel.there)) ?_)); (repeat apply Sub.cons); first | exact Sub.refl _ | exact Sub.nil _)
  · skip
    obtain ⟨hR, hm⟩ := rightE_zero.1 he
    rw [he, okL_eq rfl]
    simp only [List.cons_append, List.nil_append]
    refine st_v (v_move rfl) (st_v (v_extract rfl rfl) (st_v (v_extract rfl rfl) (st_alc al95 fun b6 => ?_)))
    refine st_stoW rfl rfl sz95 rfl rfl ?_
    refine st_v (v_assign rfl) (st_nil (nx_kp [1, 4, 5, 6, 7] rfl (nx_then (cd_seq (cd_seq (cd_region (st_v (v_move rfl) (st_v (v_neq rfl rfl) (st_nil (nx_kp [1, 4, 5, 6, 7, 16] rfl (nx_then (cd_false rfl ?_))))))))))))
    refine cd_skip (xt_then (cd_seq (cd_region (st_v (v_ldn rfl ld95 rfl rds_pt) ?_))))
    refine st_v (v_move rfl) (st_cl rfl rfl en65 rfl (above_ct hv hR.fine hR.acyc (hm c (by simp))) ?_)
    rintro u h' ⟨hu, rfl⟩
    simp only [List.cons_append, List.nil_append]
    refine st_v (v_assign rfl) (st_v (v_assign rfl) (st_nil (nx_kp [4, 5] rfl (nx_then (cd_ret ?_)))))
    exact xt_rt rfl ⟨_, rfl, _, rfl, hu, rfl⟩ (by (repeat (refine Sub.sel (by repeat (first | exact Sel.here | apply Sel.there)) ?_)); (repeat apply Sub.cons); first | exact Sub.refl _ | exact Sub.nil _)
set_option maxRecDepth 100000 in
theorem Is_ct (hv : sysR S v l) (c x : Nm) : Ct Try.prog 39 #[v, sv c, sv x] [S] fun u h' => u = .tuple #[.bool (decide (rightE l [c, x] = 0) && has l c x), .int .i64 (rightE l [c, x])] ∧ h' = [S] := by
  obtain ⟨a, cap, rfl, _⟩ := id hv
  refine ct_of (n := 25) Try.func39 rfl rfl (len rfl) fun hr w0 => ?_
  refine cd_seq (cd_region (st_v (v_assign rfl) (st_v (v_assign rfl) (st_nil (nx_then (cd_seq (cd_region (st_v (v_move rfl) (st_v (v_move rfl) (st_v (v_move rfl) (st_buildSlice (cells := [sv c, sv x]) rfl Try.underlying25 inf9 rfl rfl (by kernel_rfl) (ltn rfl) fun b14 => ?_)))))))))))
  refine st_pv (pv_of (b := b14) (n := 2) (sz := 1) (E := 9) [nC c, nC x] rfl (by simp [nC]) rfl (by decide)) ?_
  simp only [List.cons_append, List.nil_append]
  refine st_ok (r := NR (.slice (some ⟨b14, 0, none⟩) 2 2) [c, x]) (by repeat (first | exact Sel.here | apply Sel.there)) fun hok => ?_
  refine st_cl rfl rfl en51 rfl (right_ct hv (nms_own hok) (by simp)) ?_
  rintro u h' (⟨he, rfl, rfl⟩ | ⟨he, mb, rfl, rfl⟩)
  · skip
    simp only [List.cons_append, List.nil_append]
    unfold gr0
    refine st_v (v_move rfl) (st_v (v_extract rfl rfl) (st_v (v_extract rfl rfl) (st_alc al95 fun b8 => ?_)))
    refine st_stoW rfl rfl sz95 rfl rfl ?_
    refine st_v (v_assign rfl) (st_nil (nx_kp [1, 2, 6, 7, 8, 9] rfl (nx_then (cd_seq (cd_seq (cd_region (st_v (v_move rfl) (st_v (v_neq rfl rfl) (st_nil (nx_kp [1, 2, 6, 7, 8, 9, 19] rfl (nx_then ?_)))))))))))
    rw [ne_true he]
    refine cd_true rfl ?_
    refine cd_seq (cd_region (st_v (v_move rfl) (st_v (v_assign rfl) (st_v (v_assign rfl) (st_nil (nx_kp [6, 7] rfl (nx_then (cd_ret (xt_ret_then ?_)))))))))
    rw [show (decide (rightE l [c, x] = 0)) = false from decide_eq_false he, Bool.false_and]
    exact xt_rt rfl ⟨rfl, rfl⟩ (by (repeat (refine Sub.sel (by repeat (first | exact Sel.here | apply Sel.there)) ?_)); (repeat apply Sub.cons); first | exact Sub.refl _ | exact Sub.nil _)
  · skip
    obtain ⟨hR, hm⟩ := rightE_zero.1 he
    rw [he]
    simp only [List.cons_append, List.nil_append]
    refine st_v (v_move rfl) (st_v (v_extract rfl rfl) (st_v (v_extract rfl rfl) (st_alc al95 fun b8 => ?_)))
    refine st_stoW rfl rfl sz95 rfl rfl ?_
    refine st_v (v_assign rfl) (st_nil (nx_kp [1, 2, 6, 7, 8, 9] rfl (nx_then (cd_seq (cd_seq (cd_region (st_v (v_move rfl) (st_v (v_neq rfl rfl) (st_nil (nx_kp [1, 2, 6, 7, 8, 9, 19] rfl (nx_then (cd_false rfl ?_))))))))))))
    refine cd_skip (xt_then (cd_seq (cd_region (st_v (v_ldn rfl ld95 rfl rds_pt) ?_))))
    refine st_v (v_move rfl) (st_v (v_move rfl) (st_cl rfl rfl en67 rfl (has_ct hv hR.fine hR.acyc (hm c (by simp)) x) ?_))
    rintro u h' ⟨rfl, rfl⟩
    simp only [List.cons_append, List.nil_append]
    refine st_v (v_assign rfl) (st_v (v_assign rfl) (st_nil (nx_kp [6, 7] rfl (nx_then (cd_ret ?_)))))
    exact xt_rt rfl ⟨rfl, rfl⟩ (by (repeat (refine Sub.sel (by repeat (first | exact Sel.here | apply Sel.there)) ?_)); (repeat apply Sub.cons); first | exact Sub.refl _ | exact Sub.nil _)
def wayE (l : Sys) (c x : Nm) : Int := if rightE l [c, x] = 0 then (if has l c x then 0 else 5) else rightE l [c, x]
set_option maxRecDepth 100000 in
theorem Way_ct (hv : sysR S v l) (c x : Nm) : CtN Try.prog 42 #[v, sv c, sv x] [S] fun u T => ∃ w, u = .tuple #[w, .int .i64 (wayE l c x)] ∧ w.oneCell' = true ∧ T = NR w (okL (rightE l [c, x]) (shortR l x c)) := by
  obtain ⟨a, cap, rfl, _⟩ := id hv
  refine ct_of (n := 29) Try.func42 rfl rfl (len rfl) fun hr w0 => ?_
  refine cd_seq (cd_region (st_v (v_assign rfl) (st_v (v_assign rfl) (st_nil (nx_then (cd_seq (cd_region (st_v (v_move rfl) (st_v (v_move rfl) (st_v (v_move rfl) (st_buildSlice (cells := [sv c, sv x]) rfl Try.underlying25 inf9 rfl rfl (by kernel_rfl) (ltn rfl) fun b15 => ?_)))))))))))
  refine st_pv (pv_of (b := b15) (n := 2) (sz := 1) (E := 9) [nC c, nC x] rfl (by simp [nC]) rfl (by decide)) ?_
  simp only [List.cons_append, List.nil_append]
  refine st_ok (r := NR (.slice (some ⟨b15, 0, none⟩) 2 2) [c, x]) (by repeat (first | exact Sel.here | apply Sel.there)) fun hok => ?_
  refine st_cl rfl rfl en51 rfl (right_ct hv (nms_own hok) (by simp)) ?_
  rintro u h' (⟨he, rfl, rfl⟩ | ⟨he, mb, rfl, rfl⟩)
  · skip
    have hw : wayE l c x = rightE l [c, x] := if_neg he
    rw [hw]
    simp only [List.cons_append, List.nil_append]
    unfold gr0
    refine st_v (v_move rfl) (st_v (v_extract rfl rfl) (st_v (v_extract rfl rfl) (st_alc al95 fun b8 => ?_)))
    refine st_stoW rfl rfl sz95 rfl rfl ?_
    refine st_v (v_assign rfl) (st_nil (nx_kp [1, 2, 6, 7, 8, 9] rfl (nx_then (cd_seq (cd_seq (cd_region (st_v (v_move rfl) (st_v (v_neq rfl rfl) (st_nil (nx_kp [1, 2, 6, 7, 8, 9, 20] rfl (nx_then ?_)))))))))))
    rw [ne_true he]
    refine cd_true rfl ?_
    refine cd_seq (cd_region (st_v (v_move rfl) (st_v (v_assign rfl) (st_v (v_assign rfl) (st_nil (nx_kp [6, 7] rfl (nx_then (cd_ret (xt_ret_then ?_)))))))))
    rw [okL_ne he]
    refine xt_vw (vw_nil 9 1) ?_
    exact xt_rt rfl ⟨NR (.slice none 0 0) [], rfl, _, rfl, rfl, rfl⟩ (by (repeat (refine Sub.sel (by repeat (first | exact Sel.here | apply Sel.there)) ?_)); (repeat apply Sub.cons); first | exact Sub.refl _ | exact Sub.nil _)
  · skip
    obtain ⟨hR, hm⟩ := rightE_zero.1 he
    have hw : wayE l c x = if has l c x then 0 else 5 := if_pos he
    rw [hw, he, okL_eq rfl]
    simp only [List.cons_append, List.nil_append]
    refine st_v (v_move rfl) (st_v (v_extract rfl rfl) (st_v (v_extract rfl rfl) (st_alc al95 fun b8 => ?_)))
    refine st_stoW rfl rfl sz95 rfl rfl ?_
    refine st_v (v_assign rfl) (st_nil (nx_kp [1, 2, 6, 7, 8, 9] rfl (nx_then (cd_seq (cd_seq (cd_region (st_v (v_move rfl) (st_v (v_neq rfl rfl) (st_nil (nx_kp [1, 2, 6, 7, 8, 9, 20] rfl (nx_then (cd_false rfl ?_))))))))))))
    refine cd_skip (xt_then (cd_seq (cd_region (st_v (v_ldn rfl ld95 rfl rds_pt) ?_))))
    refine st_v (v_move rfl) (st_v (v_move rfl) (st_cl rfl rfl en80 rfl (shortest_ct hv hR.fine c x) ?_))
    rintro u h' ⟨T, rfl, wa, cp, rfl, hwa, rfl⟩
    unfold has
    simp only [List.cons_append, List.nil_append]
    cases hd : dist l x c
    · skip
      rw [hd] at hwa
      have hwa : wa = none := by simpa using hwa
      subst hwa
      have hsr : shortR l x c = [] := by unfold shortR; rw [hd]
      rw [hsr]
      refine st_v (v_assign rfl) (st_nil (nx_kp [6, 7, 10] rfl (nx_then (cd_seq (cd_seq (cd_region (st_v (v_move rfl) (st_v (v_eql_slice_nil rfl rfl Try.underlying25) (st_nil (nx_kp [6, 7, 10, 27] rfl (nx_then (cd_true rfl ?_))))))))))))
      refine cd_seq (cd_region (st_v (v_assign rfl) (st_v (v_assign rfl) (st_nil (nx_kp [6, 7] rfl (nx_then (cd_ret (xt_ret_then (xt_vw (vw_nil 9 1) ?_)))))))))
      exact xt_rt rfl ⟨NR (.slice none 0 0) [], rfl, _, rfl, rfl, rfl⟩ (by (repeat (refine Sub.sel (by repeat (first | exact Sel.here | apply Sel.there)) ?_)); (repeat apply Sub.cons); first | exact Sub.refl _ | exact Sub.nil _)
    · skip
      rw [hd] at hwa
      obtain ⟨wb, rfl⟩ : ∃ wb, wa = some wb := by
        cases wa with
        | none => cases hwa
        | some wb => exact ⟨wb, rfl⟩
      refine st_v (v_assign rfl) (st_nil (nx_kp [6, 7, 10] rfl (nx_then (cd_seq (cd_seq (cd_region (st_v (v_move rfl) (st_v (v_eql_slice_nil rfl rfl Try.underlying25) (st_nil (nx_kp [6, 7, 10, 27] rfl (nx_then (cd_false rfl ?_))))))))))))
      refine cd_skip (xt_then (cd_seq (cd_region (st_v (v_move rfl) (st_v (v_assign rfl) (st_v (v_assign rfl) (st_nil (nx_kp [6, 7] rfl (nx_then (cd_ret ?_))))))))))
      exact xt_rt rfl ⟨_, rfl, _, rfl, rfl, rfl⟩ (by (repeat (refine Sub.sel (by repeat (first | exact Sel.here | apply Sel.there)) ?_)); (repeat apply Sub.cons); first | exact Sub.refl _ | exact Sub.nil _)
set_option maxRecDepth 100000 in
theorem below1_ct {b6 b3 mb : Nat} (hv : sysR S v l) (hR : Right l) (c : Nm) {d : Nm} (hd : isC l d = true) : Reads Try.prog 78 #[sv d, .pointer (some ⟨b6, 0, none⟩), .pointer (some ⟨b3, 0, none⟩)] [pt b6 (cl [v, .map (some mb)] 95), pt b3 (cl [sv c] 9), S, mps mb (kindsM l)] (.bool (has l d c)) := by
  obtain ⟨a, cap, rfl, _⟩ := id hv
  refine ct_of (n := 9) Try.func78 rfl rfl (len rfl) fun hr w0 => ?_
  refine cd_seq (cd_region (st_v (v_assign rfl) (st_nil (nx_then (cd_seq (cd_region (st_v (v_ldn rfl ld95 rfl rds_pt) ?_)))))))
  refine st_v (v_move rfl) (st_v (v_ldy rfl ld9) ?_)
  refine st_cl rfl rfl en67 rfl (has_ct hv hR.fine hR.acyc hd c) ?_
  rintro u h' ⟨rfl, rfl⟩
  simp only [List.cons_append, List.nil_append]
  refine st_v (v_assign rfl) (st_nil (nx_kp [4] rfl (nx_then (cd_ret ?_))))
  exact xt_rt rfl ⟨rfl, rfl⟩ (by (repeat (refine Sub.sel (by repeat (first | exact Sel.here | apply Sel.there)) ?_)); (repeat apply Sub.cons); first | exact Sub.refl _ | exact Sub.nil _)
set_option maxRecDepth 100000 in
theorem Below_ct (hv : sysR S v l) (c : Nm) : CtN Try.prog 37 #[v, sv c] [S] fun u T => ∃ w, u = .tuple #[w, .int .i64 (rightE l [c])] ∧ w.oneCell' = true ∧ T = NR w (okL (rightE l [c]) (below l c)) := by
  obtain ⟨a, cap, rfl, _⟩ := id hv
  refine ct_of (n := 21) Try.func37 rfl rfl (len rfl) fun hr w0 => ?_
  refine cd_seq (cd_region (st_bx rfl rfl fun b3 => ?_))
  refine st_v (v_assign rfl) (st_v (v_assign rfl) (st_nil (nx_kp [0, 3, 4, 5] rfl (nx_then (cd_seq (cd_region (st_v (v_move rfl) (st_v (v_ldy rfl ld9) ?_))))))))
  refine st_buildSlice (cells := [sv c]) rfl Try.underlying25 inf9 rfl rfl (by kernel_rfl) (ltn rfl) fun b11 => ?_
  refine st_pv (pv_of (b := b11) (n := 1) (sz := 1) (E := 9) [nC c] rfl (by simp [nC]) rfl (by decide)) ?_
  simp only [List.cons_append, List.nil_append]
  refine st_ok (r := NR (.slice (some ⟨b11, 0, none⟩) 1 1) [c]) (by repeat (first | exact Sel.here | apply Sel.there)) fun hok => ?_
  refine st_cl rfl rfl en51 rfl (right_ct hv (nms_own hok) (by simp)) ?_
  rintro u h' (⟨he, rfl, rfl⟩ | ⟨he, mb, rfl, rfl⟩)
  · skip
    simp only [List.cons_append, List.nil_append]
    unfold gr0
    refine st_v (v_move rfl) (st_v (v_extract rfl rfl) (st_v (v_extract rfl rfl) (st_alc al95 fun b6 => ?_)))
    refine st_stoW rfl rfl sz95 rfl rfl ?_
    refine st_v (v_assign rfl) (st_nil (nx_kp [3, 4, 5, 6, 7] rfl (nx_then (cd_seq (cd_seq (cd_region (st_v (v_move rfl) (st_v (v_neq rfl rfl) (st_nil (nx_kp [3, 4, 5, 6, 7, 16] rfl (nx_then ?_)))))))))))
    rw [ne_true he]
    refine cd_true rfl ?_
    refine cd_seq (cd_region (st_v (v_move rfl) (st_v (v_assign rfl) (st_v (v_assign rfl) (st_nil (nx_kp [4, 5] rfl (nx_then (cd_ret (xt_ret_then ?_)))))))))
    rw [okL_ne he]
    refine xt_vw (vw_nil 9 1) ?_
    exact xt_rt rfl ⟨NR (.slice none 0 0) [], rfl, _, rfl, rfl, rfl⟩ (by (repeat (refine Sub.sel (by repeat (first | exact Sel.here | apply Sel.there)) ?_)); (repeat apply Sub.cons); first | exact Sub.refl _ | exact Sub.nil _)
  · skip
    obtain ⟨hR, hm⟩ := rightE_zero.1 he
    rw [he, okL_eq rfl]
    simp only [List.cons_append, List.nil_append]
    refine st_v (v_move rfl) (st_v (v_extract rfl rfl) (st_v (v_extract rfl rfl) (st_alc al95 fun b6 => ?_)))
    refine st_stoW rfl rfl sz95 rfl rfl ?_
    refine st_v (v_assign rfl) (st_nil (nx_kp [3, 4, 5, 6, 7] rfl (nx_then (cd_seq (cd_seq (cd_region (st_v (v_move rfl) (st_v (v_neq rfl rfl) (st_nil (nx_kp [3, 4, 5, 6, 7, 16] rfl (nx_then (cd_false rfl ?_))))))))))))
    refine cd_skip (xt_then (cd_seq (cd_region (st_v (v_ldn rfl ld95 rfl rds_pt) ?_))))
    refine st_v (v_makeFunc rfl rfl) (st_cl rfl rfl en55 rfl (ctn_star (names_ct (S := Res.star [pt b6 (cl [.slice a l.length cap, .map (some mb)] 95), pt b3 (cl [sv c] 9), S, mps mb (kindsM l)]) (kf := 78) (cp := #[.pointer (some ⟨b6, 0, none⟩), .pointer (some ⟨b3, 0, none⟩)]) (g := fun d => has l d c) (mb := mb) (hv.mono (rd_in (by repeat (first | exact Sel.here | apply Sel.there)))) hR.fine en78 fun d hd => reads_one (below1_ct hv hR c (isC_iff.2 hd)))) ?_)
    rintro u h' ⟨T, rfl, hu, rfl⟩
    simp only [List.cons_append, List.nil_append]
    refine st_v (v_assign rfl) (st_v (v_assign rfl) (st_nil (nx_kp [4, 5] rfl (nx_then (cd_ret ?_)))))
    exact xt_rt rfl ⟨_, rfl, _, rfl, hu, rfl⟩ (by (repeat (refine Sub.sel (by repeat (first | exact Sel.here | apply Sel.there)) ?_)); (repeat apply Sub.cons); first | exact Sub.refl _ | exact Sub.nil _)
end
end Go.Hr
namespace Go.Hr
open Go Go.Ck Go.Proofs Go.Proofs.Ytjgiaohieadeiaa Fx
attribute [local irreducible] Go.Ck.Sub St Cd Xt Nx DrL LsW
section
variable {S N T : Res} {v nv : Value} {l : Sys} {ns : List Nm}
set_option maxRecDepth 100000 in
theorem touched2_ct {b3 : Nat} (hn : nmsR N nv ns) (hnl : ns.length ≤ 1099511627776) (x : Nm) : Reads Try.prog 75 #[sv x, .pointer (some ⟨b3, 0, none⟩)] [T, pt b3 (cl [nv] 25), N] (.bool (ns.contains x)) := by
  obtain ⟨na, ncap, rfl, _⟩ := id hn
  refine ct_of (n := 7) Try.func75 rfl rfl (len rfl) fun hr w0 => ?_
  refine cd_seq (cd_region (st_v (v_assign rfl) (st_nil (nx_then (cd_seq (cd_region (st_v (v_ldy rfl ld25) ?_)))))))
  refine st_v (v_move rfl) (st_clr rfl rfl en76 rfl (Contains_ct hn x hnl) ?_)
  refine st_v (v_assign rfl) (st_nil (nx_kp [3] rfl (nx_then (cd_ret ?_))))
  exact xt_rt rfl ⟨rfl, rfl⟩ (by (repeat (refine Sub.sel (by repeat (first | exact Sel.here | apply Sel.there)) ?_)); (repeat apply Sub.cons); first | exact Sub.refl _ | exact Sub.nil _)
theorem any_above (hR : Right l) (d : Nm) (ns : List Nm) : ((above l d).any fun x => ns.contains x) = ns.any fun x => has l d x := by
  rw [Bool.eq_iff_iff, List.any_eq_true, List.any_eq_true]
  simp only [List.contains_iff_mem, (above_spec hR.acyc d).2]
  exact ⟨fun ⟨x, h1, h2⟩ => ⟨x, h2, h1⟩, fun ⟨x, h1, h2⟩ => ⟨x, h2, h1⟩⟩
set_option maxRecDepth 100000 in
theorem touched1_ct {b6 b3 mb : Nat} (hv : sysR S v l) (hR : Right l) (hn : nmsR N nv ns) (hnl : ns.length ≤ 1099511627776) {d : Nm} (hd : isC l d = true) : Reads Try.prog 74 #[sv d, .pointer (some ⟨b6, 0, none⟩), .pointer (some ⟨b3, 0, none⟩)] [pt b6 (cl [v, .map (some mb)] 95), pt b3 (cl [nv] 25), N, S, mps mb (kindsM l)] (.bool (ns.any fun x => has l d x)) := by
  obtain ⟨a, cap, rfl, _⟩ := id hv
  have hlen := above_len hR.acyc hd
  have hFl := hR.len
  refine ct_of (n := 10) Try.func74 rfl rfl (len rfl) fun hr w0 => ?_
  refine cd_seq (cd_region (st_v (v_assign rfl) (st_nil (nx_then (cd_seq (cd_region (st_v (v_ldn rfl ld95 rfl rds_pt) ?_)))))))
  refine st_v (v_move rfl) (st_cl rfl rfl en65 rfl (above_ct hv hR.fine hR.acyc hd) ?_)
  rintro u h' ⟨hu, rfl⟩
  simp only [List.cons_append, List.nil_append]
  refine st_ok (r := NR u (above l d)) (by repeat (first | exact Sel.here | apply Sel.there)) fun hok => ?_
  refine st_v (v_makeFunc rfl rfl) (st_cl rfl rfl en69 rfl (reads_star (ContainsFuncN_ct (S := Res.star [NR u (above l d), pt b3 (cl [nv] 25), N]) (kf := 75) (cp := #[.pointer (some ⟨b3, 0, none⟩)]) (g := fun x => ns.contains x) ((nms_own hok).mono (rd_in Sel.here)) (by omega) en75 fun x _ => reads_one (touched2_ct hn hnl x))) ?_)
  rintro u2 h' ⟨rfl, rfl⟩
  simp only [List.cons_append, List.nil_append]
  refine st_v (v_assign rfl) (st_nil (nx_kp [4] rfl (nx_then (cd_ret ?_))))
  rw [any_above hR]
  exact xt_rt rfl ⟨rfl, rfl⟩ (by (repeat (refine Sub.sel (by repeat (first | exact Sel.here | apply Sel.there)) ?_)); (repeat apply Sub.cons); first | exact Sub.refl _ | exact Sub.nil _)
def touchE (l : Sys) (ns : List Nm) : Int := if 48 < ns.length then 3 else rightE l []
theorem touch_ne {l : Sys} {ns : List Nm} (h : rightE l [] ≠ 0) : touchE l ns ≠ 0 := by
  unfold touchE
  split
  · decide
  · exact h
set_option maxRecDepth 100000 in
theorem Touched_ct (hv : sysR S v l) (hn : nmsR N nv ns) : CtN Try.prog 26 #[v, nv] [S, N] fun u T => ∃ w, u = .tuple #[w, .int .i64 (touchE l ns)] ∧ w.oneCell' = true ∧ T = NR w (okL (touchE l ns) (touched l ns)) := by
  obtain ⟨a, cap, rfl, _⟩ := id hv
  obtain ⟨na, ncap, rfl, _⟩ := id hn
  refine ct_of (n := 22) Try.func26 rfl rfl (len rfl) fun hr w0 => ?_
  refine cd_seq (cd_region (st_bx rfl rfl fun b3 => ?_))
  refine st_v (v_assign rfl) (st_v (v_assign rfl) (st_nil (nx_kp [0, 3, 4, 5] rfl (nx_then (cd_seq (cd_seq (cd_region (st_v (v_ldy rfl ld25) ?_))))))))
  refine st_v (v_len rfl Try.underlying25) (st_v (v_gtr rfl rfl) (st_nil (nx_kp [0, 3, 4, 5, 10] rfl (nx_then (cd_cond rfl (fun h48 => ?_) (fun h48 => ?_))))))
  · skip
    have h48 : 48 < ns.length := by have : (48 : Int) < ns.length := by simpa using h48
                                    omega
    have hw : touchE l ns = 3 := if_pos h48
    rw [hw, okL_ne (by decide)]
    refine cd_seq (cd_region (st_v (v_assign rfl) (st_v (v_assign rfl) (st_nil (nx_kp [4, 5] rfl (nx_then (cd_ret (xt_ret_then (xt_vw (vw_nil 9 1) ?_)))))))))
    exact xt_rt rfl ⟨NR (.slice none 0 0) [], rfl, _, rfl, rfl, rfl⟩ (by (repeat (refine Sub.sel (by repeat (first | exact Sel.here | apply Sel.there)) ?_)); (repeat apply Sub.cons); first | exact Sub.refl _ | exact Sub.nil _)
  · skip
    have h48 : ¬ 48 < ns.length := by have : ¬ (48 : Int) < ns.length := by simpa using h48
                                      omega
    have hw : touchE l ns = rightE l [] := if_neg h48
    rw [hw]
    refine cd_skip (xt_then (cd_seq (cd_region (st_v (v_move rfl) (st_vw (vw_unstar (L := [])) (st_cl rfl rfl en51 rfl (right_ct hv (N := Res.star []) (ns := []) Row.nil (by simp)) ?_))))))
    rintro u h' (⟨he, rfl, rfl⟩ | ⟨he, mb, rfl, rfl⟩)
    · skip
      simp only [List.cons_append, List.nil_append]
      unfold gr0
      refine st_v (v_move rfl) (st_v (v_extract rfl rfl) (st_v (v_extract rfl rfl) (st_alc al95 fun b6 => ?_)))
      refine st_stoW rfl rfl sz95 rfl rfl ?_
      refine st_v (v_assign rfl) (st_nil (nx_kp [3, 4, 5, 6, 7] rfl (nx_then (cd_seq (cd_seq (cd_region (st_v (v_move rfl) (st_v (v_neq rfl rfl) (st_nil (nx_kp [3, 4, 5, 6, 7, 17] rfl (nx_then ?_)))))))))))
      rw [ne_true he]
      refine cd_true rfl ?_
      refine cd_seq (cd_region (st_v (v_move rfl) (st_v (v_assign rfl) (st_v (v_assign rfl) (st_nil (nx_kp [4, 5] rfl (nx_then (cd_ret (xt_ret_then ?_)))))))))
      rw [okL_ne he]
      refine xt_vw (vw_nil 9 1) ?_
      exact xt_rt rfl ⟨NR (.slice none 0 0) [], rfl, _, rfl, rfl, rfl⟩ (by (repeat (refine Sub.sel (by repeat (first | exact Sel.here | apply Sel.there)) ?_)); (repeat apply Sub.cons); first | exact Sub.refl _ | exact Sub.nil _)
    · skip
      obtain ⟨hR, _⟩ := rightE_zero.1 he
      rw [he, okL_eq rfl]
      simp only [List.cons_append, List.nil_append]
      refine st_v (v_move rfl) (st_v (v_extract rfl rfl) (st_v (v_extract rfl rfl) (st_alc al95 fun b6 => ?_)))
      refine st_stoW rfl rfl sz95 rfl rfl ?_
      refine st_v (v_assign rfl) (st_nil (nx_kp [3, 4, 5, 6, 7] rfl (nx_then (cd_seq (cd_seq (cd_region (st_v (v_move rfl) (st_v (v_neq rfl rfl) (st_nil (nx_kp [3, 4, 5, 6, 7, 17] rfl (nx_then (cd_false rfl ?_))))))))))))
      refine cd_skip (xt_then (cd_seq (cd_region (st_v (v_ldn rfl ld95 rfl rds_pt) ?_))))
      refine st_v (v_makeFunc rfl rfl) (st_cl rfl rfl en55 rfl (ctn_star (names_ct (S := Res.star [pt b6 (cl [.slice a l.length cap, .map (some mb)] 95), pt b3 (cl [.slice na ns.length ncap] 25), N, S, mps mb (kindsM l)]) (kf := 74) (cp := #[.pointer (some ⟨b6, 0, none⟩), .pointer (some ⟨b3, 0, none⟩)]) (g := fun d => ns.any fun x => has l d x) (mb := mb) (hv.mono (rd_in (by repeat (first | exact Sel.here | apply Sel.there)))) hR.fine en74 fun d hd => reads_one (touched1_ct hv hR hn (by omega) (isC_iff.2 hd)))) ?_)
      rintro u h' ⟨T, rfl, hu, rfl⟩
      simp only [List.cons_append, List.nil_append]
      refine st_v (v_assign rfl) (st_v (v_assign rfl) (st_nil (nx_kp [4, 5] rfl (nx_then (cd_ret ?_)))))
      exact xt_rt rfl ⟨_, rfl, _, rfl, hu, rfl⟩ (by (repeat (refine Sub.sel (by repeat (first | exact Sel.here | apply Sel.there)) ?_)); (repeat apply Sub.cons); first | exact Sub.refl _ | exact Sub.nil _)
set_option maxRecDepth 100000 in
theorem AppendSeq_ct {c1 c2 mb : Nat} (hv : sysR S v l) (hF : Fine l) (c : Nm) : Ct Try.prog 103 #[.slice none 0 0, seqv c1 c2] [pt c1 (cl [v, .map (some mb)] 95), pt c2 (cl [sv c] 9), S, mps mb (kindsM l)] fun u h' => u.oneCell' = true ∧ h' = [NR u (par l c), pt c1 (cl [v, .map (some mb)] 95), pt c2 (cl [sv c] 9), S, mps mb (kindsM l)] := by
  obtain ⟨a, cap, rfl, _⟩ := id hv
  have hpl := par_len hF c
  refine ct_ofM (n := 13) Try.func103 rfl rfl (len rfl) fun hr w0 => ?_
  refine cd_seq (cd_region (st_bx rfl rfl fun b2 => ?_))
  refine st_v (v_assign rfl) (st_nil (nx_kp [1, 2, 4] rfl (nx_then (cd_seq (cd_seq (cd_region (st_v (v_move rfl) (st_nil (nx_kp [2, 4, 6] rfl (nx_then (cd_block (cd_vw (vw_nil 9 1) ?_))))))))))))
  unfold seqv
  simp only [List.cons_append, List.nil_append]
  refine cd_range' rfl en92 fun yl db rec hst hpe hps hasg hbo hkn2 => ?_
  refine ⟨_, Ct.perm (it_ct (σ := Value × List Nm) (b1 := c1) (b2 := c2) (mb := mb) (yl := yl) (c := c) (fun q => pt yl (.loop rec) :: pt db (.deferred (some [])) :: NR q.1 q.2 :: pt b2 (cl [q.1] 25) :: hr)
    (fun k q => q.1.oneCell' = true ∧ q.2 = (par l c).take k) (fun _ _ => False) (.slice none 0 0, []) ⟨rfl, rfl⟩ hv hF.few ?_) ?_, ?_⟩
  · rintro k ⟨w2, o2⟩ p hk ⟨hw2, ho2⟩
    simp only at hw2 ho2
    obtain ⟨hkl, hke⟩ := List.getElem?_eq_some_iff.1 hk
    have ho3 : o2 ++ [p] = (par l c).take (k + 1) := by rw [List.take_succ_eq_append_getElem hkl, hke, ← ho2]
    have hol : o2.length = k := by rw [ho2, List.length_take]; omega
    refine Yc.perm (yc_of (n := 13) (rec := rec) (args := [sv p]) (hf := pt db (.deferred (some [])) :: NR w2 o2 :: pt b2 (cl [w2] 25) :: S :: mps mb (kindsM l) :: hr) (by rw [hps]; rfl) hkn2 (by rw [hps]; decide) ?_) (by exact (by repeat (first | exact Pm.refl | refine Pm.cons (by repeat (first | exact Sel.here | apply Sel.there)) ?_) : Pm _ _).perm)
    intro hr2 w1
    rw [hasg, hps, hbo]
    simp only [List.cons_append, List.nil_append]
    refine cd_region (st_v (v_assign rfl) (st_nil (nx_kp [2, 4, 5] rfl (nx_xt (xt_mid rfl (by repeat (first | exact Sel.here | apply Sel.there)) (by first | rfl | assumption) ?_)))))
    refine cd_block (cd_region (st_v (v_ldy rfl ld25) ?_))
    refine st_v (v_move rfl) (st_buildSlice (cells := [sv p]) rfl Try.underlying25 inf9 rfl rfl (by kernel_rfl) (ltn rfl) fun b10 => ?_)
    refine st_app [nC p] rfl rfl Try.underlying25 inf9 rfl (by decide) (show Sel _ (NR w2 o2) _ from (by repeat (first | exact Sel.here | apply Sel.there))) (by simp [nC]) rfl (fun j u2 hu2 => at_here (rd_cl (by simpa [nC] using hu2))) (by simp [nC, Value.oneCell']) (by simp; omega) (by simp; omega) (ltn rfl) fun w3 hw3 _ => ?_
    rw [show o2.map nC ++ [nC p] = (o2 ++ [p]).map nC by simp]
    refine st_sto rfl rfl sz25 ?_
    refine st_nil (nx_kp [4] rfl (nx_xt (xt_normal_block (xt_round (by repeat (first | exact Sel.here | apply Sel.there)) (.inl ⟨rfl, (w3, o2 ++ [p]), ⟨hw3, ho3⟩, rfl⟩) ?_))))
    rw [rec_back hst hpe]
    exact (by repeat (first | exact Sub.refl _ | exact Sub.nil _ | refine Sub.sel (by repeat (first | exact Sel.here | apply Sel.there)) ?_ | apply Sub.cons))
  · exact (by repeat (first | exact Pm.refl | refine Pm.cons (by repeat (first | exact Sel.here | apply Sel.there)) ?_) : Pm _ _).perm
  · rintro u h' ⟨rfl, (⟨⟨w2, o2⟩, ⟨hw2, ho2⟩, rfl⟩ | ⟨_, _, hfalse, _⟩)⟩
    · simp only at hw2 ho2
      refine ⟨rec, _, (by repeat (first | exact Sel.here | apply Sel.there)), (by rw [hst]; simp), ?_⟩
      rw [hpe]
      dsimp only
      rw [List.take_length] at ho2
      subst ho2
      refine xt_normal_block (xt_then (cd_seq (cd_region (st_v (v_ldy rfl ld25) ?_))))
      refine st_v (v_assign rfl) (st_nil (nx_kp [4] rfl (nx_then (cd_ret ?_))))
      exact xt_retM (bs := [db]) rfl rfl ⟨hw2, rfl⟩ (by repeat (first | exact Sub.refl _ | exact Sub.nil _ | refine Sub.sel (by repeat (first | exact Sel.here | apply Sel.there)) ?_ | apply Sub.cons))
    · exact hfalse.elim
set_option maxRecDepth 100000 in
theorem Collect_ct {c1 c2 mb : Nat} (hv : sysR S v l) (hF : Fine l) (c : Nm) : Ct Try.prog 82 #[seqv c1 c2] [pt c1 (cl [v, .map (some mb)] 95), pt c2 (cl [sv c] 9), S, mps mb (kindsM l)] fun u h' => u.oneCell' = true ∧ h' = [NR u (par l c), pt c1 (cl [v, .map (some mb)] 95), pt c2 (cl [sv c] 9), S, mps mb (kindsM l)] := by
  obtain ⟨a, cap, rfl, _⟩ := id hv
  refine ct_of (n := 5) Try.func82 rfl rfl (len rfl) fun hr w0 => ?_
  refine cd_seq (cd_region (st_v (v_assign rfl) (st_nil (nx_then (cd_seq (cd_region (st_v (v_move rfl) (st_cl rfl rfl en103 rfl (AppendSeq_ct hv hF c) ?_))))))))
  rintro u h' ⟨hu, rfl⟩
  simp only [List.cons_append, List.nil_append]
  refine st_v (v_assign rfl) (st_nil (nx_kp [2] rfl (nx_then (cd_ret ?_))))
  exact xt_rt rfl ⟨hu, rfl⟩ (by (repeat (refine Sub.sel (by repeat (first | exact Sel.here | apply Sel.there)) ?_)); (repeat apply Sub.cons); first | exact Sub.refl _ | exact Sub.nil _)
end
end Go.Hr
namespace Go.Hr
open Go Go.RowKit Go.Ck Go.Proofs Go.Proofs.Ytjgiaohieadeiaa Fx
attribute [local irreducible] Go.Ck.Sub St Cd Xt Nx DrL LsW
theorem nms_tail {N : Res} {b o n cap : Nat} {x : Nm} {t : List Nm} (h : nmsR N (.slice (some ⟨b, o, none⟩) n cap) (x :: t)) : nmsR N (.slice (some ⟨b, if cap = 1 then o else o + 1 * 1, none⟩) t.length (cap - 1)) t := by
  obtain ⟨a, cap2, he, h2, h3, _, h5⟩ := h
  cases he
  refine ⟨_, _, rfl, by simp at h2; omega, by omega, (fun h => by cases h), fun i y hi => ?_⟩
  obtain ⟨b2, o2, us, e, h6, h7, h8⟩ := h5 (i + 1) y (by simpa using hi)
  cases e
  have hc : cap ≠ 1 := by
    have := (List.getElem?_eq_some_iff.1 hi).1
    simp at h2; omega
  refine ⟨_, _, us, rfl, h6, ?_, h8⟩
  rw [if_neg hc]
  rw [show o + 1 * 1 + i * 1 = o + (i + 1) * 1 by omega]
  exact h7
def wayC (l : Sys) (c x : Nm) (ns : List Nm) : Int := if rightE l [c, x] = 0 then (if wayOk l c x ns then 0 else 11) else rightE l [c, x]
theorem wayOk_cons {l : Sys} {c x c0 : Nm} {t : List Nm} : wayOk l c x (c0 :: t) = (!(((c0 != c)) || ((c0 :: t).getLast (by simp) != x)) && (List.range t.length).all fun i => (par l ((c0 :: t).getD i [])).contains (t.getD i [])) := by
  unfold wayOk
  rw [List.getLast?_eq_some_getLast (List.cons_ne_nil c0 t)]
  simp [bne]
section
variable {S N : Res} {v nv : Value} {l : Sys} {ns : List Nm}
set_option maxRecDepth 100000 in
theorem CheckWay_ct (hv : sysR S v l) (hn : nmsR N nv ns) (hnl : ns.length ≤ 1099511627776) (c x : Nm) : Ct Try.prog 44 #[v, sv c, sv x, nv] [S, N] fun u h' => u = .int .i64 (wayC l c x ns) ∧ h' = [S, N] := by
  obtain ⟨a, cap, rfl, _⟩ := id hv
  obtain ⟨na, ncap, rfl, hnc, _⟩ := id hn
  refine ct_of (n := 64) Try.func44 rfl rfl (len rfl) fun hr w0 => ?_
  refine cd_seq (cd_region (st_v (v_assign rfl) (st_nil (nx_then (cd_seq (cd_region (st_v (v_move rfl) (st_v (v_move rfl) (st_v (v_move rfl) (st_buildSlice (cells := [sv c, sv x]) rfl Try.underlying25 inf9 rfl rfl (by kernel_rfl) (ltn rfl) fun b18 => ?_))))))))))
  refine st_pv (pv_of (b := b18) (n := 2) (sz := 1) (E := 9) [nC c, nC x] rfl (by simp [nC]) rfl (by decide)) ?_
  simp only [List.cons_append, List.nil_append]
  refine st_ok (r := NR (.slice (some ⟨b18, 0, none⟩) 2 2) [c, x]) (by repeat (first | exact Sel.here | apply Sel.there)) fun hok => ?_
  refine st_cl rfl rfl en51 rfl (right_ct hv (nms_own hok) (by simp)) ?_
  rintro u h' (⟨he, rfl, rfl⟩ | ⟨he, mb, rfl, rfl⟩)
  · skip
    have hw : wayC l c x ns = rightE l [c, x] := if_neg he
    rw [hw]
    simp only [List.cons_append, List.nil_append]
    unfold gr0
    refine st_v (v_move rfl) (st_v (v_extract rfl rfl) (st_v (v_extract rfl rfl) (st_alc al95 fun b9 => ?_)))
    refine st_stoW rfl rfl sz95 rfl rfl ?_
    refine st_v (v_assign rfl) (st_nil (nx_kp [1, 2, 3, 8, 9, 10] rfl (nx_then (cd_seq (cd_seq (cd_region (st_v (v_move rfl) (st_v (v_neq rfl rfl) (st_nil (nx_kp [1, 2, 3, 8, 9, 10, 23] rfl (nx_then ?_)))))))))))
    rw [ne_true he]
    refine cd_true rfl ?_
    refine cd_seq (cd_region (st_v (v_move rfl) (st_v (v_assign rfl) (st_nil (nx_kp [8] rfl (nx_then (cd_ret (xt_ret_then ?_))))))))
    exact xt_rt rfl ⟨rfl, rfl⟩ (by (repeat (refine Sub.sel (by repeat (first | exact Sel.here | apply Sel.there)) ?_)); (repeat apply Sub.cons); first | exact Sub.refl _ | exact Sub.nil _)
  · skip
    obtain ⟨hR, hm⟩ := rightE_zero.1 he
    have hw : wayC l c x ns = if wayOk l c x ns then 0 else 11 := if_pos he
    rw [hw]
    simp only [List.cons_append, List.nil_append]
    refine st_v (v_move rfl) (st_v (v_extract rfl rfl) (st_v (v_extract rfl rfl) (st_alc al95 fun b9 => ?_)))
    refine st_stoW rfl rfl sz95 rfl rfl ?_
    refine st_v (v_assign rfl) (st_nil (nx_kp [1, 2, 3, 8, 9, 10] rfl (nx_then (cd_seq (cd_seq (cd_region (st_v (v_move rfl) (st_v (v_neq rfl rfl) (st_nil (nx_kp [1, 2, 3, 8, 9, 10, 23] rfl (nx_then (cd_false rfl ?_))))))))))))
    refine cd_skip (xt_then (cd_seq (cd_region (st_v (v_move rfl) (st_v (v_len rfl Try.underlying25) (st_v (v_assign rfl) (st_nil (nx_kp [1, 2, 3, 8, 9, 11] rfl (nx_then (cd_seq (cd_seq (cd_region (st_v (v_move rfl) (st_v (v_eql rfl rfl) (st_v (v_move rfl) ?_)))))))))))))))
    cases ns with
    | nil =>
      refine st_sk rfl rfl rfl ?_
      refine st_sk rfl rfl rfl ?_
      refine st_sk rfl rfl rfl ?_
      refine st_sk rfl rfl rfl ?_
      refine st_sk rfl rfl rfl ?_
      refine st_v (v_pick_true rfl rfl) (st_v (v_move rfl) (st_sk rfl rfl rfl ?_))
      refine st_sk rfl rfl rfl ?_
      refine st_sk rfl rfl rfl ?_
      refine st_sk rfl rfl rfl ?_
      refine st_sk rfl rfl rfl ?_
      refine st_sk rfl rfl rfl ?_
      refine st_sk rfl rfl rfl ?_
      refine st_v (v_pick_true rfl rfl) (st_nil (nx_kp [3, 8, 9, 44] rfl (nx_then (cd_true rfl ?_))))
      refine cd_seq (cd_region (st_v (v_assign rfl) (st_nil (nx_kp [8] rfl (nx_then (cd_ret (xt_ret_then ?_)))))))
      exact xt_rt rfl ⟨rfl, rfl⟩ (by (repeat (refine Sub.sel (by repeat (first | exact Sel.here | apply Sel.there)) ?_)); (repeat apply Sub.cons); first | exact Sub.refl _ | exact Sub.nil _)
    | cons c0 t =>
      obtain ⟨b, o, cap2, hv2, hrd⟩ := nms_at hn (show (c0 :: t)[0]? = some c0 from rfl)
      obtain ⟨b', o', cap2', hv2', hrd'⟩ := nms_at hn (show (c0 :: t)[t.length]? = some ((c0 :: t).getLast (by simp)) by rw [List.getLast_eq_getElem]; simp)
      cases hv2
      cases hv2'
      rw [wayOk_cons]
      generalize hlast : (c0 :: t).getLast (by simp) = cl0 at *
      refine st_cut (k := 9) (d := 35) (v := .bool ((((c0 :: t).length : Int) == 0) || (c0 != c))) (fun hcut => bool_want (b := (((c0 :: t).length : Int) == 0)) false (fun hg => ?_) (fun hg => ?_)) ?_
      · refine st_sk rfl rfl hg ?_
        refine st_sk rfl rfl hg ?_
        refine st_sk rfl rfl hg ?_
        refine st_sk rfl rfl hg ?_
        refine st_sk rfl rfl hg ?_
        refine st_v (v_pick_true (bool_ev rfl hg) rfl) ?_
        exact hcut _ (ssub_head (by first | rfl | (rw [hg]; rfl) | simp_all) (ssub_skip rfl (ssub_skip rfl (ssub_skip rfl (ssub_skip rfl (ssub_skip rfl (ssub_refl)))))))
      · skip
        refine st_vg rfl (bool_get rfl hg) (v_move rfl) (st_vg rfl (bool_get rfl hg) (v_indexAddr (k := 0) rfl rfl sl25 rfl (by simp) rfl) ?_)
        refine st_vg rfl (bool_get rfl hg) (v_ldy rfl ld9) ?_
        refine st_vg rfl (bool_get rfl hg) (v_move rfl) (st_vg rfl (bool_get rfl hg) (v_sneq rfl rfl) (st_v (v_pick_false (bool_ev rfl hg) rfl) ?_))
        exact hcut _ (ssub_head (by first | rfl | (rw [hg]; rfl) | simp_all) (ssub_skip rfl (ssub_skip rfl (ssub_skip rfl (ssub_skip rfl (ssub_skip rfl (ssub_refl)))))))
      refine st_v (v_move rfl) (st_cut (k := 18) (d := 44) (v := .bool (((((c0 :: t).length : Int) == 0) || (c0 != c)) || (cl0 != x))) (fun hcut => bool_want (b := ((((c0 :: t).length : Int) == 0) || (c0 != c))) false (fun hg => ?_) (fun hg => ?_)) ?_)
      · refine st_sk rfl rfl hg ?_
        refine st_sk rfl rfl hg ?_
        refine st_sk rfl rfl hg ?_
        refine st_sk rfl rfl hg ?_
        refine st_sk rfl rfl hg ?_
        refine st_sk rfl rfl hg ?_
        refine st_sk rfl rfl hg ?_
        refine st_v (v_pick_true (bool_ev rfl hg) rfl) ?_
        exact hcut _ (ssub_head (by first | rfl | (rw [hg]; rfl) | simp_all) (ssub_skip rfl (ssub_skip rfl (ssub_skip rfl (ssub_skip rfl (ssub_skip rfl (ssub_skip rfl (ssub_skip rfl (ssub_refl)))))))))
      · skip
        refine st_vg rfl (bool_get rfl hg) (v_move rfl) (st_vg rfl (bool_get rfl hg) (v_move rfl) (st_vg rfl (bool_get rfl hg) (v_sub rfl rfl (by unfold I64 at *; omega)) (st_vg rfl (bool_get rfl hg) (v_indexAddr (k := t.length) rfl rfl sl25 (by simp) (by simp) rfl) ?_)))
        refine st_vg rfl (bool_get rfl hg) (v_ldy rfl ld9) ?_
        refine st_vg rfl (bool_get rfl hg) (v_move rfl) (st_vg rfl (bool_get rfl hg) (v_sneq rfl rfl) (st_v (v_pick_false (bool_ev rfl hg) rfl) ?_))
        exact hcut _ (ssub_head (by first | rfl | (rw [hg]; rfl) | simp_all) (ssub_skip rfl (ssub_skip rfl (ssub_skip rfl (ssub_skip rfl (ssub_skip rfl (ssub_skip rfl (ssub_skip rfl (ssub_refl)))))))))
      have h0 : (((c0 :: t).length : Int) == 0) = false := by simp; omega
      rw [h0, Bool.false_or]
      refine st_nil (nx_kp [3, 8, 9, 44] rfl (nx_then (cd_cond rfl (fun hq => ?_) (fun hq => ?_))))
      · skip
        rw [hq]
        refine cd_seq (cd_region (st_v (v_assign rfl) (st_nil (nx_kp [8] rfl (nx_then (cd_ret (xt_ret_then ?_)))))))
        exact xt_rt rfl ⟨rfl, rfl⟩ (by (repeat (refine Sub.sel (by repeat (first | exact Sel.here | apply Sel.there)) ?_)); (repeat apply Sub.cons); first | exact Sub.refl _ | exact Sub.nil _)
      · skip
        rw [hq]
        refine cd_skip (xt_then (cd_seq (cd_seq (cd_region (st_v (v_move rfl) (st_v (v_sliceTail rfl rfl sl25 rfl (by simp) hnc) ?_))))))
        refine st_v (v_len rfl Try.underlying25) (st_v (v_move rfl) (st_nil (nx_kp [3, 8, 9, 46, 47, 48] rfl (nx_then (cd_block ?_)))))
        have hnt := nms_tail hn
        have htl : t.length + 1 ≤ 1099511627776 := by simpa using hnl
        rw [show (c0 :: t).length - 1 = t.length from rfl]
        refine cd_lq (σ := Nat) (fun i => [(3, .slice (some ⟨b, o, none⟩) (c0 :: t).length ncap), (9, .pointer (some ⟨b9, 0, none⟩)), (46, .slice (some ⟨b, if ncap = 1 then o else o + 1 * 1, none⟩) t.length (ncap - 1)), (47, .int .i64 t.length), (48, .int .i64 (i : Nat))]) (fun _ => pt b9 (cl [.slice a l.length cap, .map (some mb)] 95) :: mps mb (kindsM l) :: S :: N :: hr) (fun i => i ≤ t.length ∧ ∀ j, j < i → (par l ((c0 :: t).getD j [])).contains (t.getD j []) = true) (fun i => t.length - i) 0 ⟨Nat.zero_le _, fun j hj => by omega⟩ ?_
        rintro i ⟨hi, hal⟩
        refine cd_seq (cd_region (st_v (v_lss rfl rfl) (st_nil (nx_then (cd_seq (cd_cond rfl (fun hd => ?_) (fun hd => ?_)))))))
        · skip
          have hlt : i < t.length := by simpa using hd
          obtain ⟨tb, to, tcap, htv, htrd⟩ := nms_at hnt (List.getElem?_eq_getElem hlt)
          have hget : (c0 :: t)[i]? = some ((c0 :: t).getD i []) := getD_of [] (by simp; omega)
          obtain ⟨wb, wo, wcap, hwv, hwrd⟩ := nms_at hn hget
          have hge : t.getD i [] = t[i] := by simp [hlt]
          generalize hwi : (c0 :: t).getD i [] = wi at hget hwrd
          generalize t[i] = ti at hge htrd
          refine cd_skip (xt_then (cd_seq (cd_block (cd_seq (cd_region (st_v (v_move rfl) (st_v (v_indexAddr (k := i) (congrArg some htv) rfl sl25 rfl hlt rfl) (st_v (v_ldy rfl ld9) ?_))))))))
          refine st_v (v_assign rfl) (st_v (v_assign rfl) (st_nil (nx_kp [3, 9, 12, 13, 46, 47, 48] rfl (nx_then (cd_seq (cd_drawh (ork [(0, 1), (1, 2), (2, 2), (3, 2), (4, 1), (7, 2), (5, 0), (6, 0), (8, 0), (9, 2)] .nil) (fun i => !(Nat.beq i 5 || Nat.beq i 6 || Nat.beq i 8)) mixed (by kernel_rfl) ?_))))))
          refine dr_v rfl (v_ldn rfl ld95 rfl rds_pt) ?_
          refine dp_v rfl (v_move rfl) (dp_v rfl (v_move rfl) (dp_v rfl (v_indexAddr (k := i) (congrArg some hwv) rfl sl25 rfl (by simp; omega) rfl) ?_))
          refine dr_v rfl (v_ldy rfl ld9) ?_
          refine dp_v rfl (v_move rfl) (dr_eff rfl (st_cl rfl rfl en53 rfl (parents0_ct rfl) ?_))
          rintro u h' ⟨c1, c2, rfl, rfl⟩
          simp only [List.cons_append, List.nil_append]
          refine dr_nx ?_
          refine dr_eff rfl (st_cl rfl rfl en82 rfl (Collect_ct hv hR.fine wi) ?_)
          rintro u h' ⟨hu, rfl⟩
          simp only [List.cons_append, List.nil_append]
          have hpl := par_len hR.fine wi
          refine st_ok (r := NR u (par l wi)) (by repeat (first | exact Sel.here | apply Sel.there)) fun hok => ?_
          refine dr_nx ?_
          refine dr_eff rfl (st_cl rfl rfl en76 rfl (Contains_ct (nms_own hok) ti (by omega)) ?_)
          rintro u h' ⟨rfl, rfl⟩
          simp only [List.cons_append, List.nil_append]
          refine dr_nx ?_
          refine dp_v rfl (v_not rfl) (dr_nil (nx_kp [3, 9, 46, 47, 48, 62] rfl (nx_then (cd_cond rfl (fun hno => ?_) (fun hno => ?_)))))
          · skip
            have hno : (par l wi).contains ti = false := by simpa using hno
            rw [show ((List.range t.length).all fun i => (par l ((c0 :: t).getD i [])).contains (t.getD i [])) = false from List.all_eq_false.2 ⟨i, List.mem_range.2 hlt, by rw [hwi, hge, hno]; decide⟩]
            refine cd_seq (cd_region (st_v (v_assign rfl) (st_nil (nx_kp [8] rfl (nx_then (cd_ret (xt_ret_block (xt_ret_then (xt_ret_then (xt_ret_block (xt_ret_then ?_)))))))))))
            exact xt_rt rfl ⟨rfl, rfl⟩ (by (repeat (refine Sub.sel (by repeat (first | exact Sel.here | apply Sel.there)) ?_)); (repeat apply Sub.cons); first | exact Sub.refl _ | exact Sub.nil _)
          · skip
            have hno : (par l wi).contains ti = true := by simpa using hno
            refine cd_skip (xt_normal_block (xt_then (cd_region (st_v (v_add rfl rfl (by unfold I64 at *; omega)) (st_v (v_move rfl) (st_nil (nx_kp [3, 9, 46, 47, 48] rfl (nx_xt (xt_aq (i + 1) ⟨hlt, fun j hj => ?_⟩ (by show _ - _ < _ - _; omega))))))))))
            by_cases hji : j = i
            · subst hji; rw [hwi, hge]; exact hno
            · exact hal j (by omega)
        · skip
          refine cd_exit (xt_exit_then (xt_exit_then (xt_exit_block (xt_then (cd_seq (cd_region (st_v (v_assign rfl) (st_nil (nx_kp [8] rfl (nx_then (cd_ret ?_)))))))))))
          have hil : i = t.length := by have : ¬ i < t.length := by simpa using hd
                                        omega
          rw [show ((List.range t.length).all fun i => (par l ((c0 :: t).getD i [])).contains (t.getD i [])) = true from List.all_eq_true.2 fun j hj => hal j (by rw [hil]; exact List.mem_range.1 hj)]
          exact xt_rt rfl ⟨rfl, rfl⟩ (by (repeat (refine Sub.sel (by repeat (first | exact Sel.here | apply Sel.there)) ?_)); (repeat apply Sub.cons); first | exact Sub.refl _ | exact Sub.nil _)
theorem v_rem {P : Program} {e : Env} {h : SH} {ty : TypeId} {t t' : TypeId} {x y : Operand} {k : IntKind} {a b : Int} (hx : e.ev? x = some (.int k a)) (hy : e.ev? y = some (.int k b)) (hb : b ≠ 0) (hw : k.wrap (a.tmod b) = a.tmod b) : Vop P e h (.binOp .rem t x y t') ty (.int k (a.tmod b)) :=
  ⟨by simp, by simp, fun ρ w d pos after g hρ _ => by
    simp [execOp, hρ x _ hx, hρ y _ hy, eqGuard_rem, binOp_rem, Op.intDiv, hb, hw]⟩
def ringC (l : Sys) (ns : List Nm) : Int := if 24 < l.length ∨ 24 < ns.length then 3 else if ringOk l ns then 0 else 11
theorem ringOk_false1 {l : Sys} {ns : List Nm} (h : ns = [] ∨ ¬ ns.Nodup) : ringOk l ns = false := by
  unfold ringOk
  rcases h with rfl | h
  · rfl
  · simp [h]
theorem ringOk_all {l : Sys} {ns : List Nm} (h : ¬ (ns = [] ∨ ¬ ns.Nodup)) : ringOk l ns = (List.range ns.length).all fun i => (par l (ns.getD i [])).contains (ns.getD ((i + 1) % ns.length) []) := by
  unfold ringOk
  have h1 : ns ≠ [] := fun e => h (.inl e)
  have h2 : ns.Nodup := Classical.byContradiction fun e => h (.inr e)
  have h3 : ns.isEmpty = false := by cases ns <;> simp at h1 ⊢
  rw [h3, decide_eq_true h2]; rfl
set_option maxRecDepth 100000 in
theorem CheckRing_ct (hv : sysR S v l) (hp : ∀ x ∈ l, x.parents.length ≤ 1099511627776) (hn : nmsR N nv ns) (hnl : ns.length ≤ 1099511627776) : Ct Try.prog 48 #[v, nv] [S, N] fun u h' => u = .int .i64 (ringC l ns) ∧ h' = [S, N] := by
  obtain ⟨a, cap, rfl, _⟩ := id hv
  obtain ⟨na, ncap, rfl, hnc, _⟩ := id hn
  refine ct_of (n := 47) Try.func48 rfl rfl (len rfl) fun hr w0 => ?_
  refine cd_seq (cd_region (st_v (v_assign rfl) (st_nil (nx_then (cd_seq (cd_seq (cd_region (st_v (v_move rfl) (st_v (v_len rfl Try.underlying22) (st_v (v_gtr rfl rfl) (st_v (v_move rfl) (st_cut (k := 8) (d := 15) (v := .bool (decide (24 < (l.length : Int)) || decide (24 < (ns.length : Int)))) (fun hcut => bool_want (b := decide (24 < (l.length : Int))) false (fun hg => ?_) (fun hg => ?_)) ?_))))))))))))
  · refine st_sk rfl rfl hg ?_
    refine st_sk rfl rfl hg ?_
    refine st_sk rfl rfl hg ?_
    refine st_v (v_pick_true (bool_ev rfl hg) rfl) ?_
    exact hcut _ (ssub_head (by first | rfl | (rw [hg]; rfl) | simp_all) (ssub_skip rfl (ssub_skip rfl (ssub_skip rfl (ssub_refl)))))
  · skip
    refine st_vg rfl (bool_get rfl hg) (v_move rfl) (st_vg rfl (bool_get rfl hg) (v_len rfl Try.underlying25) (st_vg rfl (bool_get rfl hg) (v_gtr rfl rfl) (st_v (v_pick_false (bool_ev rfl hg) rfl) ?_)))
    exact hcut _ (ssub_head (by first | rfl | (rw [hg]; rfl) | simp_all) (ssub_skip rfl (ssub_skip rfl (ssub_skip rfl (ssub_refl)))))
  refine st_nil (nx_kp [0, 1, 4, 15] rfl (nx_then (cd_cond rfl (fun h24 => ?_) (fun h24 => ?_))))
  · skip
    have hw : ringC l ns = 3 := if_pos (by
      rcases Bool.or_eq_true _ _ ▸ h24 with h | h
      · left; have := of_decide_eq_true h; omega
      · right; have := of_decide_eq_true h; omega)
    rw [hw]
    refine cd_seq (cd_region (st_v (v_assign rfl) (st_nil (nx_kp [4] rfl (nx_then (cd_ret (xt_ret_then ?_)))))))
    exact xt_rt rfl ⟨rfl, rfl⟩ (by (repeat (refine Sub.sel (by repeat (first | exact Sel.here | apply Sel.there)) ?_)); (repeat apply Sub.cons); first | exact Sub.refl _ | exact Sub.nil _)
  · skip
    obtain ⟨h1, h2⟩ := Bool.or_eq_false_iff.1 h24
    have h1 : ¬ 24 < l.length := by have := of_decide_eq_false h1; omega
    have h2 : ¬ 24 < ns.length := by have := of_decide_eq_false h2; omega
    have hw : ringC l ns = if ringOk l ns then 0 else 11 := if_neg (by omega)
    have hF : Fine l := ⟨by omega, hp⟩
    rw [hw]
    refine cd_skip (xt_then (cd_seq (cd_region (st_v (v_move rfl) (st_cl rfl rfl en60 rfl (of_ct hv (by omega)) ?_)))))
    rintro u h' ⟨mb, rfl, rfl⟩
    simp only [List.cons_append, List.nil_append]
    refine st_alc al95 fun b5 => ?_
    refine st_stoW rfl rfl sz95 rfl rfl ?_
    refine st_nil (nx_kp [1, 4, 5] rfl (nx_then (cd_seq (cd_seq (cd_region (st_v (v_move rfl) (st_v (v_len rfl Try.underlying25) (st_v (v_eql rfl rfl) (st_v (v_move rfl) (st_cut (k := 7) (d := 24) (v := .bool (((ns.length : Int) == 0) || !decide ns.Nodup)) (fun hcut => bool_want (b := ((ns.length : Int) == 0)) false (fun hg => ?_) (fun hg => ?_)) ?_))))))))))
    · refine st_sk rfl rfl hg ?_
      refine st_sk rfl rfl hg ?_
      refine st_v (v_pick_true (bool_ev rfl hg) rfl) ?_
      exact hcut _ (ssub_head (by first | rfl | (rw [hg]; rfl) | simp_all) (ssub_skip rfl (ssub_skip rfl (ssub_refl))))
    · skip
      refine st_vg rfl (bool_get rfl hg) (v_move rfl) (st_clrg rfl (bool_get rfl hg) rfl rfl en90 rfl (twiceS_ct hn hnl) ?_)
      refine st_v (v_pick_false (bool_ev rfl hg) rfl) ?_
      exact hcut _ (ssub_head (by first | rfl | (rw [hg]; rfl) | simp_all) (ssub_skip rfl (ssub_skip rfl (ssub_refl))))
    refine st_nil (nx_kp [1, 4, 5, 24] rfl (nx_then (cd_cond rfl (fun hq => ?_) (fun hq => ?_))))
    · skip
      rw [ringOk_false1 (by
        rcases Bool.or_eq_true _ _ ▸ hq with h | h
        · left; exact List.eq_nil_of_length_eq_zero (by have : (ns.length : Int) = 0 := by simpa using h
                                                        omega)
        · right; simpa using h)]
      refine cd_seq (cd_region (st_v (v_assign rfl) (st_nil (nx_kp [4] rfl (nx_then (cd_ret (xt_ret_then ?_)))))))
      exact xt_rt rfl ⟨rfl, rfl⟩ (by (repeat (refine Sub.sel (by repeat (first | exact Sel.here | apply Sel.there)) ?_)); (repeat apply Sub.cons); first | exact Sub.refl _ | exact Sub.nil _)
    · skip
      obtain ⟨q1, q2⟩ := Bool.or_eq_false_iff.1 hq
      have hne : ns ≠ [] := fun e => by rw [e] at q1; cases q1
      have hnp : 0 < ns.length := List.length_pos_iff.2 hne
      rw [ringOk_all (by
        rintro (h | h)
        · exact hne h
        · exact h (by simpa using q2))]
      refine cd_skip (xt_then (cd_seq (cd_seq (cd_region (st_v (v_move rfl) (st_v (v_len rfl Try.underlying25) (st_v (v_move rfl) (st_nil (nx_kp [1, 4, 5, 25, 26, 27] rfl (nx_then (cd_block (cd_lq (σ := Nat) (fun i => [(1, .slice na ns.length ncap), (5, .pointer (some ⟨b5, 0, none⟩)), (25, .slice na ns.length ncap), (26, .int .i64 ns.length), (27, .int .i64 (i : Nat))]) (fun _ => pt b5 (cl [.slice a l.length cap, .map (some mb)] 95) :: mps mb (kindsM l) :: S :: N :: hr) (fun i => i ≤ ns.length ∧ ∀ j, j < i → (par l (ns.getD j [])).contains (ns.getD ((j + 1) % ns.length) []) = true) (fun i => ns.length - i) 0 ⟨Nat.zero_le _, fun j hj => by omega⟩ ?_))))))))))))
      rintro i ⟨hi, hal⟩
      refine cd_seq (cd_region (st_v (v_lss rfl rfl) (st_nil (nx_then (cd_seq (cd_cond rfl (fun hd => ?_) (fun hd => ?_)))))))
      · skip
        have hlt : i < ns.length := by simpa using hd
        have hm1 : (i + 1) % ns.length < ns.length := Nat.mod_lt _ hnp
        obtain ⟨wb, wo, wcap, hwv, hwrd⟩ := nms_at hn (getD_of [] hlt)
        obtain ⟨tb, to, tcap, htv, htrd⟩ := nms_at hn (getD_of [] hm1)
        generalize hwi : ns.getD i [] = wi at hwrd
        generalize hti : ns.getD ((i + 1) % ns.length) [] = ti at htrd
        refine cd_skip (xt_then (cd_seq (cd_block (cd_seq (cd_region (st_v (v_move rfl) (st_v (v_indexAddr (k := i) (congrArg some hwv) rfl sl25 rfl hlt rfl) (st_v (v_ldy rfl ld9) ?_))))))))
        refine st_v (v_assign rfl) (st_v (v_assign rfl) (st_nil (nx_kp [1, 5, 6, 7, 25, 26, 27] rfl (nx_then (cd_seq (cd_drawh (ork [(0, 1), (1, 2), (4, 2), (5, 2), (6, 2), (7, 2), (8, 2), (9, 2), (10, 2), (11, 1), (2, 0), (3, 0), (12, 0), (13, 2)] .nil) (fun i => !(Nat.beq i 12)) mixed (by kernel_rfl) ?_))))))
        refine dr_v rfl (v_ldn rfl ld95 rfl rds_pt) ?_
        refine dp_v rfl (v_move rfl) (dp_v rfl (v_move rfl) (dp_v rfl (v_move rfl) (dp_v rfl (v_add rfl rfl (by unfold I64 at *; omega)) (dp_v rfl (v_move rfl) (dp_v rfl (v_len rfl Try.underlying25) (dp_v rfl (v_rem rfl rfl (by omega) (by rw [show ((i : Int) + 1).tmod ns.length = (((i + 1) % ns.length : Nat) : Int) by exact (Int.ofNat_tmod (i + 1) ns.length).symm]; exact I64.wrap (by unfold I64; omega))) ?_))))))
        refine dp_v rfl (v_indexAddr (k := (i + 1) % ns.length) (congrArg some htv) rfl sl25 (by exact (Int.ofNat_tmod (i + 1) ns.length).symm) hm1 rfl) ?_
        refine dr_v rfl (v_ldy rfl ld9) ?_
        refine dr_eff rfl (st_cl rfl rfl en53 rfl (parents0_ct rfl) ?_)
        rintro u h' ⟨c1, c2, rfl, rfl⟩
        simp only [List.cons_append, List.nil_append]
        refine dr_nx ?_
        refine dr_eff rfl (st_cl rfl rfl en82 rfl (Collect_ct hv hF wi) ?_)
        rintro u h' ⟨hu, rfl⟩
        simp only [List.cons_append, List.nil_append]
        have hpl := par_len hF wi
        refine st_ok (r := NR u (par l wi)) (by repeat (first | exact Sel.here | apply Sel.there)) fun hok => ?_
        refine dr_nx ?_
        refine dr_eff rfl (st_cl rfl rfl en76 rfl (Contains_ct (nms_own hok) ti (by omega)) ?_)
        rintro u h' ⟨rfl, rfl⟩
        simp only [List.cons_append, List.nil_append]
        refine dr_nx ?_
        refine dp_v rfl (v_not rfl) (dr_nil (nx_kp [1, 5, 25, 26, 27, 45] rfl (nx_then (cd_cond rfl (fun hno => ?_) (fun hno => ?_)))))
        · skip
          have hno : (par l wi).contains ti = false := by simpa using hno
          rw [show ((List.range ns.length).all fun i => (par l (ns.getD i [])).contains (ns.getD ((i + 1) % ns.length) [])) = false from List.all_eq_false.2 ⟨i, List.mem_range.2 hlt, by rw [hwi, hti, hno]; decide⟩]
          refine cd_seq (cd_region (st_v (v_assign rfl) (st_nil (nx_kp [4] rfl (nx_then (cd_ret (xt_ret_block (xt_ret_then (xt_ret_then (xt_ret_block (xt_ret_then ?_)))))))))))
          exact xt_rt rfl ⟨rfl, rfl⟩ (by (repeat (refine Sub.sel (by repeat (first | exact Sel.here | apply Sel.there)) ?_)); (repeat apply Sub.cons); first | exact Sub.refl _ | exact Sub.nil _)
        · skip
          have hno : (par l wi).contains ti = true := by simpa using hno
          refine cd_skip (xt_normal_block (xt_then (cd_region (st_v (v_add rfl rfl (by unfold I64 at *; omega)) (st_v (v_move rfl) (st_nil (nx_kp [1, 5, 25, 26, 27] rfl (nx_xt (xt_aq (i + 1) ⟨hlt, fun j hj => ?_⟩ (by show _ - _ < _ - _; omega))))))))))
          by_cases hji : j = i
          · subst hji; rw [hwi, hti]; exact hno
          · exact hal j (by omega)
      · skip
        refine cd_exit (xt_exit_then (xt_exit_then (xt_exit_block (xt_then (cd_seq (cd_region (st_v (v_assign rfl) (st_nil (nx_kp [4] rfl (nx_then (cd_ret ?_)))))))))))
        have hil : i = ns.length := by have : ¬ i < ns.length := by simpa using hd
                                       omega
        rw [show ((List.range ns.length).all fun i => (par l (ns.getD i [])).contains (ns.getD ((i + 1) % ns.length) [])) = true from List.all_eq_true.2 fun j hj => hal j (by rw [hil]; exact List.mem_range.1 hj)]
        exact xt_rt rfl ⟨rfl, rfl⟩ (by (repeat (refine Sub.sel (by repeat (first | exact Sel.here | apply Sel.there)) ?_)); (repeat apply Sub.cons); first | exact Sub.refl _ | exact Sub.nil _)
end
end Go.Hr
namespace Go.Hr
open Go Go.RowKit Go.Ck Go.Proofs Go.Proofs.Ytjgiaohieadeiaa Fx
attribute [local irreducible] Go.Ck.Sub St Cd Xt Nx DrL LsW
def iV (n : Nat) : Value := .int .i64 (n : Int)
theorem nval_look (F : List (Nm × Nat)) (x : Nm) : (slook (mvG iV F) x).getD (.int .i64 0) = .int .i64 (nval F x : Int) := by
  rw [slook_mvG]
  unfold nval
  cases alook F x <;> rfl
/-- How many ways there are, if there is no error. -/
def okN (e : Int) (n : Nat) : Int := if e = 0 then (n : Int) else 0
section
variable {S N : Res} {v nv : Value} {l : Sys} {ns : List Nm}
set_option maxHeartbeats 1000000 in
set_option maxRecDepth 100000 in
theorem Ways_ct (hv : sysR S v l) (c x : Nm) : Ct Try.prog 31 #[v, sv c, sv x] [S] fun u h' => u = .tuple #[.int .i64 (okN (rightE l [c, x]) (ways l c x)), .int .i64 (rightE l [c, x])] ∧ h' = [S] := by
  obtain ⟨a, cap, rfl, _⟩ := id hv
  refine ct_ofM (n := 51) Try.func31 rfl rfl (len rfl) fun hr w0 => ?_
  refine cd_seq (cd_region (st_v (v_assign rfl) (st_v (v_assign rfl) (st_nil (nx_then (cd_seq (cd_region (st_v (v_move rfl) (st_v (v_move rfl) (st_v (v_move rfl) (st_buildSlice (cells := [sv c, sv x]) rfl Try.underlying25 inf9 rfl rfl (by kernel_rfl) (ltn rfl) fun b18 => ?_)))))))))))
  refine st_pv (pv_of (b := b18) (n := 2) (sz := 1) (E := 9) [nC c, nC x] rfl (by simp [nC]) rfl (by decide)) ?_
  simp only [List.cons_append, List.nil_append]
  refine st_ok (r := NR (.slice (some ⟨b18, 0, none⟩) 2 2) [c, x]) (by repeat (first | exact Sel.here | apply Sel.there)) fun hok => ?_
  refine st_cl rfl rfl en51 rfl (right_ct hv (nms_own hok) (by simp)) ?_
  rintro u h' (⟨he, rfl, rfl⟩ | ⟨he, mb, rfl, rfl⟩)
  · skip
    have hw : okN (rightE l [c, x]) (ways l c x) = 0 := if_neg he
    rw [hw]
    simp only [List.cons_append, List.nil_append]
    unfold gr0
    refine st_v (v_move rfl) (st_v (v_extract rfl rfl) (st_v (v_extract rfl rfl) (st_alc al95 fun b8 => ?_)))
    refine st_stoW rfl rfl sz95 rfl rfl ?_
    refine st_v (v_assign rfl) (st_nil (nx_kp [1, 2, 6, 7, 8, 9] rfl (nx_then (cd_seq (cd_seq (cd_region (st_v (v_move rfl) (st_v (v_neq rfl rfl) (st_nil (nx_kp [1, 2, 6, 7, 8, 9, 23] rfl (nx_then ?_)))))))))))
    rw [ne_true he]
    refine cd_true rfl ?_
    refine cd_seq (cd_region (st_v (v_move rfl) (st_v (v_assign rfl) (st_v (v_assign rfl) (st_nil (nx_kp [6, 7] rfl (nx_then (cd_ret (xt_ret_then ?_)))))))))
    exact xt_retM (bs := []) rfl rfl ⟨rfl, rfl⟩ (by repeat (first | exact Sub.refl _ | exact Sub.nil _ | refine Sub.sel (by repeat (first | exact Sel.here | apply Sel.there)) ?_ | apply Sub.cons))
  · skip
    obtain ⟨hR, hm⟩ := rightE_zero.1 he
    have hw : okN (rightE l [c, x]) (ways l c x) = (ways l c x : Int) := if_pos he
    rw [hw, he]
    have hcC := hm c (by simp)
    have hFl := hR.len
    obtain ⟨hT, hmem⟩ := above_spec hR.acyc c
    have hlen := above_len hR.acyc hcC
    simp only [List.cons_append, List.nil_append]
    refine st_v (v_move rfl) (st_v (v_extract rfl rfl) (st_v (v_extract rfl rfl) (st_alc al95 fun b8 => ?_)))
    refine st_stoW rfl rfl sz95 rfl rfl ?_
    refine st_v (v_assign rfl) (st_nil (nx_kp [1, 2, 6, 7, 8, 9] rfl (nx_then (cd_seq (cd_seq (cd_region (st_v (v_move rfl) (st_v (v_neq rfl rfl) (st_nil (nx_kp [1, 2, 6, 7, 8, 9, 23] rfl (nx_then (cd_false rfl ?_))))))))))))
    refine cd_skip (xt_then (cd_seq (cd_region (st_smakeMap (ltn rfl) fun b25 => ?_))))
    refine st_v (v_move rfl) (st_sinsert rfl rfl rfl mp69 (by repeat (first | exact Sel.here | apply Sel.there)) ?_)
    refine st_v (v_move rfl) (st_alc al69 fun b10 => ?_)
    refine st_sto rfl rfl sz69 ?_
    refine st_nil (nx_kp [1, 6, 7, 8, 10] rfl (nx_then (cd_seq (cd_seq (cd_region (st_v (v_ldn rfl ld95 rfl rds_pt) ?_))))))
    refine st_v (v_move rfl) (st_cl rfl rfl en65 rfl (above_ct hv hR.fine hR.acyc hcC) ?_)
    rintro u h' ⟨hu, rfl⟩
    simp only [List.cons_append, List.nil_append]
    generalize hO : above l c = o at *
    refine st_ok (r := NR u o) (by repeat (first | exact Sel.here | apply Sel.there)) fun hok2 => ?_
    have hno := nms_own hok2
    obtain ⟨ua, ucap, rfl, _⟩ := id hno
    refine st_v (v_len rfl Try.underlying25) (st_v (v_move rfl) (st_nil (nx_kp [1, 6, 7, 8, 10, 30, 31, 32] rfl (nx_then (cd_block ?_)))))
    rw [show supd [] x (Value.int .i64 1) = mvG iV [(x, 1)] from rfl]
    refine cd_marks0 (cd_loopD (σ := Nat × List (Nm × Nat) × List Nat) (fun q => q.2.2.map mk) (fun q => [(1, sv c), (8, .pointer (some ⟨b8, 0, none⟩)), (10, .pointer (some ⟨b10, 0, none⟩)), (30, .slice ua o.length ucap), (31, .int .i64 o.length), (32, .int .i64 (q.1 : Nat))]) (fun q => Res.star (marks q.2.2) :: pt b8 (cl [.slice a l.length cap, .map (some mb)] 95) :: pt b10 (cl [.map (some b25)] 69) :: mps b25 (mvG iV q.2.1) :: NR (.slice ua o.length ucap) o :: mps mb (kindsM l) :: S :: hr) (fun q => q.1 ≤ o.length ∧ WaysI l x (o.take q.1) q.2.1) (fun q => o.length - q.1) (0, [(x, 1)], []) ⟨Nat.zero_le _, WaysI.init l x⟩ rfl ⟨rfl, rfl, rfl, rfl, rfl, rfl, trivial⟩ (by (repeat (refine Sub.sel (by repeat (first | exact Sel.here | apply Sel.there)) ?_)); (repeat apply Sub.cons); first | exact Sub.refl _ | exact Sub.nil _) ?_)
    rintro ⟨i, F, bs⟩ ⟨hi, hI⟩
    simp only at hi hI
    dsimp only
    refine cd_seq (cd_region (st_v (v_lss rfl rfl) (st_nil (nx_then (cd_seq (cd_cond rfl (fun hd => ?_) (fun hd => ?_)))))))
    · skip
      have hlt : i < o.length := by simpa using hd
      obtain ⟨tb, to, tcap, htv, htrd⟩ := nms_at hno (List.getElem?_eq_getElem hlt)
      obtain ⟨hx0, hp0⟩ := tp_at hR.acyc hT hlt
      have hsucc := List.take_succ_eq_append_getElem hlt
      generalize o[i] = z at *
      refine cd_skip (xt_then (cd_seq (cd_block (cd_seq (cd_region (st_v (v_indexAddr (k := i) (congrArg some htv) rfl sl25 rfl hlt rfl) (st_v (v_ldy rfl ld9) ?_)))))))
      refine st_alc al9 fun b12 => ?_
      refine st_sto rfl rfl sz9 ?_
      refine st_nil (nx_kp [1, 8, 10, 12, 30, 31, 32] rfl (nx_then (cd_seq (cd_region (st_v (v_ldn rfl ld95 rfl rds_pt) ?_)))))
      refine st_v (v_ldy rfl ld9) ?_
      refine st_cl rfl rfl en53 rfl (parents0_ct rfl) ?_
      rintro u h' ⟨n1, n2, rfl, rfl⟩
      refine st_nil (nx_kp [1, 8, 10, 12, 30, 31, 32, 38] rfl (nx_then (cd_block ?_)))
      simp only [List.cons_append, List.nil_append]
      unfold seqv
      refine cd_range' rfl en92 fun yl db rec hst hpe hps hasg hbo hkn2 => ?_
      refine ⟨_, Ct.perm (it_ct (σ := List (Nm × Nat)) (b1 := n1) (b2 := n2) (mb := mb) (yl := yl) (c := z) (fun q => pt yl (.loop rec) :: pt db (.deferred (some [])) :: pt b12 (cl [sv z] 9) :: Res.star (marks bs) :: pt b8 (cl [.slice a l.length cap, .map (some mb)] 95) :: pt b10 (cl [.map (some b25)] 69) :: mps b25 (mvG iV q) :: NR (.slice ua o.length ucap) o :: hr)
        (fun k q => WaysK l x (o.take i) z ((par l z).take k) q) (fun _ _ => False) F (hI.start hx0) hv hR.fine.few ?_) ?_, ?_⟩
      · rintro k F2 p hk hK
        obtain ⟨hkl, hke⟩ := List.getElem?_eq_some_iff.1 hk
        have hpm := List.mem_of_getElem? hk
        have hle := hK.le hR.acyc (fun q hq => List.mem_of_mem_take hq) (by have := hR.par_few z; rw [List.length_take]; omega) hR.par_few hFl
        have h1 := hle z
        have h2 := hle p
        have hK2 := hK.next (hp0 p hpm) hx0
        rw [show (par l z).take k ++ [p] = (par l z).take (k + 1) by rw [List.take_succ_eq_append_getElem hkl, hke]] at hK2
        refine Yc.perm (yc_of (n := 51) (rec := rec) (args := [sv p]) (hf := pt db (.deferred (some [])) :: pt b12 (cl [sv z] 9) :: Res.star (marks bs) :: pt b8 (cl [.slice a l.length cap, .map (some mb)] 95) :: pt b10 (cl [.map (some b25)] 69) :: mps b25 (mvG iV F2) :: NR (.slice ua o.length ucap) o :: S :: mps mb (kindsM l) :: hr) (by rw [hps]; rfl) hkn2 (by rw [hps]; decide) ?_) (by exact (by repeat (first | exact Pm.refl | refine Pm.cons (by repeat (first | exact Sel.here | apply Sel.there)) ?_) : Pm _ _).perm)
        intro hr2 w1
        rw [hasg, hps, hbo]
        simp only [List.cons_append, List.nil_append]
        refine cd_region (st_v (v_assign rfl) (st_nil (nx_kp [10, 12, 13] rfl (nx_xt (xt_mid rfl (by repeat (first | exact Sel.here | apply Sel.there)) (by first | rfl | assumption) ?_)))))
        refine cd_block (cd_region (st_v (v_ldy rfl ld69) ?_))
        refine st_v (v_ldy rfl ld9) ?_
        refine st_v (v_is (nval_look F2 z) (v_slookup rfl rfl mp69 inf3 (by repeat (first | exact Sel.here | apply Sel.there)))) ?_
        refine st_v (v_ldy rfl ld69) ?_
        refine st_v (v_move rfl) (st_v (v_is (nval_look F2 p) (v_slookup rfl rfl mp69 inf3 (by repeat (first | exact Sel.here | apply Sel.there)))) ?_)
        refine st_v (v_add rfl rfl (by unfold I64 at *; omega)) (st_smapUpdate rfl rfl rfl mp69 (by repeat (first | exact Sel.here | apply Sel.there)) ?_)
        refine st_nil (nx_kp [] rfl (nx_xt (xt_normal_block ?_)))
        rw [show supd (mvG iV F2) z (.int .i64 ((nval F2 z : Int) + (nval F2 p : Int))) = mvG iV (aupd F2 z (nval F2 z + nval F2 p)) from supd_mvG iV F2 z (nval F2 z + nval F2 p)]
        refine xt_round (by repeat (first | exact Sel.here | apply Sel.there)) (.inl ⟨rfl, aupd F2 z (nval F2 z + nval F2 p), hK2, rfl⟩) ?_
        rw [rec_back hst hpe]
        exact (by repeat (first | exact Sub.refl _ | exact Sub.nil _ | refine Sub.sel (by repeat (first | exact Sel.here | apply Sel.there)) ?_ | apply Sub.cons))
      · exact (by repeat (first | exact Pm.refl | refine Pm.cons (by repeat (first | exact Sel.here | apply Sel.there)) ?_) : Pm _ _).perm
      · rintro u h' ⟨rfl, (⟨F2, hK, rfl⟩ | ⟨_, _, hfalse, _⟩)⟩
        · rw [List.take_length] at hK
          refine ⟨rec, _, (by repeat (first | exact Sel.here | apply Sel.there)), (by rw [hst]; simp), ?_⟩
          rw [hpe]
          dsimp only
          refine xt_normal_block (xt_normal_block (xt_then (cd_region (st_v (v_add rfl rfl (by unfold I64 at *; omega)) (st_v (v_move rfl) (st_nil (nx_kp [1, 8, 10, 30, 31, 32] rfl (nx_xt (xt_mark (by repeat (first | exact Sel.here | apply Sel.there)) (by repeat (first | exact Sel.here | apply Sel.there)) ?_)))))))))
          refine xt_againD (i + 1, F2, db :: bs) ⟨hlt, by show WaysI l x (o.take (i + 1)) F2; rw [hsucc]; exact hK.done hR.acyc⟩ (by show _ - _ < _ - _; omega) rfl ⟨rfl, rfl, rfl, rfl, rfl, rfl, trivial⟩ (by (repeat (refine Sub.sel (by repeat (first | exact Sel.here | apply Sel.there)) ?_)); (repeat apply Sub.cons); first | exact Sub.refl _ | exact Sub.nil _)
        · exact hfalse.elim
    · skip
      have hil : i = o.length := by have : ¬ i < o.length := by simpa using hd
                                    omega
      subst hil
      rw [List.take_length] at hI
      refine cd_exit (xt_exit_then (xt_exit_then (xt_exit_block (xt_then (cd_seq (cd_region (st_v (v_ldy rfl ld69) ?_)))))))
      refine st_v (v_move rfl) (st_v (v_is (nval_look F c) (v_slookup rfl rfl mp69 inf3 (by repeat (first | exact Sel.here | apply Sel.there)))) ?_)
      refine st_v (v_assign rfl) (st_v (v_assign rfl) (st_nil (nx_kp [6, 7] rfl (nx_then (cd_ret ?_)))))
      rw [hI c, if_pos ((hmem c).2 (has_refl l c))]
      refine xt_retS (bs := bs) rfl rfl ⟨rfl, rfl⟩ (by (repeat (refine Sub.sel (by repeat (first | exact Sel.here | apply Sel.there)) ?_)); (repeat apply Sub.cons); first | exact Sub.refl _ | exact Sub.nil _)
end
end Go.Hr
namespace Go.Ck
open Go
section
variable {P : Program} {r : Option Nat} {n : Nat} {w0 : World} {hr : SH} {R : Value → SH → Prop} {fn : Func} {e : Env} {h h' k : SH} {vs : List Value} {bs : List Nat} {ds : List Deferred}
theorem xt_retMV (hds : ds = bs.map mk) (hv : ResV P k e fn.results.toList vs) (hR : R (outOf vs) h') (hk : Sub (h' ++ hr) k) (hp : Sub (marks bs ++ k) h) : Xt ⟨P, r, n, ds, w0⟩ .ret (bodyPostM (Fw none) 0 P fn (Post w0 hr R)) e h :=
  fun a w hk' hh hw => by
    show LeavesInM (Fw none) 0 P fn a.tmps _ a.defers .returning w
    rw [hk'.defers, hds]
    exact leavesM bs w (hh.sub hp) hw fun w' h1 h2 => ⟨_, run_resultsV hk' hv h1, _, h', rfl, hR, h1.sub hk, h2⟩
end
end Go.Ck
namespace Go.Hr
open Go Go.RowKit Go.Ck Go.Proofs Go.Proofs.Ytjgiaohieadeiaa Fx
attribute [local irreducible] Go.Ck.Sub St Cd Xt Nx DrL LsW
/-- The table of the classes that are done. -/
def DoneI (o : List Nm) (D : List (Nm × Unit)) : Prop := ∀ x, (alook D x).isSome = o.contains x
theorem DoneI.look {o : List Nm} {D : List (Nm × Unit)} (h : DoneI o D) (x : Nm) : (slook (mvG tV D) x).getD (.bool false) = .bool (o.contains x) := by
  rw [slook_mvG, ← h x]
  cases alook D x <;> rfl
theorem DoneI.next {o : List Nm} {D : List (Nm × Unit)} (h : DoneI o D) (c : Nm) : DoneI (o ++ [c]) (aupd D c ()) := fun x => by
  rw [alook_upd]
  by_cases hx : x = c
  · subst hx; simp
  · rw [if_neg hx, h x]; simp [hx]
section
variable {S N : Res} {v nv : Value} {l : Sys} {ns : List Nm}
set_option maxHeartbeats 1000000 in
set_option maxRecDepth 100000 in
theorem open_ct {c7 c4 mb bd : Nat} {o : List Nm} {D : List (Nm × Unit)} (hv : sysR S v l) (hF : Fine l) (hD : DoneI o D) (c : Nm) : Reads Try.prog 52 #[sv c, .pointer (some ⟨c7, 0, none⟩), .pointer (some ⟨c4, 0, none⟩)] [pt c7 (cl [.map (some bd)] 98), pt c4 (cl [v, .map (some mb)] 95), mps bd (mvG tV D), S, mps mb (kindsM l)] (.bool (opn l o c)) := by
  obtain ⟨a, cap, rfl, _⟩ := id hv
  refine ct_ofM (n := 17) Try.func52 rfl rfl (len rfl) fun hr w0 => ?_
  refine cd_seq (cd_region (st_alc al4 fun b4 => ?_))
  refine st_nil (nx_then (cd_seq (cd_seq (cd_region (st_v (v_ldy rfl ld98) ?_)))))
  refine st_v (v_move rfl) (st_v (v_is (hD.look c) (v_slookup rfl rfl mp98 inf4 (by repeat (first | exact Sel.here | apply Sel.there)))) ?_)
  refine st_nil (nx_kp [0, 1, 2, 4, 8] rfl (nx_then ?_))
  unfold opn
  refine cd_cond rfl (fun ho => ?_) (fun ho => ?_)
  · skip
    rw [ho]
    refine cd_seq (cd_region (st_sto rfl rfl sz4 ?_))
    refine st_nil (nx_kp [4] rfl (nx_then (cd_ret (xt_ret_then (xt_retMV (bs := []) (k := pt b4 (cl [.bool false] 4) :: ([pt c7 (cl [.map (some bd)] 98), pt c4 (cl [.slice a l.length cap, .map (some mb)] 95), mps bd (mvG tV D), S, mps mb (kindsM l)] ++ hr)) rfl (.cell1 rfl ld4 (at_here (rd_cl rfl)) .nil) ⟨rfl, rfl⟩ ?_ ?_)))))
    · exact Sub.cons (Sub.refl _)
    · unfold marks
      simp only [List.cons_append, List.nil_append, List.map_nil]
      exact (by repeat (first | exact Sub.refl _ | exact Sub.nil _ | refine Sub.sel (by repeat (first | exact Sel.here | apply Sel.there)) ?_ | apply Sub.cons))
  · skip
    rw [ho, Bool.not_false, Bool.true_and]
    refine cd_skip (xt_then (cd_seq (cd_seq (cd_region (st_v (v_ldn rfl ld95 rfl rds_pt) ?_)))))
    refine st_v (v_move rfl) (st_cl rfl rfl en53 rfl (parents0_ct rfl) ?_)
    rintro u h' ⟨n1, n2, rfl, rfl⟩
    refine st_nil (nx_kp [1, 4, 11] rfl (nx_then (cd_block ?_)))
    simp only [List.cons_append, List.nil_append]
    unfold seqv
    refine cd_range' rfl en92 fun yl db rec hst hpe hps hasg hbo hkn2 => ?_
    refine ⟨_, Ct.perm (it_ct (σ := Unit) (b1 := n1) (b2 := n2) (mb := mb) (yl := yl) (c := c) (fun _ => pt yl (.loop rec) :: pt db (.deferred (some [])) :: pt b4 (cl [.bool false] 4) :: pt c7 (cl [.map (some bd)] 98) :: pt c4 (cl [.slice a l.length cap, .map (some mb)] 95) :: mps bd (mvG tV D) :: hr)
      (fun k _ => ∀ p ∈ (par l c).take k, o.contains p = true) (fun _ t => (∃ p ∈ par l c, o.contains p = false) ∧ ∃ rec', t = pt yl (.loop rec') :: pt db (.deferred (some [])) :: pt b4 (cl [.bool false] 4) :: pt c7 (cl [.map (some bd)] 98) :: pt c4 (cl [.slice a l.length cap, .map (some mb)] 95) :: mps bd (mvG tV D) :: hr ∧ rec'.state ≠ .busy ∧ rec'.pending = some .ret) () (fun p hp => by simp at hp) hv hF.few ?_) ?_, ?_⟩
    · rintro k _ p hk hal
      obtain ⟨hkl, hke⟩ := List.getElem?_eq_some_iff.1 hk
      refine Yc.perm (yc_of (n := 17) (rec := rec) (args := [sv p]) (hf := pt db (.deferred (some [])) :: pt b4 (cl [.bool false] 4) :: pt c7 (cl [.map (some bd)] 98) :: pt c4 (cl [.slice a l.length cap, .map (some mb)] 95) :: mps bd (mvG tV D) :: S :: mps mb (kindsM l) :: hr) (by rw [hps]; rfl) hkn2 (by rw [hps]; decide) ?_) (by exact (by repeat (first | exact Pm.refl | refine Pm.cons (by repeat (first | exact Sel.here | apply Sel.there)) ?_) : Pm _ _).perm)
      intro hr2 w1
      rw [hasg, hps, hbo]
      simp only [List.cons_append, List.nil_append]
      refine cd_region (st_v (v_assign rfl) (st_nil (nx_kp [1, 4, 5] rfl (nx_xt (xt_mid rfl (by repeat (first | exact Sel.here | apply Sel.there)) (by first | rfl | assumption) ?_)))))
      refine cd_block (cd_seq (cd_region (st_v (v_ldy rfl ld98) ?_)))
      refine st_v (v_move rfl) (st_v (v_is (hD.look p) (v_slookup rfl rfl mp98 inf4 (by repeat (first | exact Sel.here | apply Sel.there)))) ?_)
      refine st_v (v_not rfl) (st_nil (nx_kp [4, 16] rfl (nx_then (cd_cond rfl (fun hno => ?_) (fun hno => ?_)))))
      · skip
        have hno : o.contains p = false := by simpa using hno
        refine cd_seq (cd_region (st_sto rfl rfl sz4 ?_))
        refine st_nil (nx_kp [4] rfl (nx_then (cd_ret (xt_ret_block (xt_round_ret (by repeat (first | exact Sel.here | apply Sel.there)) (.inr ⟨rfl, _, rfl, ⟨p, List.mem_of_getElem? hk, hno⟩, { ({ rec with state := .busy } : Loop) with state := .done, pending := some .ret }, rfl, by simp, rfl⟩) ?_)))))
        exact (by repeat (first | exact Sub.refl _ | exact Sub.nil _ | refine Sub.sel (by repeat (first | exact Sel.here | apply Sel.there)) ?_ | apply Sub.cons))
      · skip
        have hno : o.contains p = true := by simpa using hno
        refine cd_skip (xt_normal_block (xt_round (by repeat (first | exact Sel.here | apply Sel.there)) (.inl ⟨rfl, (), fun q hq => ?_, rfl⟩) ?_))
        · rw [List.take_succ_eq_append_getElem hkl, hke] at hq
          rcases List.mem_append.1 hq with hq | hq
          · exact hal q hq
          · simp at hq; rw [hq]; exact hno
        · rw [rec_back hst hpe]
          exact (by repeat (first | exact Sub.refl _ | exact Sub.nil _ | refine Sub.sel (by repeat (first | exact Sel.here | apply Sel.there)) ?_ | apply Sub.cons))
    · exact (by repeat (first | exact Pm.refl | refine Pm.cons (by repeat (first | exact Sel.here | apply Sel.there)) ?_) : Pm _ _).perm
    · rintro u h' ⟨rfl, (⟨_, hal, rfl⟩ | ⟨_, _, ⟨⟨p, hp, hno⟩, rec', rfl, h2, h3⟩, rfl⟩)⟩
      · rw [List.take_length] at hal
        rw [show (par l c).all o.contains = true from List.all_eq_true.2 hal]
        refine ⟨rec, _, (by repeat (first | exact Sel.here | apply Sel.there)), (by rw [hst]; simp), ?_⟩
        rw [hpe]
        dsimp only
        refine xt_normal_block (xt_then (cd_seq (cd_region (st_sto rfl rfl sz4 ?_))))
        refine st_nil (nx_kp [4] rfl (nx_then (cd_ret (xt_retMV (bs := [db]) (k := pt b4 (cl [.bool true] 4) :: ([pt c7 (cl [.map (some bd)] 98), pt c4 (cl [.slice a l.length cap, .map (some mb)] 95), mps bd (mvG tV D), S, mps mb (kindsM l)] ++ hr)) rfl (.cell1 rfl ld4 (at_here (rd_cl rfl)) .nil) ⟨rfl, rfl⟩ ?_ ?_))))
        · exact Sub.cons (Sub.refl _)
        · unfold marks
          simp only [List.cons_append, List.nil_append, List.map_cons, List.map_nil]
          exact (by repeat (first | exact Sub.refl _ | exact Sub.nil _ | refine Sub.sel (by repeat (first | exact Sel.here | apply Sel.there)) ?_ | apply Sub.cons))
      · rw [show (par l c).all o.contains = false from List.all_eq_false.2 ⟨p, hp, by rw [hno]; decide⟩]
        refine ⟨rec', _, (by repeat (first | exact Sel.here | apply Sel.there)), h2, ?_⟩
        rw [h3]
        dsimp only
        refine cd_ret (xt_ret_block (xt_ret_then (xt_retMV (bs := [db]) (k := pt b4 (cl [.bool false] 4) :: ([pt c7 (cl [.map (some bd)] 98), pt c4 (cl [.slice a l.length cap, .map (some mb)] 95), mps bd (mvG tV D), S, mps mb (kindsM l)] ++ hr)) rfl (.cell1 rfl ld4 (at_here (rd_cl rfl)) .nil) ⟨rfl, rfl⟩ ?_ ?_)))
        · exact Sub.cons (Sub.refl _)
        · unfold marks
          simp only [List.cons_append, List.nil_append, List.map_cons, List.map_nil]
          exact (by repeat (first | exact Sub.refl _ | exact Sub.nil _ | refine Sub.sel (by repeat (first | exact Sel.here | apply Sel.there)) ?_ | apply Sub.cons))
set_option maxRecDepth 100000 in
theorem Order_ct (hv : sysR S v l) : CtN Try.prog 16 #[v] [S] fun u T => ∃ w, u = .tuple #[w, .int .i64 (rightE l [])] ∧ w.oneCell' = true ∧ T = NR w (okL (rightE l []) (order l)) := by
  obtain ⟨a, cap, rfl, _⟩ := id hv
  refine ct_of (n := 36) Try.func16 rfl rfl (len rfl) fun hr w0 => ?_
  refine cd_seq (cd_region (st_v (v_assign rfl) (st_v (v_assign rfl) (st_nil (nx_then (cd_seq (cd_region (st_v (v_move rfl) (st_vw (vw_unstar (L := [])) (st_cl rfl rfl en51 rfl (right_ct hv (N := Res.star []) (ns := []) Row.nil (by simp)) ?_))))))))))
  rintro u h' (⟨he, rfl, rfl⟩ | ⟨he, mb, rfl, rfl⟩)
  · skip
    simp only [List.cons_append, List.nil_append]
    unfold gr0
    refine st_v (v_move rfl) (st_v (v_extract rfl rfl) (st_v (v_extract rfl rfl) (st_alc al95 fun b4 => ?_)))
    refine st_stoW rfl rfl sz95 rfl rfl ?_
    refine st_v (v_assign rfl) (st_nil (nx_kp [0, 2, 3, 4, 5] rfl (nx_then (cd_seq (cd_seq (cd_region (st_v (v_move rfl) (st_v (v_neq rfl rfl) (st_nil (nx_kp [0, 2, 3, 4, 5, 16] rfl (nx_then ?_)))))))))))
    rw [ne_true he]
    refine cd_true rfl ?_
    refine cd_seq (cd_region (st_v (v_move rfl) (st_v (v_assign rfl) (st_v (v_assign rfl) (st_nil (nx_kp [2, 3] rfl (nx_then (cd_ret (xt_ret_then ?_)))))))))
    rw [okL_ne he]
    refine xt_vw (vw_nil 9 1) ?_
    exact xt_rt rfl ⟨NR (.slice none 0 0) [], rfl, _, rfl, rfl, rfl⟩ (by (repeat (refine Sub.sel (by repeat (first | exact Sel.here | apply Sel.there)) ?_)); (repeat apply Sub.cons); first | exact Sub.refl _ | exact Sub.nil _)
  · skip
    obtain ⟨hR, _⟩ := rightE_zero.1 he
    have hFl := hR.len
    rw [he, okL_eq rfl]
    simp only [List.cons_append, List.nil_append]
    refine st_v (v_move rfl) (st_v (v_extract rfl rfl) (st_v (v_extract rfl rfl) (st_alc al95 fun b4 => ?_)))
    refine st_stoW rfl rfl sz95 rfl rfl ?_
    refine st_v (v_assign rfl) (st_nil (nx_kp [0, 2, 3, 4, 5] rfl (nx_then (cd_seq (cd_seq (cd_region (st_v (v_move rfl) (st_v (v_neq rfl rfl) (st_nil (nx_kp [0, 2, 3, 4, 5, 16] rfl (nx_then (cd_false rfl ?_))))))))))))
    refine cd_skip (xt_then (cd_seq (cd_region (st_v (v_assign rfl) (st_nil (nx_kp [0, 2, 3, 4, 6] rfl (nx_then (cd_seq (cd_region (st_smakeMap (ltn rfl) fun b18 => ?_))))))))))
    refine st_alc al98 fun b7 => ?_
    refine st_sto rfl rfl sz98 ?_
    refine st_nil (nx_kp [0, 2, 3, 4, 6, 7] rfl (nx_then (cd_seq (cd_region (st_v (v_makeFunc rfl rfl) (st_v (v_assign rfl) (st_nil (nx_kp [0, 2, 3, 4, 6, 7, 8] rfl (nx_then (cd_seq (cd_seq (cd_region (st_v (v_move rfl) (st_v (v_len rfl Try.underlying22) (st_v (v_move rfl) (st_nil (nx_kp [2, 3, 4, 6, 7, 8, 21, 22] rfl (nx_then (cd_block ?_)))))))))))))))))))
    refine cd_vw (vw_nil 9 1) ?_
    rw [show ([] : List (Bs × Value)) = mvG tV [] from rfl]
    refine cd_lq (σ := Nat × Value × List (Nm × Unit)) (fun q => [(4, .pointer (some ⟨b4, 0, none⟩)), (6, q.2.1), (7, .pointer (some ⟨b7, 0, none⟩)), (8, .func (.func 52) #[] #[.pointer (some ⟨b7, 0, none⟩), .pointer (some ⟨b4, 0, none⟩)]), (21, .int .i64 l.length), (22, .int .i64 (q.1 : Nat))]) (fun q => NR q.2.1 (ordN l q.1) :: pt b4 (cl [.slice a l.length cap, .map (some mb)] 95) :: pt b7 (cl [.map (some b18)] 98) :: mps b18 (mvG tV q.2.2) :: mps mb (kindsM l) :: S :: hr) (fun q => q.1 ≤ l.length ∧ q.2.1.oneCell' = true ∧ DoneI (ordN l q.1) q.2.2) (fun q => l.length - q.1) (0, .slice none 0 0, []) ⟨Nat.zero_le _, rfl, fun x => rfl⟩ ?_
    rintro ⟨i, w, D⟩ ⟨hi, hw, hD⟩
    simp only at hi hw hD
    dsimp only
    have holen := ordN_len l i
    refine cd_seq (cd_region (st_v (v_lss rfl rfl) (st_nil (nx_then (cd_seq (cd_cond rfl (fun hd => ?_) (fun hd => ?_)))))))
    · skip
      refine cd_skip (xt_then (cd_seq (cd_block (cd_seq (cd_region ?_)))))
      have hlt : i < l.length := by simpa using hd
      have hne := ordN_some hR.acyc hR.uniq hlt
      have hsl : ((nms l).filter (opn l (ordN l i))).length ≤ 24 := Nat.le_trans (List.length_filter_le _ _) (by simp [nms]; omega)
      refine st_v (v_ldn rfl ld95 rfl rds_pt) ?_
      refine st_v (v_move rfl) (st_cl rfl rfl en55 rfl (ctn_star (names_ct (S := Res.star [pt b7 (cl [.map (some b18)] 98), pt b4 (cl [.slice a l.length cap, .map (some mb)] 95), mps b18 (mvG tV D), S, mps mb (kindsM l)]) (kf := 52) (cp := #[.pointer (some ⟨b7, 0, none⟩), .pointer (some ⟨b4, 0, none⟩)]) (g := opn l (ordN l i)) (mb := mb) (hv.mono (rd_in (by repeat (first | exact Sel.here | apply Sel.there)))) hR.fine en52 fun d _ => reads_one (open_ct hv hR.fine hD d))) ?_)
      rintro u h' ⟨T, rfl, hu, rfl⟩
      simp only [List.cons_append, List.nil_append]
      refine st_ok (r := NR u ((nms l).filter (opn l (ordN l i)))) (by repeat (first | exact Sel.here | apply Sel.there)) fun hok => ?_
      refine st_cl rfl rfl en54 rfl (Min_ct (nms_own hok) (by omega) hne) ?_
      rintro u2 h' ⟨rfl, rfl⟩
      simp only [List.cons_append, List.nil_append]
      generalize hmn : minN ((nms l).filter (opn l (ordN l i))) = z at *
      have hord : ordN l (i + 1) = ordN l i ++ [z] := by rw [ordN, hmn]
      refine st_v (v_assign rfl) (st_nil (nx_kp [4, 6, 7, 8, 9, 21, 22] rfl (nx_then (cd_seq (cd_region (st_v (v_ldy rfl ld98) ?_))))))
      refine st_v (v_move rfl) (st_smapUpdate rfl rfl rfl mp98 (by repeat (first | exact Sel.here | apply Sel.there)) ?_)
      refine st_nil (nx_kp [4, 6, 7, 8, 9, 21, 22] rfl (nx_then (cd_region (st_v (v_move rfl) (st_v (v_move rfl) ?_)))))
      rw [show supd (mvG tV D) z (.bool true) = mvG tV (aupd D z ()) from supd_mvG tV D z ()]
      refine st_buildSlice (cells := [sv z]) rfl Try.underlying25 inf9 rfl rfl (by kernel_rfl) (ltn rfl) fun b32 => ?_
      refine st_app [nC z] rfl rfl Try.underlying25 inf9 rfl (by decide) (show Sel _ (NR w (ordN l i)) _ from (by repeat (first | exact Sel.here | apply Sel.there))) (by simp [nC]) rfl (fun j u2 hu2 => at_here (rd_cl (by simpa [nC] using hu2))) (by simp [nC, Value.oneCell']) (by rw [List.length_map]; omega) (by rw [List.length_map]; omega) (ltn rfl) fun w3 hw3 _ => ?_
      rw [show (ordN l i).map nC ++ [nC z] = (ordN l (i + 1)).map nC by rw [hord]; simp]
      refine st_v (v_assign rfl) (st_nil (nx_kp [4, 6, 7, 8, 21, 22] rfl (nx_xt (xt_normal_block (xt_then (cd_region (st_v (v_add rfl rfl (by unfold I64 at *; omega)) (st_v (v_move rfl) (st_nil (nx_kp [4, 6, 7, 8, 21, 22] rfl (nx_xt ?_)))))))))))
      refine xt_aq (i + 1, w3, aupd D z ()) ⟨hlt, hw3, by show DoneI (ordN l (i + 1)) (aupd D z ()); rw [hord]; exact hD.next z⟩ (by show _ - _ < _ - _; omega)
    · skip
      have hil : i = l.length := by have : ¬ i < l.length := by simpa using hd
                                    omega
      subst hil
      refine cd_exit (xt_exit_then (xt_exit_then (xt_exit_block (xt_then (cd_seq (cd_region (st_v (v_move rfl) (st_v (v_assign rfl) (st_v (v_assign rfl) (st_nil (nx_kp [2, 3] rfl (nx_then (cd_ret ?_)))))))))))))
      exact xt_rt rfl ⟨_, rfl, _, rfl, hw, rfl⟩ (by (repeat (refine Sub.sel (by repeat (first | exact Sel.here | apply Sel.there)) ?_)); (repeat apply Sub.cons); first | exact Sub.refl _ | exact Sub.nil _)
end
end Go.Hr
namespace Go.Hr
open Go Go.RowKit Go.Ck Go.Proofs Go.Proofs.Ytjgiaohieadeiaa Fx
def lays190_ren : Go.Shelf.Ren := {
  f := fun | 190 => 61 | 125 => 97 | 258 => 96 | 128 => 119 | 129 => 120 | 302 => 110 | 303 => 111 | 304 => 112 | 305 => 113 | 306 => 114 | 307 => 115 | 308 => 116 | 309 => 117 | 310 => 118 | 333 => 124 | 329 => 125 | 330 => 126 | 334 => 127 | 335 => 128 | 336 => 122 | 344 => 130 | n => n
  t := fun | 31 => 25 | 9 => 9 | 3 => 3 | 46 => 136 | 0 => 0 | 51 => 155 | 53 => 157 | 4 => 4 | 183 => 149 | 182 => 148 | 131 => 126 | 5 => 5 | 218 => 159 | 222 => 163 | 228 => 166 | 229 => 167 | n => n
  g := fun n => n }
theorem lays190 : Go.Proofs.Lays.n190 Try.prog lays190_ren := {
  mixed := rfl
  f125 := Try.func97.trans (congrArg some (by kernel_rfl))
  f128 := Try.func119.trans (congrArg some (by kernel_rfl))
  f129 := Try.func120.trans (congrArg some (by kernel_rfl))
  f190 := Try.func61.trans (congrArg some (by kernel_rfl))
  f258 := Try.func96.trans (congrArg some (by kernel_rfl))
  f302 := Try.func110.trans (congrArg some (by kernel_rfl))
  f303 := Try.func111.trans (congrArg some (by kernel_rfl))
  f304 := Try.func112.trans (congrArg some (by kernel_rfl))
  f305 := Try.func113.trans (congrArg some (by kernel_rfl))
  f306 := Try.func114.trans (congrArg some (by kernel_rfl))
  f307 := Try.func115.trans (congrArg some (by kernel_rfl))
  f308 := Try.func116.trans (congrArg some (by kernel_rfl))
  f309 := Try.func117.trans (congrArg some (by kernel_rfl))
  f310 := Try.func118.trans (congrArg some (by kernel_rfl))
  f329 := Try.func125.trans (congrArg some (by kernel_rfl))
  f330 := Try.func126.trans (congrArg some (by kernel_rfl))
  f333 := Try.func124.trans (congrArg some (by kernel_rfl))
  f334 := Try.func127.trans (congrArg some (by kernel_rfl))
  f335 := Try.func128.trans (congrArg some (by kernel_rfl))
  f336 := Try.func122.trans (congrArg some (by kernel_rfl))
  f344 := Try.func130.trans (congrArg some (by kernel_rfl))
  t0 := Try.underlying0
  a0 := Try.isAgg0
  z0 := Try.sizeOf0
  v0 := Try.zeroValue0
  t3 := Try.underlying3
  a3 := Try.isAgg3
  z3 := Try.sizeOf3
  v3 := Try.zeroValue3
  t4 := Try.underlying4
  a4 := Try.isAgg4
  z4 := Try.sizeOf4
  v4 := Try.zeroValue4
  t5 := Try.underlying5
  a5 := Try.isAgg5
  z5 := Try.sizeOf5
  v5 := Try.zeroValue5
  t9 := Try.underlying9
  a9 := Try.isAgg9
  z9 := Try.sizeOf9
  v9 := Try.zeroValue9
  t31 := Try.underlying25
  a31 := Try.isAgg25
  z31 := Try.sizeOf25
  v31 := Try.zeroValue25
  t46 := Try.underlying136
  a46 := Try.isAgg136
  z46 := Try.sizeOf136
  v46 := Try.zeroValue136
  t51 := Try.underlying155
  a51 := Try.isAgg155
  z51 := Try.sizeOf155
  v51 := Try.zeroValue155
  t53 := Try.underlying157
  a53 := Try.isAgg157
  z53 := Try.sizeOf157
  v53 := Try.zeroValue157
  t131 := Try.underlying126
  a131 := Try.isAgg126
  z131 := Try.sizeOf126
  v131 := Try.zeroValue126
  t182 := Try.underlying148
  a182 := Try.isAgg148
  z182 := Try.sizeOf148
  v182 := Try.zeroValue148
  t183 := Try.underlying149
  a183 := Try.isAgg149
  z183 := Try.sizeOf149
  v183 := Try.zeroValue149
  t218 := Try.underlying159
  a218 := Try.isAgg159
  z218 := Try.sizeOf159
  v218 := Try.zeroValue159
  t222 := Try.underlying163
  a222 := Try.isAgg163
  z222 := Try.sizeOf163
  v222 := Try.zeroValue163
  t228 := Try.underlying166
  a228 := Try.isAgg166
  z228 := Try.sizeOf166
  v228 := Try.zeroValue166
  t229 := Try.underlying167
  a229 := Try.isAgg167
  z229 := Try.sizeOf167
  v229 := Try.zeroValue167 }
theorem bytes_lt : ∀ a b : Nm, lt a b = decide (a < b)
  | [], [] => by simp [lt, Op.bytesLess]
  | [], _ :: _ => by simp [lt, Op.bytesLess]
  | _ :: _, [] => by simp [lt, Op.bytesLess]
  | a :: x, b :: y => by
    have ih := bytes_lt x y
    unfold lt at ih ⊢
    rw [Op.bytesLess, ih, Bool.eq_iff_iff]
    simp only [Bool.or_eq_true, Bool.and_eq_true, decide_eq_true_eq, beq_iff_eq, List.cons_lt_cons_iff, UInt8.lt_iff_toNat_lt]
def leB (x y : Nm) : Bool := decide (x ≤ y)
theorem leB_lt (x y : Nm) : leB x y = !lt y x := by
  unfold leB
  rw [bytes_lt, ← decide_not]
  rfl
theorem sort_srt {xs : List Nm} (hn : xs.Nodup) : (xs.mergeSort fun x y => decide (x ≤ y)) = srt xs := by
  have hp := List.mergeSort_perm xs leB
  refine srt_eq (hp.nodup_iff.2 hn) ?_ fun x => hp.mem_iff
  have := List.pairwise_mergeSort (le := leB) (fun a b c h1 h2 => ?_) (fun a b => ?_) xs
  · exact this.imp fun {a b} h => by rw [leB_lt] at h; simpa using h
  · rw [leB_lt] at h1 h2 ⊢
    simp only [Bool.not_eq_true'] at h1 h2 ⊢
    cases h : lt c a with
    | false => rfl
    | true =>
      rcases lt_total a b with h3 | h3 | h3
      · rw [lt_trans h h3] at h2; cases h2
      · rw [h3, h2] at h; cases h
      · rw [h1] at h3; cases h3
  · rw [leB_lt, leB_lt]
    cases h : lt b a with
    | false => simp
    | true => rw [lt_asymm h]; simp
theorem put_cells {ys xs : List Nm} {pre j : List Value} (hl : ys.length = xs.length) : Sort.putCells encStr pre.length ys.toArray (pre ++ (xs.map sv ++ j)).toArray = (pre ++ (ys.map sv ++ j)).toArray := by
  apply Array.ext
  · simp [Sort.putCells, hl]
  · intro k h1 h2
    simp only [Sort.putCells, Array.getElem_mapIdx, List.size_toArray, List.getElem_toArray, List.getElem_append, List.length_map, List.getElem_map]
    by_cases hk : k < pre.length
    · have h3 : ¬ (pre.length ≤ k ∧ k < pre.length + ys.length) := by omega
      simp only [hk, h3, dite_true, if_false]
    · by_cases hk2 : k - pre.length < ys.length
      · have h3 : pre.length ≤ k ∧ k < pre.length + ys.length := by omega
        simp only [hk, h3, hk2, dite_true, dite_false, if_true, and_self]
        rw [getElem!_pos ys.toArray _ (by simpa using hk2)]
        simp [encStr]
      · have h3 : ¬ (pre.length ≤ k ∧ k < pre.length + ys.length) := by omega
        have h4 : ¬ k - pre.length < xs.length := by omega
        simp only [hk, hk2, h4, dite_false, hl]
        rw [hl] at h3
        rw [if_neg h3]
section
variable {v : Value}
theorem Sort_ct {xs : List Nm} (hn : xs.Nodup) (hl : xs.length ≤ 1099511627776) : Ct Try.prog 61 #[v] [NR v xs] fun u h' => u = .tuple #[] ∧ h' = [NR v (srt xs)] := by
  intro hr w hh
  have hv := hh.1
  rcases hv.2 with ⟨rfl, h0⟩ | ⟨b, o, cp, pre, j, rfl, hb, hpre, hc1, hc2, hc3⟩
  · have hx : xs = [] := List.map_eq_nil_iff.1 h0
    subst hx
    exact (Any.slices_Sort_string_none lays190 none 0 w).mono fun e w' ⟨h1, h2⟩ => ⟨.tuple #[], _, h1, ⟨rfl, rfl⟩, by rw [h2]; exact hh, by rw [h2]; exact Same.refl w⟩
  · rw [flat_nC] at hb
    have hb : w.heap[b]? = some (cl (pre ++ (xs.map sv ++ j)) 9) := hb
    have hlt : b < w.heap.size := (Array.getElem?_eq_some_iff.1 hb).1
    have hH : Sort.Holds encStr w b o xs.toArray := fun i hi => by
      have hi : i < xs.length := by simpa using hi
      refine ⟨?_, by simp [World.frozen?, hb, cl]⟩
      rw [getElem!_pos xs.toArray i (by simpa using hi)]
      simp only [World.cell?, hb, cl, Option.isSome_none, Bool.false_eq_true, if_false, List.getElem?_toArray]
      rw [← hpre, List.getElem?_append_right (by omega), Nat.add_sub_cancel_left, List.getElem?_append_left (by simpa using hi), List.getElem?_map, List.getElem?_eq_getElem hi]
      rfl
    have hc := Any.slices_Sort_string lays190 b o cp xs w hH hlt (by omega)
    rw [show (xs.map nC).length = xs.length by simp] at *
    refine Calls.mono hc fun e w' ⟨h1, n, os, h2⟩ => ⟨.tuple #[], _, h1, ⟨rfl, rfl⟩, ?_, ?_⟩
    all_goals rw [sort_srt hn] at h2
    · have hsl : (srt xs).length = xs.length := by
        rw [← sort_srt hn]; exact List.length_mergeSort xs
      have hb' : w'.heap[b]? = some (cl (pre ++ ((srt xs).map sv ++ j)) 9) := by
        rw [h2]
        show ((w.heap.modify b (Sort.onCells (Sort.putCells encStr o (srt xs).toArray))) ++ os)[b]? = _
        rw [Array.getElem?_append_left (by simpa using hlt), Array.getElem?_modify, if_pos rfl, hb]
        simp only [Option.map_some, Sort.onCells, cl]
        rw [← hpre, put_cells hsl]
      have ho : ∀ c, c ≠ b → c < w.heap.size → w'.heap[c]? = w.heap[c]? := fun c hc hlt2 => by
        rw [h2]
        show ((w.heap.modify b (Sort.onCells (Sort.putCells encStr o (srt xs).toArray))) ++ os)[c]? = _
        rw [Array.getElem?_append_left (by simpa using hlt2), Array.getElem?_modify, if_neg (fun e => hc e.symm)]
      refine ⟨⟨by simp [nC], .inr ⟨b, o, cp, pre, j, by simp [hsl], by rw [flat_nC]; exact hb', hpre, by simpa [hsl] using hc1, hc2, ?_⟩⟩, fun c ⟨o', m', cp', he⟩ => ?_, HoldsF.loc hh.2.2 fun c hc => ?_⟩
      · rw [flat_nC]
        rw [flat_nC] at hc3
        simpa [hsl] using hc3
      · cases he
        exact hh.2.1 b ⟨o, _, cp, rfl⟩
      · exact (ho c (fun e => hh.2.1 b ⟨o, _, cp, rfl⟩ (e ▸ hc)) (Holds.lt (h := hr) hh.2.2 hc)).symm
    · refine ⟨by rw [h2]; rfl, by rw [h2]; rfl, by rw [h2]; rfl, ?_, fun a ha => ?_⟩
      · rw [h2]
        show w.heap.size ≤ ((w.heap.modify b (Sort.onCells (Sort.putCells encStr o (srt xs).toArray))) ++ os).size
        simp
      · rw [h2]
        unfold World.frozen?
        have : (Sort.grow (Sort.putRow encStr (Sort.ahead w n) b o (srt xs).toArray) os).heap[a.block]? = (w.heap[a.block]?).map fun q => if b = a.block then Sort.onCells (Sort.putCells encStr o (srt xs).toArray) q else q := by
          show ((w.heap.modify b (Sort.onCells (Sort.putCells encStr o (srt xs).toArray))) ++ os)[a.block]? = _
          rw [Array.getElem?_append_left (by simpa using ha), Array.getElem?_modify]
          split
          · rename_i e; subst e; simp
          · simp [*]
        rw [this]
        by_cases e : b = a.block
        · simp only [e, if_true]
          rw [← e, hb]
          rfl
        · simp [e]
end
end Go.Hr
namespace Go.Hr
open Go Go.RowKit Go.Ck Go.Proofs Go.Proofs.Ytjgiaohieadeiaa Fx
attribute [local irreducible] Go.Ck.Sub St Cd Xt Nx DrL LsW
section
variable {S N T : Res} {v nv : Value} {l : Sys} {ns : List Nm} {kf : FuncId} {cp : Array Value} {g : Nm → Bool}
set_option maxRecDepth 100000 in
theorem filter_ct {xs : List Nm} (hv : nmsR S v xs) (hl : xs.length ≤ 1099511627776) (hE : Ck.Enters Try.prog kf) (hf : ∀ x ∈ xs, Reads Try.prog kf (#[] ++ [sv x].toArray ++ cp) [S] (.bool (g x))) : CtN Try.prog 64 #[v, .func (.func kf) #[] cp] [S] fun u T => u.oneCell' = true ∧ T = NR u (xs.filter g) := by
  obtain ⟨a, cap, rfl, _⟩ := id hv
  refine ct_of (n := 23) Try.func64 rfl rfl (len rfl) fun hr w0 => ?_
  refine cd_seq (cd_region (st_v (v_assign rfl) (st_nil (nx_then (cd_seq (cd_region (st_v (v_assign rfl) (st_nil (nx_then (cd_seq (cd_seq (cd_region (st_v (v_move rfl) (st_v (v_len rfl Try.underlying25) (st_v (v_move rfl) ?_)))))))))))))))
  refine st_nil (nx_kp [1, 4, 5, 8, 9, 10] rfl (nx_then (cd_block (cd_vw (vw_nil 9 1) (cd_lq (σ := Value × Nat) (fun q => [(1, .func (.func kf) #[] cp), (5, q.1), (8, .slice a xs.length cap), (9, .int .i64 xs.length), (10, .int .i64 (q.2 : Nat))]) (fun q => NR q.1 ((xs.take q.2).filter g) :: S :: hr) (fun q => q.1.oneCell' = true ∧ q.2 ≤ xs.length) (fun q => xs.length - q.2) (.slice none 0 0, 0) ⟨rfl, Nat.zero_le _⟩ ?_)))))
  rintro ⟨w, i⟩ ⟨hw, hi⟩
  simp only at hw hi
  dsimp only
  refine cd_seq (cd_region (st_v (v_lss rfl rfl) (st_nil (nx_then (cd_seq (cd_cond rfl (fun hd => ?_) (fun hd => ?_)))))))
  · skip
    have hlt : i < xs.length := by simpa using hd
    obtain ⟨b, o, cap2, hv2, hrd⟩ := nms_at hv (List.getElem?_eq_getElem hlt)
    have hmem : xs[i] ∈ xs := List.getElem_mem hlt
    have hll : ((xs.take i).filter g).length ≤ i := Nat.le_trans (List.length_filter_le _ _) (by rw [List.length_take]; omega)
    have ht : (xs.take (i + 1)).filter g = (xs.take i).filter g ++ (if g xs[i] = true then [xs[i]] else []) := by
      rw [List.take_succ_eq_append_getElem hlt, List.filter_append]
      congr 1
      by_cases hg : g xs[i] = true <;> simp [hg]
    refine cd_skip (xt_then (cd_seq (cd_block (cd_seq (cd_region (st_v (v_indexAddr (k := i) (congrArg some hv2) rfl sl25 rfl hlt rfl) (st_v (v_ldy rfl ld9) ?_)))))))
    refine st_v (v_assign rfl) (st_nil (nx_kp [1, 5, 7, 8, 9, 10] rfl (nx_then (cd_seq (cd_region (st_v (v_move rfl) (st_v (v_move rfl) (st_clr rfl rfl hE rfl ((hf xs[i] hmem)) ?_))))))))
    refine st_nil (nx_kp [1, 5, 7, 8, 9, 10, 16] rfl (nx_then (cd_cond rfl (fun he => ?_) (fun he => ?_))))
    · skip
      rw [if_pos he] at ht
      refine cd_region (st_v (v_move rfl) (st_v (v_move rfl) (st_buildSlice (cells := [sv xs[i]]) rfl Try.underlying25 inf9 rfl rfl (by kernel_rfl) (ltn rfl) fun b19 => ?_)))
      refine st_app [nC xs[i]] rfl rfl Try.underlying25 inf9 rfl (by decide) (show Sel _ (NR w ((xs.take i).filter g)) _ from (by repeat (first | exact Sel.here | apply Sel.there))) (by simp [nC]) rfl (fun j u2 hu2 => at_here (rd_cl (by simpa [nC] using hu2))) (by simp [nC, Value.oneCell']) (by rw [List.length_map]; omega) (by rw [List.length_map]; omega) (ltn rfl) fun w3 hw3 _ => ?_
      rw [show ((xs.take i).filter g).map nC ++ [nC xs[i]] = ((xs.take (i + 1)).filter g).map nC by rw [ht]; simp]
      refine st_v (v_assign rfl) (st_nil (nx_kp [1, 5, 8, 9, 10] rfl (nx_xt (xt_normal_block (xt_then (cd_region (st_v (v_add rfl rfl (by unfold I64 at *; omega)) (st_v (v_move rfl) (st_nil (nx_kp [1, 5, 8, 9, 10] rfl (nx_xt ?_)))))))))))
      refine xt_aq (w3, i + 1) ⟨hw3, hlt⟩ (by show _ - _ < _ - _; omega)
    · skip
      rw [if_neg (by rw [he]; decide), List.append_nil] at ht
      refine cd_skip (xt_normal_block (xt_then (cd_region (st_v (v_add rfl rfl (by unfold I64 at *; omega)) (st_v (v_move rfl) (st_nil (nx_kp [1, 5, 8, 9, 10] rfl (nx_xt ?_))))))))
      rw [← ht]
      refine xt_aq (w, i + 1) ⟨hw, hlt⟩ (by show _ - _ < _ - _; omega)
  · skip
    have hil : i = xs.length := by have : ¬ i < xs.length := by simpa using hd
                                   omega
    subst hil
    rw [List.take_length]
    refine cd_exit (xt_exit_then (xt_exit_then (xt_exit_block (xt_then (cd_seq (cd_region (st_v (v_move rfl) (st_v (v_assign rfl) (st_nil (nx_kp [4] rfl (nx_then (cd_ret ?_))))))))))))
    exact xt_rt rfl ⟨_, rfl, hw, rfl⟩ (by (repeat (refine Sub.sel (by repeat (first | exact Sel.here | apply Sel.there)) ?_)); (repeat apply Sub.cons); first | exact Sub.refl _ | exact Sub.nil _)
set_option maxRecDepth 100000 in
theorem least1_ct {b8 b5 mb : Nat} (hv : sysR S v l) (hR : Right l) {b : Nm} (hb : isC l b = true) (x : Nm) : Reads Try.prog 66 #[sv x, .pointer (some ⟨b8, 0, none⟩), .pointer (some ⟨b5, 0, none⟩)] [T, pt b8 (cl [v, .map (some mb)] 95), pt b5 (cl [sv b] 9), S, mps mb (kindsM l)] (.bool (has l b x)) := by
  obtain ⟨a, cap, rfl, _⟩ := id hv
  refine ct_of (n := 9) Try.func66 rfl rfl (len rfl) fun hr w0 => ?_
  refine cd_seq (cd_region (st_v (v_assign rfl) (st_nil (nx_then (cd_seq (cd_region (st_v (v_ldn rfl ld95 rfl rds_pt) ?_)))))))
  refine st_v (v_ldy rfl ld9) ?_
  refine st_v (v_move rfl) (st_cl rfl rfl en67 rfl (has_ct hv hR.fine hR.acyc hb x) ?_)
  rintro u h' ⟨rfl, rfl⟩
  simp only [List.cons_append, List.nil_append]
  refine st_v (v_assign rfl) (st_nil (nx_kp [4] rfl (nx_then (cd_ret ?_))))
  exact xt_rt rfl ⟨rfl, rfl⟩ (by (repeat (refine Sub.sel (by repeat (first | exact Sel.here | apply Sel.there)) ?_)); (repeat apply Sub.cons); first | exact Sub.refl _ | exact Sub.nil _)
theorem hasR {mb : Nat} (hv : sysR S v l) (hR : Right l) {c : Nm} (hc : isC l c = true) (x : Nm) : Reads Try.prog 67 #[.agg #[v, .map (some mb)], sv c, sv x] [S, mps mb (kindsM l)] (.bool (has l c x)) := has_ct hv hR.fine hR.acyc hc x
set_option maxRecDepth 100000 in
theorem least3_ct {c3 b8 mb : Nat} (hv : sysR S v l) (hR : Right l) {d : Nm} (hd : isC l d = true) (c : Nm) : Reads Try.prog 70 #[sv d, .pointer (some ⟨c3, 0, none⟩), .pointer (some ⟨b8, 0, none⟩)] [T, pt c3 (cl [sv c] 9), pt b8 (cl [v, .map (some mb)] 95), S, mps mb (kindsM l)] (.bool (d != c && has l d c)) := by
  obtain ⟨a, cap, rfl, _⟩ := id hv
  refine ct_of (n := 14) Try.func70 rfl rfl (len rfl) fun hr w0 => ?_
  refine cd_seq (cd_region (st_v (v_assign rfl) (st_nil (nx_then (cd_seq (cd_region (st_v (v_move rfl) (st_v (v_ldy rfl ld9) ?_))))))))
  refine st_v (v_sneq rfl rfl) (st_v (v_move rfl) (st_cut (k := 9) (d := 13) (v := .bool (d != c && has l d c)) (fun hcut => bool_want (b := (d != c)) true (fun hg => ?_) (fun hg => ?_)) ?_))
  · refine st_sk rfl rfl hg ?_
    refine st_sk rfl rfl hg ?_
    refine st_sk rfl rfl hg ?_
    refine st_sk rfl rfl hg ?_
    refine st_v (v_pick_false (bool_ev rfl hg) rfl) ?_
    exact hcut _ (ssub_head (by first | rfl | (rw [hg]; rfl) | simp_all) (ssub_skip rfl (ssub_skip rfl (ssub_skip rfl (ssub_skip rfl (ssub_refl))))))
  · skip
    refine st_vg rfl (bool_get rfl hg) (v_ldn rfl ld95 rfl rds_pt) ?_
    refine st_vg rfl (bool_get rfl hg) (v_move rfl) (st_vg rfl (bool_get rfl hg) (v_ldy rfl ld9) ?_)
    refine st_clrg rfl (bool_get rfl hg) rfl rfl en67 rfl (hasR hv hR hd c) ?_
    refine st_v (v_pick_true (bool_ev rfl hg) rfl) ?_
    exact hcut _ (ssub_head (by first | rfl | (rw [hg]; rfl) | simp_all) (ssub_skip rfl (ssub_skip rfl (ssub_skip rfl (ssub_skip rfl (ssub_refl))))))
  refine st_v (v_assign rfl) (st_nil (nx_kp [4] rfl (nx_then (cd_ret ?_))))
  exact xt_rt rfl ⟨rfl, rfl⟩ (by (repeat (refine Sub.sel (by repeat (first | exact Sel.here | apply Sel.there)) ?_)); (repeat apply Sub.cons); first | exact Sub.refl _ | exact Sub.nil _)
set_option maxRecDepth 100000 in
theorem least2_ct {b10 b8 mb : Nat} {cs : List Nm} {cv : Value} (hv : sysR S v l) (hR : Right l) (hc : nmsR T cv cs) (hl : cs.length ≤ 1099511627776) (hcs : ∀ x ∈ cs, isC l x = true) (c : Nm) : Reads Try.prog 68 #[sv c, .pointer (some ⟨b10, 0, none⟩), .pointer (some ⟨b8, 0, none⟩)] [T, pt b10 (cl [cv] 25), pt b8 (cl [v, .map (some mb)] 95), S, mps mb (kindsM l)] (.bool (lowest l cs c)) := by
  obtain ⟨ca, ccap, rfl, _⟩ := id hc
  refine ct_of (n := 9) Try.func68 rfl rfl (len rfl) fun hr w0 => ?_
  refine cd_seq (cd_region (st_bx rfl rfl fun b3 => ?_))
  refine st_v (v_assign rfl) (st_nil (nx_kp [1, 2, 3, 4] rfl (nx_then (cd_seq (cd_region (st_v (v_ldy rfl ld25) ?_))))))
  refine st_v (v_makeFunc rfl rfl) (st_cl rfl rfl en69 rfl (reads_star (ContainsFuncN_ct (S := Res.star [T, pt b3 (cl [sv c] 9), pt b8 (cl [v, .map (some mb)] 95), S, mps mb (kindsM l)]) (kf := 70) (cp := #[.pointer (some ⟨b3, 0, none⟩), .pointer (some ⟨b8, 0, none⟩)]) (g := fun d => d != c && has l d c) (hc.mono (rd_in Sel.here)) hl en70 fun d hd => reads_one (least3_ct hv hR (hcs d hd) c))) ?_)
  rintro u2 h' ⟨rfl, rfl⟩
  simp only [List.cons_append, List.nil_append]
  refine st_v (v_not rfl) (st_v (v_assign rfl) (st_nil (nx_kp [4] rfl (nx_then (cd_ret ?_)))))
  exact xt_rt rfl ⟨rfl, rfl⟩ (by (repeat (refine Sub.sel (by repeat (first | exact Sel.here | apply Sel.there)) ?_)); (repeat apply Sub.cons); first | exact Sub.refl _ | exact Sub.nil _)
set_option maxRecDepth 100000 in
theorem Least_ct (hv : sysR S v l) (x y : Nm) : CtN Try.prog 20 #[v, sv x, sv y] [S] fun u T => ∃ w, u = .tuple #[w, .int .i64 (rightE l [x, y])] ∧ w.oneCell' = true ∧ T = NR w (okL (rightE l [x, y]) (least l x y)) := by
  obtain ⟨a, cap, rfl, _⟩ := id hv
  refine ct_of (n := 34) Try.func20 rfl rfl (len rfl) fun hr w0 => ?_
  refine cd_seq (cd_region (st_bx rfl rfl fun b5 => ?_))
  refine st_v (v_assign rfl) (st_v (v_assign rfl) (st_nil (nx_kp [0, 1, 5, 6, 7] rfl (nx_then (cd_seq (cd_region (st_v (v_move rfl) (st_v (v_move rfl) (st_v (v_ldy rfl ld9) ?_)))))))))
  refine st_buildSlice (cells := [sv x, sv y]) rfl Try.underlying25 inf9 rfl rfl (by kernel_rfl) (ltn rfl) fun b16 => ?_
  refine st_pv (pv_of (b := b16) (n := 2) (sz := 1) (E := 9) [nC x, nC y] rfl (by simp [nC]) rfl (by decide)) ?_
  simp only [List.cons_append, List.nil_append]
  refine st_ok (r := NR (.slice (some ⟨b16, 0, none⟩) 2 2) [x, y]) (by repeat (first | exact Sel.here | apply Sel.there)) fun hok => ?_
  refine st_cl rfl rfl en51 rfl (right_ct hv (nms_own hok) (by simp)) ?_
  rintro u h' (⟨he, rfl, rfl⟩ | ⟨he, mb, rfl, rfl⟩)
  · skip
    simp only [List.cons_append, List.nil_append]
    unfold gr0
    refine st_v (v_move rfl) (st_v (v_extract rfl rfl) (st_v (v_extract rfl rfl) (st_alc al95 fun b8 => ?_)))
    refine st_stoW rfl rfl sz95 rfl rfl ?_
    refine st_v (v_assign rfl) (st_nil (nx_kp [1, 5, 6, 7, 8, 9] rfl (nx_then (cd_seq (cd_seq (cd_region (st_v (v_move rfl) (st_v (v_neq rfl rfl) (st_nil (nx_kp [1, 5, 6, 7, 8, 9, 21] rfl (nx_then ?_)))))))))))
    rw [ne_true he]
    refine cd_true rfl ?_
    refine cd_seq (cd_region (st_v (v_move rfl) (st_v (v_assign rfl) (st_v (v_assign rfl) (st_nil (nx_kp [6, 7] rfl (nx_then (cd_ret (xt_ret_then ?_)))))))))
    rw [okL_ne he]
    refine xt_vw (vw_nil 9 1) ?_
    exact xt_rt rfl ⟨NR (.slice none 0 0) [], rfl, _, rfl, rfl, rfl⟩ (by (repeat (refine Sub.sel (by repeat (first | exact Sel.here | apply Sel.there)) ?_)); (repeat apply Sub.cons); first | exact Sub.refl _ | exact Sub.nil _)
  · skip
    obtain ⟨hR, hm⟩ := rightE_zero.1 he
    have hFl := hR.len
    have hxC := hm x (by simp)
    have hyC := hm y (by simp)
    have hlen := above_len hR.acyc hxC
    have hcC : ∀ z ∈ common l x y, isC l z = true := fun z hz => has_isC hxC ((common_iff hR.acyc).1 hz).1
    have hcl : (common l x y).length ≤ 24 := Nat.le_trans (List.length_filter_le _ _) (by omega)
    have hcn : (common l x y).Nodup := ((above_spec hR.acyc x).1.nodup).filter _
    have hln : ((common l x y).filter (lowest l (common l x y))).Nodup := hcn.filter _
    have hll : ((common l x y).filter (lowest l (common l x y))).length ≤ 24 := Nat.le_trans (List.length_filter_le _ _) hcl
    rw [he, okL_eq rfl]
    simp only [List.cons_append, List.nil_append]
    refine st_v (v_move rfl) (st_v (v_extract rfl rfl) (st_v (v_extract rfl rfl) (st_alc al95 fun b8 => ?_)))
    refine st_stoW rfl rfl sz95 rfl rfl ?_
    refine st_v (v_assign rfl) (st_nil (nx_kp [1, 5, 6, 7, 8, 9] rfl (nx_then (cd_seq (cd_seq (cd_region (st_v (v_move rfl) (st_v (v_neq rfl rfl) (st_nil (nx_kp [1, 5, 6, 7, 8, 9, 21] rfl (nx_then (cd_false rfl ?_))))))))))))
    refine cd_skip (xt_then (cd_seq (cd_region (st_v (v_ldn rfl ld95 rfl rds_pt) ?_))))
    refine st_v (v_move rfl) (st_cl rfl rfl en65 rfl (above_ct hv hR.fine hR.acyc hxC) ?_)
    rintro u1 h' ⟨hu1, rfl⟩
    simp only [List.cons_append, List.nil_append]
    refine st_ok (r := NR u1 (above l x)) (by repeat (first | exact Sel.here | apply Sel.there)) fun hok1 => ?_
    refine st_v (v_makeFunc rfl rfl) (st_cl rfl rfl en64 rfl (ctn_star (filter_ct (S := Res.star [NR u1 (above l x), pt b8 (cl [.slice a l.length cap, .map (some mb)] 95), pt b5 (cl [sv y] 9), S, mps mb (kindsM l)]) (kf := 66) (cp := #[.pointer (some ⟨b8, 0, none⟩), .pointer (some ⟨b5, 0, none⟩)]) (g := fun c => has l y c) ((nms_own hok1).mono (rd_in Sel.here)) (by omega) en66 fun d _ => reads_one (least1_ct hv hR hyC d))) ?_)
    rintro u2 h' ⟨T2, rfl, hu2, rfl⟩
    simp only [List.cons_append, List.nil_append]
    rw [show (above l x).filter (fun c => has l y c) = common l x y from rfl]
    refine st_ok (r := NR u2 (common l x y)) (by repeat (first | exact Sel.here | apply Sel.there)) fun hok2 => ?_
    have hno2 := nms_own hok2
    refine st_alc al25 fun b10 => ?_
    refine st_sto rfl rfl sz25 ?_
    refine st_nil (nx_kp [6, 7, 8, 10] rfl (nx_then (cd_seq (cd_region (st_v (v_ldy rfl ld25) ?_)))))
    refine st_v (v_makeFunc rfl rfl) (st_cl rfl rfl en64 rfl (ctn_star (filter_ct (S := Res.star [NR u2 (common l x y), pt b10 (cl [u2] 25), pt b8 (cl [.slice a l.length cap, .map (some mb)] 95), S, mps mb (kindsM l)]) (kf := 68) (cp := #[.pointer (some ⟨b10, 0, none⟩), .pointer (some ⟨b8, 0, none⟩)]) (g := lowest l (common l x y)) (hno2.mono (rd_in Sel.here)) (by omega) en68 fun d _ => reads_one (least2_ct hv hR hno2 (by omega) hcC d))) ?_)
    rintro u3 h' ⟨T3, rfl, hu3, rfl⟩
    simp only [List.cons_append, List.nil_append]
    refine st_v (v_assign rfl) (st_nil (nx_kp [6, 7, 11] rfl (nx_then (cd_seq (cd_region (st_v (v_move rfl) (st_cl rfl rfl en61 rfl (Sort_ct hln (by omega)) ?_)))))))
    rintro u4 h' ⟨rfl, rfl⟩
    simp only [List.cons_append, List.nil_append]
    refine st_nil (nx_kp [6, 7, 11] rfl (nx_then (cd_seq (cd_region (st_v (v_move rfl) (st_v (v_assign rfl) (st_v (v_assign rfl) (st_nil (nx_kp [6, 7] rfl (nx_then (cd_ret ?_)))))))))))
    exact xt_rt rfl ⟨_, rfl, _, rfl, hu3, rfl⟩ (by (repeat (refine Sub.sel (by repeat (first | exact Sel.here | apply Sel.there)) ?_)); (repeat apply Sub.cons); first | exact Sub.refl _ | exact Sub.nil _)
end
end Go.Hr
