/-
  Package heir: Touched, CheckWay, CheckRing with names that are read where the system is read. Conditions: what is read.
  HeirReaches. Conditions: what is read.
  HeirCounts. Conditions: what is read.
  The specification: named, alone. Conditions: what is read.
  Rows appended whole; the specification: Before, first. Conditions: what is read.
  The specification: first. Conditions: what is read.
  The specification: further. Conditions: what is read.
  The specification: Ring. Conditions: what is read.
-/
import Derived.Test.YtjgiaohieadeiaaGreatM8
import Derived.Test.YtjgiaohieadeiaaGreatM5
import Derived.Test.YtjgiaohieadeiaaGreatM1
set_option linter.unusedVariables false
set_option linter.unusedSimpArgs false
namespace Go.Hr
open Go Go.RowKit Go.Ck Go.Proofs Go.Proofs.YtjgiaohieadeiaaGreat Fx
attribute [local irreducible] Go.Ck.Sub St Cd Xt Nx DrL LsW
section
variable {S : Res} {v nv : Value} {l : Sys} {ns : List Nm}
set_option maxRecDepth 100000 in
theorem touched1s_ct {b6 b3 mb : Nat} (hv : sysR S v l) (hR : Right l) (hn : nmsR S nv ns) (hnl : ns.length ≤ 1099511627776) {d : Nm} (hd : isC l d = true) : Reads Tryz.prog 59 #[sv d, .pointer (some ⟨b6, 0, none⟩), .pointer (some ⟨b3, 0, none⟩)] [pt b6 (cl [v, .map (some mb)] 75), pt b3 (cl [nv] 25), S, mps mb (kindsM l)] (.bool (ns.any fun x => has l d x)) := by
  obtain ⟨a, cap, rfl, _⟩ := id hv
  have hlen := above_len hR.acyc hd
  have hFl := hR.len
  refine ct_of (n := 10) Tryz.func59 rfl rfl (len rfl) fun hr w0 => ?_
  refine cd_seq (cd_region (st_v (v_assign rfl) (st_nil (nx_then (cd_seq (cd_region (st_v (v_ldn rfl ld75 rfl rds_pt) ?_)))))))
  refine st_v (v_move rfl) (st_cl rfl rfl en46 rfl (above_ct hv hR.fine hR.acyc hd) ?_)
  rintro u h' ⟨hu, rfl⟩
  simp only [List.cons_append, List.nil_append]
  refine st_ok (r := NR u (above l d)) (by repeat (first | exact Sel.here | apply Sel.there)) fun hok => ?_
  refine st_v (v_makeFunc rfl rfl) (st_cl rfl rfl en57 rfl (reads_star (ContainsFuncN_ct (S := Res.star [NR u (above l d), pt b3 (cl [nv] 25), S]) (kf := 60) (cp := #[.pointer (some ⟨b3, 0, none⟩)]) (g := fun x => ns.contains x) ((nms_own hok).mono (rd_in Sel.here)) (by omega) en60 fun x _ => reads_one (touched2_ct hn hnl x))) ?_)
  rintro u2 h' ⟨rfl, rfl⟩
  simp only [List.cons_append, List.nil_append]
  refine st_v (v_assign rfl) (st_nil (nx_kp [4] rfl (nx_then (cd_ret ?_))))
  rw [any_above hR]
  exact xt_rt rfl ⟨rfl, rfl⟩ (by (repeat (refine Sub.sel (by repeat (first | exact Sel.here | apply Sel.there)) ?_)); (repeat apply Sub.cons); first | exact Sub.refl _ | exact Sub.nil _)
set_option maxRecDepth 100000 in
theorem Touched1_ct (hv : sysR S v l) (hn : nmsR S nv ns) : CtN Tryz.prog 24 #[v, nv] [S] fun u T => ∃ w, u = .tuple #[w, .int .i64 (touchE l ns)] ∧ w.oneCell' = true ∧ T = NR w (okL (touchE l ns) (touched l ns)) := by
  obtain ⟨a, cap, rfl, _⟩ := id hv
  obtain ⟨na, ncap, rfl, _⟩ := id hn
  refine ct_of (n := 22) Tryz.func24 rfl rfl (len rfl) fun hr w0 => ?_
  refine cd_seq (cd_region (st_bx rfl rfl fun b3 => ?_))
  refine st_v (v_assign rfl) (st_v (v_assign rfl) (st_nil (nx_kp [0, 3, 4, 5] rfl (nx_then (cd_seq (cd_seq (cd_region (st_v (v_ldy rfl ld25) ?_))))))))
  refine st_v (v_len rfl Tryz.underlying25) (st_v (v_gtr rfl rfl) (st_nil (nx_kp [0, 3, 4, 5, 10] rfl (nx_then (cd_cond rfl (fun h48 => ?_) (fun h48 => ?_))))))
  · skip
    have h48 : 48 < ns.length := by have : (48 : Int) < ns.length := by simpa using h48
                                    omega
    have hw : touchE l ns = 3 := if_pos h48
    rw [hw, okL_ne (by decide)]
    refine cd_seq (cd_region (st_v (v_assign rfl) (st_v (v_assign rfl) (st_nil (nx_kp [4, 5] rfl (nx_then (cd_ret (xt_ret_then (xt_vw (vw_nil 9 1) ?_)))))))))
    exact xt_rt rfl ⟨NR (.slice none 0 0) [], rfl, _, rfl, rfl, rfl⟩ (by (repeat (refine Sub.sel (by repeat (first | exact Sel.here | apply Sel.there)) ?_)); (repeat apply Sub.cons); first | exact Sub.refl _ | exact Sub.nil _)
  · skip
    have h48 : ¬ 48 < ns.length := by have : ¬ (48 : Int) < ns.length := by simpa using h48
                                      omega
    have hw : touchE l ns = rightE l [] := if_neg h48
    rw [hw]
    refine cd_skip (xt_then (cd_seq (cd_region (st_v (v_move rfl) (st_vw (vw_unstar (L := [])) (st_cl rfl rfl en32 rfl (right_ct hv (N := Res.star []) (ns := []) Row.nil (by simp)) ?_))))))
    rintro u h' (⟨he, rfl, rfl⟩ | ⟨he, mb, rfl, rfl⟩)
    · skip
      simp only [List.cons_append, List.nil_append]
      unfold gr0
      refine st_v (v_move rfl) (st_v (v_extract rfl rfl) (st_v (v_extract rfl rfl) (st_alc al75 fun b6 => ?_)))
      refine st_stoW rfl rfl sz75 rfl rfl ?_
      refine st_v (v_assign rfl) (st_nil (nx_kp [3, 4, 5, 6, 7] rfl (nx_then (cd_seq (cd_seq (cd_region (st_v (v_move rfl) (st_v (v_neq rfl rfl) (st_nil (nx_kp [3, 4, 5, 6, 7, 17] rfl (nx_then ?_)))))))))))
      rw [ne_true he]
      refine cd_true rfl ?_
      refine cd_seq (cd_region (st_v (v_move rfl) (st_v (v_assign rfl) (st_v (v_assign rfl) (st_nil (nx_kp [4, 5] rfl (nx_then (cd_ret (xt_ret_then ?_)))))))))
      rw [okL_ne he]
      refine xt_vw (vw_nil 9 1) ?_
      exact xt_rt rfl ⟨NR (.slice none 0 0) [], rfl, _, rfl, rfl, rfl⟩ (by (repeat (refine Sub.sel (by repeat (first | exact Sel.here | apply Sel.there)) ?_)); (repeat apply Sub.cons); first | exact Sub.refl _ | exact Sub.nil _)
    · skip
      obtain ⟨hR, _⟩ := rightE_zero.1 he
      rw [he, okL_eq rfl]
      simp only [List.cons_append, List.nil_append]
      refine st_v (v_move rfl) (st_v (v_extract rfl rfl) (st_v (v_extract rfl rfl) (st_alc al75 fun b6 => ?_)))
      refine st_stoW rfl rfl sz75 rfl rfl ?_
      refine st_v (v_assign rfl) (st_nil (nx_kp [3, 4, 5, 6, 7] rfl (nx_then (cd_seq (cd_seq (cd_region (st_v (v_move rfl) (st_v (v_neq rfl rfl) (st_nil (nx_kp [3, 4, 5, 6, 7, 17] rfl (nx_then (cd_false rfl ?_))))))))))))
      refine cd_skip (xt_then (cd_seq (cd_region (st_v (v_ldn rfl ld75 rfl rds_pt) ?_))))
      refine st_v (v_makeFunc rfl rfl) (st_cl rfl rfl en50 rfl (ctn_star (names_ct (S := Res.star [pt b6 (cl [.slice a l.length cap, .map (some mb)] 75), pt b3 (cl [.slice na ns.length ncap] 25), S, mps mb (kindsM l)]) (kf := 59) (cp := #[.pointer (some ⟨b6, 0, none⟩), .pointer (some ⟨b3, 0, none⟩)]) (g := fun d => ns.any fun x => has l d x) (mb := mb) (hv.mono (rd_in (by repeat (first | exact Sel.here | apply Sel.there)))) hR.fine en59 fun d hd => reads_one (touched1s_ct hv hR hn (by omega) (isC_iff.2 hd)))) ?_)
      rintro u h' ⟨T, rfl, hu, rfl⟩
      simp only [List.cons_append, List.nil_append]
      refine st_v (v_assign rfl) (st_v (v_assign rfl) (st_nil (nx_kp [4, 5] rfl (nx_then (cd_ret ?_)))))
      exact xt_rt rfl ⟨_, rfl, _, rfl, hu, rfl⟩ (by (repeat (refine Sub.sel (by repeat (first | exact Sel.here | apply Sel.there)) ?_)); (repeat apply Sub.cons); first | exact Sub.refl _ | exact Sub.nil _)
end
end Go.Hr
namespace Go.Ck
open Go
section
variable {P : Program} {e : Env} {h : SH} {ty : TypeId}
theorem v_sliceO {T E : TypeId} {x y z : Operand} {b o n cp lo hi : Nat} {i j : Int} {k k' : IntKind} (hx : e.ev? x = some (.slice (some ⟨b, o, none⟩) n cp)) (hy : e.ev? y = some (.int k i)) (hz : e.ev? z = some (.int k' j)) (hT : SlE P T E 1)
    (hi' : i = (lo : Int)) (hj : j = (hi : Int)) (h1 : lo ≤ hi) (h2 : hi ≤ cp) (h3 : lo < cp) : Vop P e h (.slice T x (some y) (some z) none) ty (.slice (some ⟨b, o + lo, none⟩) (hi - lo) (cp - lo)) :=
  ⟨by simp, by simp, fun ρ w d pos after g hρ _ => by
    subst hi' hj
    have hT' : P.underlying T = some (.slice (P.elem T)) := by simp [Program.elem, hT.1]
    have he : P.elem T = E := by simp [Program.elem, hT.1]
    have hr := run_slice_lh (P := P) w T (some ⟨b, o, none⟩) n cp hT' k k' lo hi (by omega) (by omega) (by omega)
    simp only [he, hT.2 w, Result.andThen_ok, sliced, Int.toNat_natCast, if_neg (show ¬ cp = lo by omega), Option.map_some, Addr.add_lit, Nat.mul_one] at hr
    simp only [execOp, hρ x _ hx, Option.map_some, Option.map_none, hρ y _ hy, hρ z _ hz, Sem.run_bind, run_sliceAt_slice w T _ _ _ _ hT', hr, Result.andThen_ok, Sem.run_pure]⟩
end
end Go.Ck
namespace Go.Hr
open Go Go.RowKit Go.Ck Go.Proofs Go.Proofs.YtjgiaohieadeiaaGreat Fx
attribute [local irreducible] Go.Ck.Sub St Cd Xt Nx DrL LsW
theorem nms_one {S : Res} {b o n cap k : Nat} {ns : List Nm} (h : nmsR S (.slice (some ⟨b, o, none⟩) n cap) ns) (hk : k < ns.length) : nmsR S (.slice (some ⟨b, o + k, none⟩) 1 (cap - k)) [ns[k]] := by
  obtain ⟨a, cap2, he, h2, h3, _, h5⟩ := h
  cases he
  refine ⟨_, _, rfl, by simp; omega, by omega, (fun h => by cases h), fun i y hi => ?_⟩
  have hi0 : i = 0 := by
    have := (List.getElem?_eq_some_iff.1 hi).1
    simpa using this
  subst hi0
  obtain ⟨b2, o2, us, e, h6, h7, h8⟩ := h5 k ns[k] (List.getElem?_eq_getElem hk)
  cases e
  have hy : ns[k] = y := by simpa using hi
  exact ⟨_, _, us, rfl, h6, by rw [show o + k + 0 * 1 = o + k * 1 by omega]; exact h7, by rw [← hy]; exact h8⟩
theorem touched_at {l : Sys} {ns : List Nm} {c : Nm} (hc : isC l c = true) : decide (0 ≤ ixS (touched l ns) c) = ns.any fun a => has l c a := by
  rw [ixS_has, Bool.eq_iff_iff, List.contains_iff_mem, mem_touched, List.any_eq_true]
  exact ⟨fun h => h.2, fun h => ⟨isC_iff.1 hc, h⟩⟩
theorem reach_no {l : Sys} {ns : List Nm} {c d : Nm} : ((((ns.any fun a => has l c a) && has l d c) && !(ns.any fun a => has l d a)) || (((!(ns.any fun a => has l c a)) && has l c d) && (ns.any fun a => has l d a))) = false := by
  cases h1 : (ns.any fun a => has l c a) <;> cases h2 : (ns.any fun a => has l d a) <;> cases h3 : has l d c <;> cases h4 : has l c d <;> simp
  all_goals first
    | (obtain ⟨a, g1, g2⟩ := List.any_eq_true.1 h1
       have := List.any_eq_false.1 h2 a g1
       exact this (has_trans h3 g2))
    | (obtain ⟨a, g1, g2⟩ := List.any_eq_true.1 h2
       have := List.any_eq_false.1 h1 a g1
       exact this (has_trans h4 g2))
theorem touchE_zero {l : Sys} (hR : Right l) {ns : List Nm} (h : ns.length ≤ 48) : touchE l ns = 0 := by
  unfold touchE
  rw [if_neg (by omega)]
  exact right0 hR
theorem touched_len {l : Sys} (hR : Right l) (ns : List Nm) : (touched l ns).length ≤ 24 := Nat.le_trans (List.length_filter_le _ _) (by simp only [nms, List.length_map]; exact hR.len)
section
variable {S : Res} {v nv : Value} {l : Sys} {ns : List Nm}
end
end Go.Hr
namespace Go.Hr
open Go Go.RowKit Go.Ck Go.Proofs Go.Proofs.YtjgiaohieadeiaaGreat Fx
attribute [local irreducible] Go.Ck.Sub St Cd Xt Nx DrL LsW
theorem ways_24 {l : Sys} (hR : Right l) (c a : Nm) : ways l c a ≤ 4 ^ 24 :=
  Nat.le_trans (ways_le hR.acyc hR.par_few a c) (Nat.pow_le_pow_right (by omega) (Nat.le_trans (rk_le l c) hR.len))
def sumW (l : Sys) (a : Nm) (ps : List Nm) : Nat := (ps.map fun p => ways l p a).sum
theorem sumW_snoc (l : Sys) (a : Nm) (ps : List Nm) (p : Nm) : sumW l a (ps ++ [p]) = sumW l a ps + ways l p a := by simp [sumW]
theorem sumW_le {l : Sys} (hR : Right l) (a : Nm) (ps : List Nm) : sumW l a ps ≤ ps.length * 4 ^ 24 := sum_le fun p _ => ways_24 hR p a
section
variable {S : Res} {v : Value} {l : Sys}
end
end Go.Hr
namespace Go.Hr
open Go Go.RowKit Go.Ck Go.Proofs Go.Proofs.YtjgiaohieadeiaaGreat Fx
attribute [local irreducible] Go.Ck.Sub St Cd Xt Nx DrL LsW
theorem ok_odd (c : UInt8) : (((!(decide (65 ≤ (c.toNat : Int)) && decide ((c.toNat : Int) ≤ 90))) && !(decide (48 ≤ (c.toNat : Int)) && decide ((c.toNat : Int) ≤ 57))) && ((c.toNat : Int) != 95)) = !okB c := by
  have h1 : decide (65 ≤ (c.toNat : Int)) = decide (65 ≤ c.toNat) := decide_eq_decide.2 (by omega)
  have h2 : decide ((c.toNat : Int) ≤ 90) = decide (c.toNat ≤ 90) := decide_eq_decide.2 (by omega)
  have h3 : decide (48 ≤ (c.toNat : Int)) = decide (48 ≤ c.toNat) := decide_eq_decide.2 (by omega)
  have h4 : decide ((c.toNat : Int) ≤ 57) = decide (c.toNat ≤ 57) := decide_eq_decide.2 (by omega)
  have h5 : ((c.toNat : Int) != 95) = !(c.toNat == 95) := by
    rw [bne]
    congr 1
    rw [Bool.eq_iff_iff, beq_iff_eq, beq_iff_eq]
    omega
  rw [h1, h2, h3, h4, h5]
  unfold okB upper digit
  rw [Bool.not_or, Bool.not_or]
theorem named_no {u : UInt8} {t : Nm} (h : ((((((u :: t).length : Int) == 0) || decide (20 < ((u :: t).length : Int))) || decide ((u.toNat : Int) < 65)) || decide (90 < (u.toNat : Int))) = true) : named (u :: t) = false := by
  unfold named upper
  simp only [Bool.or_eq_true, decide_eq_true_eq, beq_iff_eq, List.length_cons] at h
  rw [Bool.and_eq_false_iff, Bool.and_eq_false_iff, Bool.and_eq_false_iff]
  left; left
  rcases h with ((h | h) | h) | h
  · omega
  · left; simp; omega
  · right; simp; omega
  · right; simp; omega
theorem named_yes {u : UInt8} {t : Nm} (h : ((((((u :: t).length : Int) == 0) || decide (20 < ((u :: t).length : Int))) || decide ((u.toNat : Int) < 65)) || decide (90 < (u.toNat : Int))) = false) (h2 : ∀ c ∈ u :: t, okB c = true) : named (u :: t) = !reserved.contains (u :: t) := by
  have h3 : ((u :: t).all fun b => upper b || digit b || b.toNat == 95) = true := List.all_eq_true.2 h2
  unfold named
  simp only [Bool.or_eq_false_iff, decide_eq_false_iff_not, beq_eq_false_iff_ne, List.length_cons] at h
  obtain ⟨⟨⟨a1, a2⟩, a3⟩, a4⟩ := h
  have h4 : upper u = true := by unfold upper; simp; omega
  rw [h3]
  show (decide ((u :: t).length ≤ 20) && upper u && true && !reserved.contains (u :: t)) = _
  rw [h4, show decide ((u :: t).length ≤ 20) = true by simp; omega]
  simp
theorem named_odd {u : UInt8} {t : Nm} {c : UInt8} (hc : c ∈ u :: t) (h : okB c = false) : named (u :: t) = false := by
  have h3 : ((u :: t).all fun b => upper b || digit b || b.toNat == 95) = false := List.all_eq_false.2 ⟨c, hc, by unfold okB at h; rw [h]; decide⟩
  unfold named
  rw [h3]; simp
set_option maxRecDepth 100000 in
theorem namedS_ct (s : Nm) : Reads Tryz.prog 91 #[sv s] [] (.bool (named s)) := by
  cases s with
  | nil =>
    refine ct_of (n := 67) Tryz.func91 rfl rfl (len rfl) fun hr w0 => ?_
    refine cd_seq (cd_region (st_v (v_assign rfl) (st_nil (nx_then (cd_seq (cd_seq (cd_region (st_v (v_move rfl) (st_v (v_slen rfl Tryz.underlying9) (st_v (v_eql rfl rfl) (st_v (v_move rfl) (st_sk rfl rfl rfl ?_))))))))))))
    refine st_sk rfl rfl rfl ?_
    refine st_sk rfl rfl rfl ?_
    refine st_v (v_pick_true rfl rfl) (st_v (v_move rfl) (st_sk rfl rfl rfl ?_))
    refine st_sk rfl rfl rfl ?_
    refine st_sk rfl rfl rfl ?_
    refine st_v (v_pick_true rfl rfl) (st_v (v_move rfl) (st_sk rfl rfl rfl ?_))
    refine st_sk rfl rfl rfl ?_
    refine st_sk rfl rfl rfl ?_
    refine st_v (v_pick_true rfl rfl) (st_nil (nx_kp [0, 2, 24] rfl (nx_then (cd_true rfl ?_))))
    refine cd_seq (cd_region (st_v (v_assign rfl) (st_nil (nx_kp [2] rfl (nx_then (cd_ret (xt_ret_then ?_)))))))
    exact xt_rt rfl ⟨rfl, rfl⟩ (by (repeat (refine Sub.sel (by repeat (first | exact Sel.here | apply Sel.there)) ?_)); (repeat apply Sub.cons); first | exact Sub.refl _ | exact Sub.nil _)
  | cons u t =>
    refine ct_of (n := 67) Tryz.func91 rfl rfl (len rfl) fun hr w0 => ?_
    refine cd_seq (cd_region (st_v (v_assign rfl) (st_nil (nx_then (cd_seq (cd_seq (cd_region (st_v (v_move rfl) (st_v (v_slen rfl Tryz.underlying9) (st_v (v_eql rfl rfl) (st_v (v_move rfl) (st_cut (k := 8) (d := 14) (v := .bool ((((u :: t).length : Int) == 0) || decide (20 < ((u :: t).length : Int)))) (fun hcut => bool_want (b := (((u :: t).length : Int) == 0)) false (fun hg => ?_) (fun hg => ?_)) ?_))))))))))))
    · refine st_sk rfl rfl hg ?_
      refine st_sk rfl rfl hg ?_
      refine st_sk rfl rfl hg ?_
      refine st_v (v_pick_true (bool_ev rfl hg) rfl) ?_
      exact hcut _ (ssub_head (by first | rfl | (rw [hg]; rfl) | simp_all) (ssub_skip rfl (ssub_skip rfl (ssub_skip rfl (ssub_refl)))))
    · skip
      refine st_vg rfl (bool_get rfl hg) (v_move rfl) (st_vg rfl (bool_get rfl hg) (v_slen rfl Tryz.underlying9) (st_vg rfl (bool_get rfl hg) (v_gtr rfl rfl) (st_v (v_pick_false (bool_ev rfl hg) rfl) ?_)))
      exact hcut _ (ssub_head (by first | rfl | (rw [hg]; rfl) | simp_all) (ssub_skip rfl (ssub_skip rfl (ssub_skip rfl (ssub_refl)))))
    refine st_v (v_move rfl) (st_cut (k := 13) (d := 19) (v := .bool (((((u :: t).length : Int) == 0) || decide (20 < ((u :: t).length : Int))) || decide ((u.toNat : Int) < 65))) (fun hcut => bool_want (b := (((u :: t).length : Int) == 0) || decide (20 < ((u :: t).length : Int))) false (fun hg => ?_) (fun hg => ?_)) ?_)
    · refine st_sk rfl rfl hg ?_
      refine st_sk rfl rfl hg ?_
      refine st_sk rfl rfl hg ?_
      refine st_v (v_pick_true (bool_ev rfl hg) rfl) ?_
      exact hcut _ (ssub_head (by first | rfl | (rw [hg]; rfl) | simp_all) (ssub_skip rfl (ssub_skip rfl (ssub_skip rfl (ssub_refl)))))
    · skip
      refine st_vg rfl (bool_get rfl hg) (v_move rfl) (st_vg rfl (bool_get rfl hg) (v_sindex (k := 0) rfl rfl Tryz.underlying9 rfl rfl) (st_vg rfl (bool_get rfl hg) (v_lss rfl rfl) (st_v (v_pick_false (bool_ev rfl hg) rfl) ?_)))
      exact hcut _ (ssub_head (by first | rfl | (rw [hg]; rfl) | simp_all) (ssub_skip rfl (ssub_skip rfl (ssub_skip rfl (ssub_refl)))))
    refine st_v (v_move rfl) (st_cut (k := 18) (d := 24) (v := .bool ((((((u :: t).length : Int) == 0) || decide (20 < ((u :: t).length : Int))) || decide ((u.toNat : Int) < 65)) || decide (90 < (u.toNat : Int)))) (fun hcut => bool_want (b := ((((u :: t).length : Int) == 0) || decide (20 < ((u :: t).length : Int))) || decide ((u.toNat : Int) < 65)) false (fun hg => ?_) (fun hg => ?_)) ?_)
    · refine st_sk rfl rfl hg ?_
      refine st_sk rfl rfl hg ?_
      refine st_sk rfl rfl hg ?_
      refine st_v (v_pick_true (bool_ev rfl hg) rfl) ?_
      exact hcut _ (ssub_head (by first | rfl | (rw [hg]; rfl) | simp_all) (ssub_skip rfl (ssub_skip rfl (ssub_skip rfl (ssub_refl)))))
    · skip
      refine st_vg rfl (bool_get rfl hg) (v_move rfl) (st_vg rfl (bool_get rfl hg) (v_sindex (k := 0) rfl rfl Tryz.underlying9 rfl rfl) (st_vg rfl (bool_get rfl hg) (v_gtr rfl rfl) (st_v (v_pick_false (bool_ev rfl hg) rfl) ?_)))
      exact hcut _ (ssub_head (by first | rfl | (rw [hg]; rfl) | simp_all) (ssub_skip rfl (ssub_skip rfl (ssub_skip rfl (ssub_refl)))))
    refine st_nil (nx_kp [0, 2, 24] rfl (nx_then (cd_cond rfl (fun hx => ?_) (fun hx => ?_))))
    · skip
      rw [named_no hx]
      refine cd_seq (cd_region (st_v (v_assign rfl) (st_nil (nx_kp [2] rfl (nx_then (cd_ret (xt_ret_then ?_)))))))
      exact xt_rt rfl ⟨rfl, rfl⟩ (by (repeat (refine Sub.sel (by repeat (first | exact Sel.here | apply Sel.there)) ?_)); (repeat apply Sub.cons); first | exact Sub.refl _ | exact Sub.nil _)
    · skip
      have hl20 : (u :: t).length ≤ 20 := by
        simp only [Bool.or_eq_false_iff, decide_eq_false_iff_not] at hx
        omega
      have hyes := named_yes hx
      have hodd := @named_odd u t
      generalize hs : u :: t = s at *
      refine cd_skip (xt_then (cd_seq (cd_seq (cd_region (st_v (v_assign rfl) (st_nil (nx_kp [0, 2, 3] rfl (nx_then (cd_block (cd_lq (σ := Nat) (fun i => [(0, sv s), (3, .int .i64 (i : Nat))]) (fun _ => hr) (fun i => i ≤ s.length ∧ ∀ (j : Nat) c, j < i → s[j]? = some c → okB c = true) (fun i => s.length - i) 0 ⟨Nat.zero_le _, fun j c hj => by omega⟩ ?_))))))))))
      rintro i ⟨hi, hok⟩
      refine cd_seq (cd_seq (cd_region (st_v (v_move rfl) (st_v (v_move rfl) (st_v (v_slen rfl Tryz.underlying9) (st_v (v_lss rfl rfl) (st_nil (nx_kp [0, 3, 28] rfl (nx_then (cd_cond rfl (fun hd => ?_) (fun hd => ?_)))))))))))
      · skip
        have hlt : i < s.length := by simpa using hd
        have hci := List.getElem?_eq_getElem hlt
        have hcm : s[i] ∈ s := List.getElem_mem hlt
        generalize s[i] = c at *
        refine cd_skip (xt_then (cd_seq (cd_block (cd_seq (cd_region (st_v (v_move rfl) (st_v (v_move rfl) (st_v (v_sindex (k := i) rfl rfl Tryz.underlying9 rfl hci) (st_v (v_geq rfl rfl) (st_v (v_move rfl) (st_cut (k := 10) (d := 40) (v := .bool (decide (65 ≤ (c.toNat : Int)) && decide ((c.toNat : Int) ≤ 90))) (fun hcut => bool_want (b := decide (65 ≤ (c.toNat : Int))) true (fun hg => ?_) (fun hg => ?_)) ?_)))))))))))
        · refine st_sk rfl rfl hg ?_
          refine st_sk rfl rfl hg ?_
          refine st_sk rfl rfl hg ?_
          refine st_sk rfl rfl hg ?_
          refine st_v (v_pick_false (bool_ev rfl hg) rfl) ?_
          exact hcut _ (ssub_head (by first | rfl | (rw [hg]; rfl) | simp_all) (ssub_skip rfl (ssub_skip rfl (ssub_skip rfl (ssub_skip rfl (ssub_refl))))))
        · skip
          refine st_vg rfl (bool_get rfl hg) (v_move rfl) (st_vg rfl (bool_get rfl hg) (v_move rfl) (st_vg rfl (bool_get rfl hg) (v_sindex (k := i) rfl rfl Tryz.underlying9 rfl hci) (st_vg rfl (bool_get rfl hg) (v_leq rfl rfl) (st_v (v_pick_true (bool_ev rfl hg) rfl) ?_))))
          exact hcut _ (ssub_head (by first | rfl | (rw [hg]; rfl) | simp_all) (ssub_skip rfl (ssub_skip rfl (ssub_skip rfl (ssub_skip rfl (ssub_refl))))))
        refine st_v (v_assign rfl) (st_nil (nx_kp [0, 3, 4] rfl (nx_then (cd_seq (cd_region (st_v (v_move rfl) (st_v (v_move rfl) (st_v (v_sindex (k := i) rfl rfl Tryz.underlying9 rfl hci) (st_v (v_geq rfl rfl) (st_v (v_move rfl) (st_cut (k := 10) (d := 50) (v := .bool (decide (48 ≤ (c.toNat : Int)) && decide ((c.toNat : Int) ≤ 57))) (fun hcut => bool_want (b := decide (48 ≤ (c.toNat : Int))) true (fun hg => ?_) (fun hg => ?_)) ?_)))))))))))
        · refine st_sk rfl rfl hg ?_
          refine st_sk rfl rfl hg ?_
          refine st_sk rfl rfl hg ?_
          refine st_sk rfl rfl hg ?_
          refine st_v (v_pick_false (bool_ev rfl hg) rfl) ?_
          exact hcut _ (ssub_head (by first | rfl | (rw [hg]; rfl) | simp_all) (ssub_skip rfl (ssub_skip rfl (ssub_skip rfl (ssub_skip rfl (ssub_refl))))))
        · skip
          refine st_vg rfl (bool_get rfl hg) (v_move rfl) (st_vg rfl (bool_get rfl hg) (v_move rfl) (st_vg rfl (bool_get rfl hg) (v_sindex (k := i) rfl rfl Tryz.underlying9 rfl hci) (st_vg rfl (bool_get rfl hg) (v_leq rfl rfl) (st_v (v_pick_true (bool_ev rfl hg) rfl) ?_))))
          exact hcut _ (ssub_head (by first | rfl | (rw [hg]; rfl) | simp_all) (ssub_skip rfl (ssub_skip rfl (ssub_skip rfl (ssub_skip rfl (ssub_refl))))))
        refine st_v (v_assign rfl) (st_nil (nx_kp [0, 3, 4, 5] rfl (nx_then (cd_seq (cd_region (st_v (v_move rfl) (st_v (v_not rfl) (st_v (v_move rfl) (st_cut (k := 6) (d := 56) (v := .bool ((!(decide (65 ≤ (c.toNat : Int)) && decide ((c.toNat : Int) ≤ 90))) && !(decide (48 ≤ (c.toNat : Int)) && decide ((c.toNat : Int) ≤ 57)))) (fun hcut => bool_want (b := (!(decide (65 ≤ (c.toNat : Int)) && decide ((c.toNat : Int) ≤ 90)))) true (fun hg => ?_) (fun hg => ?_)) ?_)))))))))
        · refine st_sk rfl rfl hg ?_
          refine st_sk rfl rfl hg ?_
          refine st_v (v_pick_false (bool_ev rfl hg) rfl) ?_
          exact hcut _ (ssub_head (by first | rfl | (rw [hg]; rfl) | simp_all) (ssub_skip rfl (ssub_skip rfl (ssub_refl))))
        · skip
          refine st_vg rfl (bool_get rfl hg) (v_move rfl) (st_vg rfl (bool_get rfl hg) (v_not rfl) (st_v (v_pick_true (bool_ev rfl hg) rfl) ?_))
          exact hcut _ (ssub_head (by first | rfl | (rw [hg]; rfl) | simp_all) (ssub_skip rfl (ssub_skip rfl (ssub_refl))))
        refine st_v (v_move rfl) (st_cut (k := 12) (d := 62) (v := .bool (((!(decide (65 ≤ (c.toNat : Int)) && decide ((c.toNat : Int) ≤ 90))) && !(decide (48 ≤ (c.toNat : Int)) && decide ((c.toNat : Int) ≤ 57))) && ((c.toNat : Int) != 95))) (fun hcut => bool_want (b := ((!(decide (65 ≤ (c.toNat : Int)) && decide ((c.toNat : Int) ≤ 90))) && !(decide (48 ≤ (c.toNat : Int)) && decide ((c.toNat : Int) ≤ 57)))) true (fun hg => ?_) (fun hg => ?_)) ?_)
        · refine st_sk rfl rfl hg ?_
          refine st_sk rfl rfl hg ?_
          refine st_sk rfl rfl hg ?_
          refine st_sk rfl rfl hg ?_
          refine st_v (v_pick_false (bool_ev rfl hg) rfl) ?_
          exact hcut _ (ssub_head (by first | rfl | (rw [hg]; rfl) | simp_all) (ssub_skip rfl (ssub_skip rfl (ssub_skip rfl (ssub_skip rfl (ssub_refl))))))
        · skip
          refine st_vg rfl (bool_get rfl hg) (v_move rfl) (st_vg rfl (bool_get rfl hg) (v_move rfl) (st_vg rfl (bool_get rfl hg) (v_sindex (k := i) rfl rfl Tryz.underlying9 rfl hci) (st_vg rfl (bool_get rfl hg) (v_neq rfl rfl) (st_v (v_pick_true (bool_ev rfl hg) rfl) ?_))))
          exact hcut _ (ssub_head (by first | rfl | (rw [hg]; rfl) | simp_all) (ssub_skip rfl (ssub_skip rfl (ssub_skip rfl (ssub_skip rfl (ssub_refl))))))
        refine st_nil (nx_kp [0, 3, 62] rfl (nx_then ?_))
        rw [ok_odd]
        refine cd_cond rfl (fun hc => ?_) (fun hc => ?_)
        · skip
          have hc : okB c = false := by simpa using hc
          rw [hodd hcm hc]
          refine cd_seq (cd_region (st_v (v_assign rfl) (st_nil (nx_kp [2] rfl (nx_then (cd_ret (xt_ret_block (xt_ret_then (xt_ret_then (xt_ret_block (xt_ret_then ?_)))))))))))
          exact xt_rt rfl ⟨rfl, rfl⟩ (by (repeat (refine Sub.sel (by repeat (first | exact Sel.here | apply Sel.there)) ?_)); (repeat apply Sub.cons); first | exact Sub.refl _ | exact Sub.nil _)
        · skip
          have hc : okB c = true := by simpa using hc
          refine cd_skip (xt_normal_block (xt_then (cd_region (st_v (v_move rfl) (st_v (v_add rfl rfl (by unfold I64 at *; omega)) (st_v (v_assign rfl) (st_nil (nx_kp [0, 3] rfl (nx_xt (xt_aq (i + 1) ⟨hlt, fun j c' hj hc' => ?_⟩ (by show _ - _ < _ - _; omega)))))))))))
          by_cases hji : j = i
          · subst hji; rw [hci] at hc'; cases hc'; exact hc
          · exact hok j c' (by omega) hc'
      · skip
        have hie : i = s.length := by have : ¬ i < s.length := by simpa using hd
                                      omega
        rw [hyes fun c hc => by
          obtain ⟨j, hj, rfl⟩ := List.getElem_of_mem hc
          exact hok j _ (by omega) (List.getElem?_eq_getElem hj)]
        refine cd_exit (xt_exit_then (xt_exit_then (xt_exit_block (xt_then (cd_seq (cd_region (st_v (v_move rfl) (st_clr rfl rfl en112 rfl (reserved_ct s) ?_))))))))
        refine st_v (v_assign rfl) (st_nil (nx_kp [6] rfl (nx_then (cd_seq (cd_region (st_v (v_move rfl) (st_v (v_not rfl) (st_v (v_assign rfl) (st_nil (nx_kp [2] rfl (nx_then (cd_ret ?_))))))))))))
        exact xt_rt rfl ⟨rfl, rfl⟩ (by (repeat (refine Sub.sel (by repeat (first | exact Sel.here | apply Sel.there)) ?_)); (repeat apply Sub.cons); first | exact Sub.refl _ | exact Sub.nil _)
theorem idx_le {l : Sys} {i : Nat} {x : Cls} (hx : l[i]? = some x) : ∃ k, idx l x.name = some k ∧ k ≤ i := by
  cases hh : idx l x.name with
  | none =>
    unfold idx at hh
    rw [List.findIdx?_eq_none_iff] at hh
    have := hh x (List.mem_of_getElem? hx)
    simp at this
  | some k =>
    refine ⟨k, rfl, ?_⟩
    obtain ⟨_, _, h3⟩ := List.findIdx?_eq_some_iff_getElem.1 hh
    rcases Nat.lt_or_ge i k with h | h
    · have := h3 i h
      obtain ⟨_, he⟩ := List.getElem?_eq_some_iff.1 hx
      rw [he] at this; simp at this
    · exact h
section
variable {S : Res} {v : Value} {l : Sys}
set_option maxRecDepth 100000 in
theorem aloneS_ct (hv : sysR S v l) (hl : l.length ≤ 1000000) {i : Nat} {x : Cls} (hx : l[i]? = some x) : Reads Tryz.prog 66 #[v, .int .i64 (i : Int)] [S] (.int .i64 (alone l i x)) := by
  obtain ⟨la, cap, rfl, _⟩ := id hv
  obtain ⟨hil, _⟩ := List.getElem?_eq_some_iff.1 hx
  obtain ⟨b, o, cap2, d, f, pa, pc, c2, fa, fc, j2, hv2, hrd, hP, hone⟩ := sys_at hv hx
  obtain ⟨ki, hki, hkle⟩ := idx_le hx
  have hix : ixN l x.name = (ki : Int) := by unfold ixN; rw [hki]
  refine ct_of (n := 66) Tryz.func66 rfl rfl (len rfl) fun hr w0 => ?_
  refine cd_seq (cd_region (st_v (v_assign rfl) (st_nil (nx_then (cd_seq (cd_seq (cd_region (st_v (v_move rfl) (st_v (v_move rfl) (st_v (v_indexAddr (k := i) (congrArg some hv2) rfl sl22 rfl hil rfl) (st_v (v_fieldAddr rfl fa29_3 rfl) (st_v (v_ldy rfl ld24) ?_))))))))))))
  refine st_v (v_len rfl Tryz.underlying24) (st_v (v_gtr rfl rfl) (st_nil (nx_kp [0, 1, 4, 14] rfl (nx_then (cd_cond rfl (fun h4 => ?_) (fun h4 => ?_))))))
  · skip
    have h4 : 4 < x.parents.length := by have : (4 : Int) < x.parents.length := by simpa using h4
                                         omega
    rw [show alone l i x = 3 by unfold alone; rw [if_pos h4]]
    refine cd_seq (cd_region (st_v (v_assign rfl) (st_nil (nx_kp [4] rfl (nx_then (cd_ret (xt_ret_then ?_)))))))
    exact xt_rt rfl ⟨rfl, rfl⟩ (by (repeat (refine Sub.sel (by repeat (first | exact Sel.here | apply Sel.there)) ?_)); (repeat apply Sub.cons); first | exact Sub.refl _ | exact Sub.nil _)
  · skip
    have h4 : ¬ 4 < x.parents.length := by have : ¬ (4 : Int) < x.parents.length := by simpa using h4
                                           omega
    refine cd_skip (xt_then (cd_seq (cd_region (st_v (v_move rfl) (st_v (v_move rfl) (st_v (v_indexAddr (k := i) (congrArg some hv2) rfl sl22 rfl hil rfl) (st_v (v_fieldAddr rfl fa29_0 rfl) (st_v (v_ldy rfl ld9) ?_))))))))
    refine st_clr rfl rfl en91 rfl (namedS_ct x.name) ?_
    refine st_v (v_assign rfl) (st_nil (nx_kp [0, 1, 4, 5] rfl (nx_then (cd_seq (cd_seq (cd_region (st_v (v_move rfl) (st_v (v_not rfl) (st_nil (nx_kp [0, 1, 4, 22] rfl (nx_then (cd_cond rfl (fun hn => ?_) (fun hn => ?_)))))))))))))
    · skip
      have hn : named x.name = false := by simpa using hn
      rw [show alone l i x = 4 by unfold alone; rw [if_neg h4, if_pos hn]]
      refine cd_seq (cd_region (st_v (v_assign rfl) (st_nil (nx_kp [4] rfl (nx_then (cd_ret (xt_ret_then ?_)))))))
      exact xt_rt rfl ⟨rfl, rfl⟩ (by (repeat (refine Sub.sel (by repeat (first | exact Sel.here | apply Sel.there)) ?_)); (repeat apply Sub.cons); first | exact Sub.refl _ | exact Sub.nil _)
    · skip
      have hn : named x.name = true := by simpa using hn
      refine cd_skip (xt_then (cd_seq (cd_seq (cd_region (st_v (v_move rfl) (st_v (v_move rfl) (st_v (v_move rfl) (st_v (v_indexAddr (k := i) (congrArg some hv2) rfl sl22 rfl hil rfl) (st_v (v_fieldAddr rfl fa29_0 rfl) (st_v (v_ldy rfl ld9) ?_))))))))))
      refine st_clr rfl rfl en67 rfl (index_ct hv x.name (by omega)) ?_
      rw [hix]
      refine st_v (v_move rfl) (st_v (v_lss rfl rfl) (st_nil (nx_kp [0, 1, 4, 31] rfl (nx_then (cd_cond rfl (fun hk => ?_) (fun hk => ?_))))))
      · skip
        have hk : ki < i := by have : (ki : Int) < i := by simpa using hk
                               omega
        rw [show alone l i x = 6 by unfold alone; rw [if_neg h4, if_neg (by rw [hn]; decide), if_pos (.inl (by rw [hki]; intro e; cases e; omega))]]
        refine cd_seq (cd_region (st_v (v_assign rfl) (st_nil (nx_kp [4] rfl (nx_then (cd_ret (xt_ret_then ?_)))))))
        exact xt_rt rfl ⟨rfl, rfl⟩ (by (repeat (refine Sub.sel (by repeat (first | exact Sel.here | apply Sel.there)) ?_)); (repeat apply Sub.cons); first | exact Sub.refl _ | exact Sub.nil _)
      · skip
        have hk : ki = i := by have : ¬ (ki : Int) < i := by simpa using hk
                               omega
        subst hk
        have ha6 : ¬ x.parents.Nodup → alone l ki x = 6 := fun h => by unfold alone; rw [if_neg h4, if_neg (by rw [hn]; decide), if_pos (.inr h)]
        have ha0 : x.parents.Nodup → alone l ki x = 0 := fun h => alone_zero.2 ⟨by omega, hn, hki, h⟩
        refine cd_skip (xt_then (cd_seq (cd_seq (cd_region (st_v (v_assign rfl) (st_nil (nx_kp [0, 1, 4, 6] rfl (nx_then (cd_block (cd_lq (σ := Nat) (fun k => [(0, .slice la l.length cap), (1, .int .i64 (ki : Nat)), (6, .int .i64 (k : Nat))]) (fun _ => S :: hr) (fun k => k ≤ x.parents.length ∧ ∀ (a b : Nat) (ha : a < x.parents.length) (hb : b < x.parents.length), a < b → b < k → x.parents[a] ≠ x.parents[b]) (fun k => x.parents.length - k) 0 ⟨Nat.zero_le _, fun a b ha hb h1 h2 => by omega⟩ ?_))))))))))
        rintro k ⟨hkl, hne⟩
        refine cd_seq (cd_seq (cd_region (st_v (v_move rfl) (st_v (v_move rfl) (st_v (v_move rfl) (st_v (v_indexAddr (k := ki) (congrArg some hv2) rfl sl22 rfl hil rfl) (st_v (v_fieldAddr rfl fa29_3 rfl) (st_v (v_ldy rfl ld24) ?_))))))))
        refine st_v (v_len rfl Tryz.underlying24) (st_v (v_lss rfl rfl) (st_nil (nx_kp [0, 1, 6, 39] rfl (nx_then (cd_cond rfl (fun hd => ?_) (fun hd => ?_))))))
        · skip
          have hklt : k < x.parents.length := by simpa using hd
          obtain ⟨pb, po, pcap, q1, q2, q3, q4, q5, hpv, hprd, hpone⟩ := par_at hP (List.getElem?_eq_getElem hklt)
          refine cd_skip (xt_then (cd_seq (cd_block (cd_seq (cd_region (st_v (v_assign rfl) (st_nil (nx_kp [0, 1, 6, 7] rfl (nx_then (cd_block (cd_lq (σ := Nat) (fun j => [(0, .slice la l.length cap), (1, .int .i64 (ki : Nat)), (6, .int .i64 (k : Nat)), (7, .int .i64 (j : Nat))]) (fun _ => S :: hr) (fun j => j ≤ k ∧ ∀ (a : Nat) (ha : a < x.parents.length), a < j → x.parents[a] ≠ x.parents[k]) (fun j => k - j) 0 ⟨Nat.zero_le _, fun a ha h1 => by omega⟩ ?_)))))))))))
          rintro j ⟨hjk, hnj⟩
          refine cd_seq (cd_seq (cd_region (st_v (v_move rfl) (st_v (v_move rfl) (st_v (v_lss rfl rfl) (st_nil (nx_kp [0, 1, 6, 7, 44] rfl (nx_then (cd_cond rfl (fun hd2 => ?_) (fun hd2 => ?_))))))))))
          · skip
            have hjlt : j < k := by have : (j : Int) < k := by simpa using hd2
                                    omega
            have hjl : j < x.parents.length := by omega
            obtain ⟨ub, uo, ucap, r1, r2, r3, r4, r5, huv, hurd, huone⟩ := par_at hP (List.getElem?_eq_getElem hjl)
            refine cd_skip (xt_then (cd_seq (cd_block (cd_seq (cd_drawh (ork [(0, 2), (1, 2), (2, 2), (3, 2), (4, 1), (5, 2), (6, 2), (7, 2), (8, 1), (9, 2), (10, 2), (11, 2), (12, 2), (13, 1), (14, 2), (15, 2), (16, 2), (17, 1), (18, 1)] .nil) (fun _ => true) mixed (by kernel_rfl) ?_)))))
            refine dp_v rfl (v_move rfl) (dp_v rfl (v_move rfl) (dp_v rfl (v_indexAddr (k := ki) (congrArg some hv2) rfl sl22 rfl hil rfl) (dp_v rfl (v_fieldAddr rfl fa29_3 rfl) (dr_v rfl (v_ldy rfl ld24) ?_))))
            refine dp_v rfl (v_move rfl) (dp_v rfl (v_indexAddr (k := j) (congrArg some huv) rfl sl24 rfl hjl rfl) (dp_v rfl (v_fieldAddr rfl fa93_0 rfl) (dr_v rfl (v_ldy rfl ld9) ?_)))
            refine dp_v rfl (v_move rfl) (dp_v rfl (v_move rfl) (dp_v rfl (v_indexAddr (k := ki) (congrArg some hv2) rfl sl22 rfl hil rfl) (dp_v rfl (v_fieldAddr rfl fa29_3 rfl) (dr_v rfl (v_ldy rfl ld24) ?_))))
            refine dp_v rfl (v_move rfl) (dp_v rfl (v_indexAddr (k := k) (congrArg some hpv) rfl sl24 rfl hklt rfl) (dp_v rfl (v_fieldAddr rfl fa93_0 rfl) (dr_v rfl (v_ldy rfl ld9) ?_)))
            refine dr_v rfl (v_seql rfl rfl) (dr_nil (nx_kp [0, 1, 6, 7, 65] rfl (nx_then (cd_cond rfl (fun he => ?_) (fun he => ?_)))))
            · skip
              have he : x.parents[j] = x.parents[k] := by simpa using he
              rw [ha6 fun hnd => List.pairwise_iff_getElem.1 (List.nodup_iff_pairwise_ne.1 hnd) j k hjl hklt hjlt he]
              refine cd_seq (cd_region (st_v (v_assign rfl) (st_nil (nx_kp [4] rfl (nx_then (cd_ret (xt_ret_block (xt_ret_then (xt_ret_then (xt_ret_block (xt_ret_block (xt_ret_then (xt_ret_then (xt_ret_block (xt_ret_then ?_)))))))))))))))
              exact xt_rt rfl ⟨rfl, rfl⟩ (by (repeat (refine Sub.sel (by repeat (first | exact Sel.here | apply Sel.there)) ?_)); (repeat apply Sub.cons); first | exact Sub.refl _ | exact Sub.nil _)
            · skip
              have he : x.parents[j] ≠ x.parents[k] := by simpa using he
              refine cd_skip (xt_normal_block (xt_then (cd_region (st_v (v_move rfl) (st_v (v_add rfl rfl (by unfold I64 at *; omega)) (st_v (v_assign rfl) (st_nil (nx_kp [0, 1, 6, 7] rfl (nx_xt (xt_aq (j + 1) ⟨hjlt, fun a ha h1 => ?_⟩ (by show _ - _ < _ - _; omega)))))))))))
              by_cases haj : a = j
              · subst haj; exact he
              · exact hnj a ha (by omega)
          · skip
            have hje : j = k := by have : ¬ (j : Int) < k := by simpa using hd2
                                   omega
            refine cd_exit (xt_exit_then (xt_exit_then (xt_exit_block (xt_normal_block (xt_then (cd_region (st_v (v_move rfl) (st_v (v_add rfl rfl (by unfold I64 at *; omega)) (st_v (v_assign rfl) (st_nil (nx_kp [0, 1, 6] rfl (nx_xt (xt_aq (k + 1) ⟨hklt, fun a b ha hb h1 h2 => ?_⟩ (by show _ - _ < _ - _; omega))))))))))))))
            by_cases hbk : b = k
            · subst hbk; exact hnj a ha (by omega)
            · exact hne a b ha hb h1 (by omega)
        · skip
          have hke : k = x.parents.length := by have : ¬ k < x.parents.length := by simpa using hd
                                                omega
          rw [ha0 (List.nodup_iff_pairwise_ne.2 (List.pairwise_iff_getElem.2 fun a b ha hb h1 => hne a b ha hb h1 (by omega)))]
          refine cd_exit (xt_exit_then (xt_exit_then (xt_exit_block (xt_then (cd_seq (cd_region (st_v (v_assign rfl) (st_nil (nx_kp [4] rfl (nx_then (cd_ret ?_)))))))))))
          exact xt_rt rfl ⟨rfl, rfl⟩ (by (repeat (refine Sub.sel (by repeat (first | exact Sel.here | apply Sel.there)) ?_)); (repeat apply Sub.cons); first | exact Sub.refl _ | exact Sub.nil _)
end
end Go.Hr
namespace Go.Ck
open Go Go.RowKit
theorem v_app_nils {P : Program} {e : Env} {h : SH} {t E ty : TypeId} {x y : Operand} {z : Value} {sz bytes : Nat} {a : Option Addr} {n cp : Nat} (hx : e.ev? x = some (.slice a n cp)) (hy : e.ev? y = some (.slice none 0 0)) (hT : P.underlying t = some (.slice E)) (hE : Inf P E z sz bytes) (hn : n ≤ cp) : Vop P e h (.call { callee := .builtin .append, args := #[x, y], argTypes := #[t, t] }) ty (.slice a n cp) :=
  ⟨by simp, by simp, fun ρ w d pos after g hρ _ => by
    obtain ⟨i, hi, hz, hisz, hiby⟩ := hE.parts
    cases a <;> simp [execOp, resolve, invoke, builtin, hρ x _ hx, hρ y _ hy, Builtin.append_, run_underlying hT, sizeOf, typeInfo, hi, Builtin.lenOf, Builtin.firstCells, loadCells, loadCellsFrom, hn, storeCells]⟩
section
variable {α : Type} {S : Res} {sz : Nat} {X : List Value → α → Prop}
theorem Row.take {a : Option Addr} {n cp k : Nat} {l : List α} (h : Row S sz X (.slice a n cp) l) (hk : k ≤ l.length) : Row S sz X (.slice a k cp) (l.take k) := by
  obtain ⟨a', cap, he, h2, h3, h4, h5⟩ := h
  cases he
  refine ⟨a, cp, by rw [List.length_take, Nat.min_eq_left hk], by rw [List.length_take]; omega, h3, h4, fun i x hi => ?_⟩
  rw [List.getElem?_take] at hi
  split at hi
  · exact h5 i x hi
  · cases hi
theorem Row.drop {b o n cp k : Nat} {l : List α} (h : Row S sz X (.slice (some ⟨b, o, none⟩) n cp) l) (hk : k ≤ l.length) : Row S sz X (.slice (some ⟨b, if cp = k then o else o + k * sz, none⟩) (n - k) (cp - k)) (l.drop k) := by
  obtain ⟨a', cap, he, h2, h3, h4, h5⟩ := h
  cases he
  refine ⟨_, _, by rw [List.length_drop], by rw [List.length_drop]; omega, by omega, (fun h => by cases h), fun i x hi => ?_⟩
  rw [List.getElem?_drop] at hi
  have hlt := (List.getElem?_eq_some_iff.1 hi).1
  obtain ⟨b2, o2, us, e, h6, h7, h8⟩ := h5 (k + i) x hi
  cases e
  refine ⟨_, _, us, rfl, h6, ?_, h8⟩
  rw [if_neg (by omega), Nat.add_assoc, ← Nat.add_mul]; exact h7
variable {c : Cx} {ops : Array Oper} {K : Act → World → Prop} {rest : List Oper} {e : Env} {h h' h'' : SH}
/-- append(v, l...) -/
theorem st_apr {l : List α} {v v1 z : Value} {E t ty : TypeId} {bytes d : Nat} {x y : Operand} {pos : String} {after : Array Edge} {rows : List (List Value)} (hv : Row S sz X v l)
    (hx : e.ev? x = some v1) (hy : e.ev? y = some v) (ht : c.P.underlying t = some (.slice E)) (hE : Inf c.P E z sz bytes) (hzs : z.cells.size = sz) (hsz : 0 < sz)
    (hs : Sel h (VR v1 E sz rows) h') (hS : Sel h' S h'') (h1 : ∀ us x, x ∈ l → X us x → ∀ u ∈ us, u.oneCell' = true) (hb : (rows.length + l.length) * bytes ≤ 140737488355328) (h63 : rows.length + l.length ≤ 9223372036854775807) (hd : d < c.n)
    (hnx : ∀ v' news, v'.oneCell' = true → news.length = l.length → (∀ r ∈ news, r.length = sz) → (∀ (i : Nat) us x, news[i]? = some us → l[i]? = some x → X us x) → St c ops K rest ((d, v') :: e) (VR v' E sz (rows ++ news) :: h')) :
    St c ops K (⟨some d, .call { callee := .builtin .append, args := #[x, y], argTypes := #[t, t] }, ty, pos, after, none⟩ :: rest) e h := by
  obtain ⟨a, cap, rfl, hlc, hcm, hnone, hel⟩ := id hv
  have key : St c ops K (⟨some d, .call { callee := .builtin .append, args := #[x, y], argTypes := #[t, t] }, ty, pos, after, none⟩ :: rest) e (VR v1 E sz rows :: h') := by
    cases a with
    | none =>
      have hc0 : cap = 0 := hnone rfl
      have hl0 : l = [] := List.eq_nil_of_length_eq_zero (by omega)
      subst hl0 hc0
      refine st_ok .here fun ⟨f, hf⟩ => ?_
      have hn := hnx v1 []
      rw [List.append_nil] at hn
      rcases VR.form hf with ⟨rfl, g1⟩ | ⟨b, o, cp, rfl, g1, g2⟩
      · exact st_val (v_app_nils hx hy ht hE (Nat.le_refl _)) hd (hn rfl rfl (by simp) fun i us x h => by simp at h)
      · exact st_val (v_app_nils hx hy ht hE g1) hd (hn rfl rfl (by simp) fun i us x h => by simp at h)
    | some a =>
      obtain ⟨news, r1, r2, r3, r4⟩ := hv.cells
      exact st_appA news hx hy ht hE hzs hsz .here r2 r1 (fun j u hu => by obtain ⟨b2, o, hb2, hr⟩ := r4 j u hu; cases hb2; rw [Addr.add_lit]; exact ⟨S, _, .there hS, hr⟩) (fun u hu => by obtain ⟨us, h2, h3⟩ := List.mem_flatten.1 hu; obtain ⟨i, hi, rfl⟩ := List.mem_iff_getElem.1 h2; exact h1 _ l[i] (List.getElem_mem _) (r3 i _ _ (List.getElem?_eq_getElem hi) (List.getElem?_eq_getElem (by omega))) u h3) hb h63 hd fun v' hv' _ => hnx v' news hv' r1 r2 r3
  exact St.perm hs.perm key
end
end Go.Ck
namespace Go.Hr
open Go Go.RowKit Go.Ck Go.Proofs Go.Proofs.YtjgiaohieadeiaaGreat Fx
attribute [local irreducible] Go.Ck.Sub St Cd Xt Nx DrL LsW
theorem lexLt_cons_same {a : Nm} {x y : List Nm} : lexLt (a :: x) (a :: y) = lexLt x y := by simp [lexLt, lt_irrefl]
theorem lexLt_cons_ne {a b : Nm} {x y : List Nm} (h : a ≠ b) : lexLt (a :: x) (b :: y) = lt a b := by simp [lexLt, h]
theorem news_names {news : List (List Value)} {xs : List Nm} (h1 : news.length = xs.length) (h2 : ∀ (i : Nat) us x, news[i]? = some us → xs[i]? = some x → strC us x) : news = xs.map nC := by
  apply List.ext_getElem (by simpa using h1)
  intro i hi hi2
  rw [List.getElem_map]
  exact h2 i _ _ (List.getElem?_eq_getElem hi) (List.getElem?_eq_getElem (by omega))
theorem str_one {us : List Value} {x : Nm} (h : strC us x) : ∀ u ∈ us, u.oneCell' = true := fun u hu => by
  unfold strC at h
  subst h
  simp at hu
  subst hu; rfl
section
variable {S S' : Res} {v v' : Value}
set_option maxRecDepth 100000 in
theorem Before_ct {xs ys : List Nm} (hv : nmsR S v xs) (hv' : nmsR S' v' ys) (hl : xs.length ≤ 1099511627776) (hl' : ys.length ≤ 1099511627776) : Reads Tryz.prog 93 #[v, v'] [S, S'] (.bool (lexLt xs ys)) := by
  obtain ⟨a, cap, rfl, _⟩ := id hv
  obtain ⟨a', cap', rfl, _⟩ := id hv'
  refine ct_of (n := 41) Tryz.func93 rfl rfl (len rfl) fun hr w0 => ?_
  refine cd_seq (cd_region (st_v (v_assign rfl) (st_nil (nx_then (cd_seq (cd_seq (cd_region (st_v (v_assign rfl) (st_nil (nx_then (cd_block (cd_lq (σ := Nat) (fun i => [(0, .slice a xs.length cap), (1, .slice a' ys.length cap'), (5, .int .i64 (i : Nat))]) (fun _ => S :: S' :: hr) (fun i => i ≤ xs.length ∧ i ≤ ys.length ∧ lexLt xs ys = lexLt (xs.drop i) (ys.drop i)) (fun i => xs.length - i) 0 ⟨Nat.zero_le _, Nat.zero_le _, rfl⟩ ?_))))))))))))
  rintro i ⟨hi, hi', hne⟩
  refine cd_seq (cd_seq (cd_region (st_v (v_move rfl) (st_v (v_move rfl) (st_v (v_len rfl Tryz.underlying25) (st_v (v_lss rfl rfl) (st_v (v_move rfl) (st_cut (k := 10) (d := 15) (v := .bool (decide ((i : Int) < xs.length) && decide ((i : Int) < ys.length))) (fun hcut => bool_want (b := decide ((i : Int) < xs.length)) true (fun hg => ?_) (fun hg => ?_)) ?_))))))))
  · refine st_sk rfl rfl hg ?_
    refine st_sk rfl rfl hg ?_
    refine st_sk rfl rfl hg ?_
    refine st_sk rfl rfl hg ?_
    refine st_v (v_pick_false (bool_ev rfl hg) rfl) ?_
    exact hcut _ (ssub_head (by first | rfl | (rw [hg]; rfl) | simp_all) (ssub_skip rfl (ssub_skip rfl (ssub_skip rfl (ssub_skip rfl (ssub_refl))))))
  · skip
    refine st_vg rfl (bool_get rfl hg) (v_move rfl) (st_vg rfl (bool_get rfl hg) (v_move rfl) (st_vg rfl (bool_get rfl hg) (v_len rfl Tryz.underlying25) (st_vg rfl (bool_get rfl hg) (v_lss rfl rfl) (st_v (v_pick_true (bool_ev rfl hg) rfl) ?_))))
    exact hcut _ (ssub_head (by first | rfl | (rw [hg]; rfl) | simp_all) (ssub_skip rfl (ssub_skip rfl (ssub_skip rfl (ssub_skip rfl (ssub_refl))))))
  refine st_nil (nx_kp [0, 1, 5, 15] rfl (nx_then (cd_cond rfl (fun hd => ?_) (fun hd => ?_))))
  · skip
    have hlt : i < xs.length := by have := of_decide_eq_true (Bool.and_eq_true_iff.1 hd).1; omega
    have hlt' : i < ys.length := by have := of_decide_eq_true (Bool.and_eq_true_iff.1 hd).2; omega
    obtain ⟨b, o, cap2, hv2, hrd⟩ := nms_at hv (List.getElem?_eq_getElem hlt)
    obtain ⟨b', o', cap2', hv2', hrd'⟩ := nms_at hv' (List.getElem?_eq_getElem hlt')
    have e1 : xs.drop i = xs[i] :: xs.drop (i + 1) := (List.getElem_cons_drop hlt).symm
    have e2 : ys.drop i = ys[i] :: ys.drop (i + 1) := (List.getElem_cons_drop hlt').symm
    rw [e1, e2] at hne
    refine cd_skip (xt_then (cd_seq (cd_block (cd_seq (cd_drawh (ork [(0, 2), (1, 2), (2, 2), (3, 1), (4, 2), (5, 2), (6, 2), (7, 1), (8, 1)] .nil) (fun _ => true) mixed (by kernel_rfl) ?_)))))
    refine dp_v rfl (v_move rfl) (dp_v rfl (v_move rfl) (dp_v rfl (v_indexAddr (k := i) (congrArg some hv2) rfl sl25 rfl hlt rfl) (dr_v rfl (v_ldy rfl ld9) ?_)))
    refine dp_v rfl (v_move rfl) (dp_v rfl (v_move rfl) (dp_v rfl (v_indexAddr (k := i) (congrArg some hv2') rfl sl25 rfl hlt' rfl) (dr_v rfl (v_ldy rfl ld9) ?_)))
    refine dr_v rfl (v_sneq rfl rfl) (dr_nil (nx_kp [0, 1, 5, 26] rfl (nx_then (cd_cond rfl (fun he => ?_) (fun he => ?_)))))
    · skip
      have he : xs[i] ≠ ys[i] := fun e => by rw [e] at he; simp at he
      rw [lexLt_cons_ne he] at hne
      rw [hne]
      refine cd_seq (cd_drawh (ork [(0, 2), (1, 2), (2, 2), (3, 1), (4, 2), (5, 2), (6, 2), (7, 1), (8, 2), (9, 2)] .nil) (fun _ => true) mixed (by kernel_rfl) ?_)
      refine dp_v rfl (v_move rfl) (dp_v rfl (v_move rfl) (dp_v rfl (v_indexAddr (k := i) (congrArg some hv2) rfl sl25 rfl hlt rfl) (dr_v rfl (v_ldy rfl ld9) ?_)))
      refine dp_v rfl (v_move rfl) (dp_v rfl (v_move rfl) (dp_v rfl (v_indexAddr (k := i) (congrArg some hv2') rfl sl25 rfl hlt' rfl) (dr_v rfl (v_ldy rfl ld9) ?_)))
      refine dp_v rfl (v_slss rfl rfl) (dp_v rfl (v_assign rfl) (dr_nil (nx_kp [4] rfl (nx_then (cd_ret (xt_ret_block (xt_ret_then (xt_ret_then (xt_ret_block (xt_ret_then ?_))))))))))
      exact xt_rt rfl ⟨rfl, rfl⟩ (by (repeat (refine Sub.sel (by repeat (first | exact Sel.here | apply Sel.there)) ?_)); (repeat apply Sub.cons); first | exact Sub.refl _ | exact Sub.nil _)
    · skip
      have he : xs[i] = ys[i] := by simpa using he
      rw [he, lexLt_cons_same] at hne
      refine cd_skip (xt_normal_block (xt_then (cd_region (st_v (v_move rfl) (st_v (v_add rfl rfl (by unfold I64 at *; omega)) (st_v (v_assign rfl) (st_nil (nx_kp [0, 1, 5] rfl (nx_xt ?_)))))))))
      refine xt_aq (i + 1) ⟨hlt, hlt', hne⟩ (by show _ - _ < _ - _; omega)
  · skip
    refine cd_exit (xt_exit_then (xt_exit_then (xt_exit_block (xt_then (cd_seq (cd_region (st_v (v_move rfl) (st_v (v_len rfl Tryz.underlying25) (st_v (v_move rfl) (st_v (v_len rfl Tryz.underlying25) (st_v (v_lss rfl rfl) (st_v (v_assign rfl) (st_nil (nx_kp [4] rfl (nx_then ?_)))))))))))))))
    refine cd_ret ?_
    have hend : lexLt xs ys = decide ((xs.length : Int) < ys.length) := by
      rw [hne]
      rcases Nat.lt_or_ge i xs.length with h1 | h1
      · have h2 : i = ys.length := by
          rcases Bool.and_eq_false_iff.1 hd with h | h <;> have := of_decide_eq_false h <;> omega
        rw [List.drop_of_length_le (by omega : ys.length ≤ i)]
        rw [show decide ((xs.length : Int) < ys.length) = false by simp; omega]
        cases xs.drop i <;> rfl
      · rw [List.drop_of_length_le h1]
        rcases Nat.lt_or_ge i ys.length with h2 | h2
        · rw [← List.getElem_cons_drop h2]
          rw [show decide ((xs.length : Int) < ys.length) = true by simp; omega]
          rfl
        · rw [List.drop_of_length_le h2]
          rw [show decide ((xs.length : Int) < ys.length) = false by simp; omega]
          rfl
    rw [hend]
    exact xt_rt rfl ⟨rfl, rfl⟩ (by (repeat (refine Sub.sel (by repeat (first | exact Sel.here | apply Sel.there)) ?_)); (repeat apply Sub.cons); first | exact Sub.refl _ | exact Sub.nil _)
end
end Go.Hr
namespace Go.Hr
open Go Go.RowKit Go.Ck Go.Proofs Go.Proofs.YtjgiaohieadeiaaGreat Fx
attribute [local irreducible] Go.Ck.Sub St Cd Xt Nx DrL LsW
/-- Row by row. -/
def Cor {α : Type} (X : List Value → α → Prop) (rows : List (List Value)) (l : List α) : Prop := rows.length = l.length ∧ ∀ (i : Nat) us x, rows[i]? = some us → l[i]? = some x → X us x
section
variable {α : Type} {X X' : List Value → α → Prop} {r s : List (List Value)} {l m : List α}
theorem Cor.nil : Cor X [] ([] : List α) := ⟨rfl, fun i us x h => by simp at h⟩
theorem Cor.one {us : List Value} {x : α} (h : X us x) : Cor X [us] [x] := ⟨rfl, fun i us' x' h1 h2 => by
  have hi : i = 0 := by have := (List.getElem?_eq_some_iff.1 h1).1; simpa using this
  subst hi
  cases h1; cases h2; exact h⟩
theorem Cor.app (h1 : Cor X r l) (h2 : Cor X s m) : Cor X (r ++ s) (l ++ m) := ⟨by rw [List.length_append, List.length_append, h1.1, h2.1], fun i us x g1 g2 => by
  rcases Nat.lt_or_ge i r.length with h | h
  · rw [List.getElem?_append_left h] at g1
    rw [List.getElem?_append_left (by rw [← h1.1]; exact h)] at g2
    exact h1.2 i us x g1 g2
  · rw [List.getElem?_append_right h] at g1
    rw [List.getElem?_append_right (by rw [← h1.1]; exact h), ← h1.1] at g2
    exact h2.2 _ us x g1 g2⟩
theorem Cor.mono (h : Cor X r l) (hx : ∀ us x, X us x → X' us x) : Cor X' r l := ⟨h.1, fun i us x h1 h2 => hx _ _ (h.2 i us x h1 h2)⟩
end
theorem llC.mono {S S' : Res} (hr : ∀ p u, Rd S p u → Rd S' p u) {us : List Value} {xs : List Nm} (h : llC S us xs) : llC S' us xs := let ⟨u, h1, h2⟩ := h; ⟨u, h1, h2.mono hr⟩
theorem llC.one {S : Res} {us : List Value} {xs : List Nm} (h : llC S us xs) : ∀ u ∈ us, u.oneCell' = true := fun u hu => by
  obtain ⟨w, rfl, h2⟩ := h
  simp at hu
  subst hu; exact Row.one h2
theorem lastN_get {w : List Nm} (h : w ≠ []) : ∃ k, ∃ hk : k < w.length, w.length = k + 1 ∧ w[k] = lastN w := by
  have h0 := List.length_pos_iff.2 h
  refine ⟨w.length - 1, by omega, by omega, ?_⟩
  unfold lastN
  rw [List.getLastD_eq_getLast?, List.getLast?_eq_getElem?, List.getElem?_eq_getElem (by omega)]
  rfl
theorem ins1_skip {one : List Nm} : ∀ {xss : List (List Nm)} {i : Nat}, (∀ x ∈ xss.take i, lastN x ≠ lastN one) → ins1 xss one = xss.take i ++ ins1 (xss.drop i) one
  | [], i, _ => by simp
  | x :: t, 0, _ => by simp
  | x :: t, i + 1, h => by
    rw [List.take_succ_cons, List.drop_succ_cons, List.cons_append, ← ins1_skip (xss := t) (i := i) fun y hy => h y (by rw [List.take_succ_cons]; exact List.mem_cons_of_mem _ hy)]
    rw [ins1, if_neg (h x (by rw [List.take_succ_cons]; exact List.mem_cons_self))]
section
variable {A B : Res} {w ov : Value} {xss : List (List Nm)} {one : List Nm}
set_option maxRecDepth 100000 in
theorem first_ct (hv : llR A w xss) (ho : nmsR B ov one) (hne : one ≠ []) (hol : one.length ≤ 1099511627776) (hxs : ∀ x ∈ xss, x ≠ [] ∧ x.length ≤ 1099511627776) (hl : xss.length ≤ 1000000) : Ct Tryz.prog 113 #[w, ov] [A, B] fun u h' => ∃ T, h' = [T] ∧ u.oneCell' = true ∧ llR T u (ins1 xss one) := by
  obtain ⟨la, lcap, rfl, hlc, _⟩ := id hv
  obtain ⟨oa, ocap, rfl, _⟩ := id ho
  obtain ⟨ok, hok, hokl, hoe⟩ := lastN_get hne
  obtain ⟨ob, oo, ocap2, hov2, hord⟩ := nms_at ho (List.getElem?_eq_getElem hok)
  rw [hoe] at hord
  refine ct_of (n := 59) Tryz.func113 rfl rfl (len rfl) fun hr w0 => ?_
  refine cd_seq (cd_region (st_v (v_assign rfl) (st_nil (nx_then (cd_seq (cd_seq (cd_region (st_v (v_assign rfl) (st_nil (nx_then (cd_block (cd_lq (σ := Nat) (fun i => [(0, .slice la xss.length lcap), (1, .slice oa one.length ocap), (5, .int .i64 (i : Nat))]) (fun _ => A :: B :: hr) (fun i => i ≤ xss.length ∧ ∀ x ∈ xss.take i, lastN x ≠ lastN one) (fun i => xss.length - i) 0 ⟨Nat.zero_le _, fun x hx => by simp at hx⟩ ?_))))))))))))
  rintro i ⟨hi, hno⟩
  refine cd_seq (cd_seq (cd_region (st_v (v_move rfl) (st_v (v_move rfl) (st_v (v_len rfl Tryz.underlying54) (st_v (v_lss rfl rfl) (st_nil (nx_kp [0, 1, 5, 10] rfl (nx_then (cd_cond rfl (fun hd => ?_) (fun hd => ?_)))))))))))
  · skip
    have hlt : i < xss.length := by simpa using hd
    have hxi := List.getElem?_eq_getElem hlt
    obtain ⟨hx1, hx2⟩ := hxs _ (List.getElem_mem hlt)
    obtain ⟨b, o, cap2, u, hv2, hrd, hu⟩ := ll_at hv hxi
    have hdr := (List.getElem_cons_drop hlt).symm
    have hsk := ins1_skip hno
    rw [hdr, ins1] at hsk
    have htk := List.take_succ_eq_append_getElem hlt
    generalize xss[i] = z at *
    obtain ⟨ua, ucap, rfl, _⟩ := id hu
    obtain ⟨zk, hzk, hzkl, hze⟩ := lastN_get hx1
    obtain ⟨zb, zo, zcap2, hzv2, hzrd⟩ := nms_at hu (List.getElem?_eq_getElem hzk)
    rw [hze] at hzrd
    refine cd_skip (xt_then (cd_seq (cd_block (cd_seq (cd_drawh (ork [(0, 2), (1, 2), (2, 2), (3, 1), (4, 2), (5, 2), (6, 2), (7, 1), (8, 2), (9, 2), (10, 2), (11, 1), (12, 2), (13, 2), (14, 2), (15, 2), (16, 2), (17, 1), (18, 1)] .nil) (fun _ => true) mixed (by kernel_rfl) ?_)))))
    refine dp_v rfl (v_move rfl) (dp_v rfl (v_move rfl) (dp_v rfl (v_indexAddr (k := i) (congrArg some hv2) rfl sl54 rfl hlt rfl) (dr_v rfl (v_ldy rfl ld25) ?_)))
    refine dp_v rfl (v_move rfl) (dp_v rfl (v_move rfl) (dp_v rfl (v_indexAddr (k := i) (congrArg some hv2) rfl sl54 rfl hlt rfl) (dr_v rfl (v_ldy rfl ld25) ?_)))
    refine dp_v rfl (v_len rfl Tryz.underlying25) (dp_v rfl (v_sub rfl rfl (by unfold I64 at *; omega)) (dp_v rfl (v_indexAddr (k := zk) (congrArg some hzv2) rfl sl25 (by omega) hzk rfl) (dr_v rfl (v_ldy rfl ld9) ?_)))
    refine dp_v rfl (v_move rfl) (dp_v rfl (v_move rfl) (dp_v rfl (v_len rfl Tryz.underlying25) (dp_v rfl (v_sub rfl rfl (by unfold I64 at *; omega)) (dp_v rfl (v_indexAddr (k := ok) (congrArg some hov2) rfl sl25 (by omega) hok rfl) (dr_v rfl (v_ldy rfl ld9) ?_)))))
    refine dr_v rfl (v_seql rfl rfl) (dr_nil (nx_kp [0, 1, 5, 31] rfl (nx_then (cd_cond rfl (fun he => ?_) (fun he => ?_)))))
    · skip
      have he : lastN z = lastN one := by simpa using he
      rw [if_pos he] at hsk
      refine cd_seq (cd_region (st_v (v_move rfl) (st_v (v_move rfl) (st_v (v_move rfl) (st_v (v_indexAddr (k := i) (congrArg some hv2) rfl sl54 rfl hlt rfl) (st_v (v_ldy rfl ld25) ?_))))))
      refine st_clr rfl rfl en93 rfl (Before_ct ho hu hol hx2) ?_
      refine st_v (v_assign rfl) (st_nil (nx_kp [0, 1, 5, 6] rfl (nx_then (cd_seq (cd_seq (cd_region (st_v (v_move rfl) (st_nil (nx_kp [0, 1, 5, 38] rfl (nx_then (cd_cond rfl (fun hlx => ?_) (fun hlx => ?_))))))))))))
      · skip
        rw [if_pos hlx] at hsk
        rw [hsk]
        cases hv2
        refine cd_seq (cd_drawh (ork [(1, 2), (2, 2), (3, 1), (5, 2), (8, 2), (9, 2), (10, 2), (11, 1)] (.two 0 (.two 4 (ork [(6, 0), (7, 0), (12, 0), (13, 2)] .nil) 6 (ork [(4, 0), (7, 0), (12, 0), (13, 2)] .nil)) 6 (ork [(0, 0), (4, 0), (7, 0), (12, 0), (13, 2)] .nil))) (fun i => !(Nat.beq i 12)) mixed (by kernel_rfl) ?_)
        refine dp_v rfl (v_move rfl) (dp_v rfl (v_move rfl) (dr_v rfl (v_sliceHead (hi := i) rfl rfl sl54 rfl (by omega)) (dp_v rfl (v_move rfl) (dp_v rfl (v_move rfl) (dp_v rfl (v_move rfl) (dp_v rfl (v_add rfl rfl (by unfold I64 at *; omega)) (dr_v rfl (v_sliceTail (lo := i + 1) rfl rfl sl54 rfl hlt (by omega)) (dr_two rfl rfl ?_ ?_))))))))
        · skip
          refine st_bs0 Tryz.underlying54 inf25 fun b39 => dr_nx ?_
          refine dr_two rfl rfl ?_ ?_
          · skip
            refine st_apr (hv.take (Nat.le_of_lt hlt)) rfl rfl Tryz.underlying54 inf25 rfl (by decide) (show Sel _ (VR (.slice (some ⟨b39, 0, none⟩) 0 0) 25 1 []) _ from (by repeat (first | exact Sel.here | apply Sel.there))) (show Sel _ A _ from (by repeat (first | exact Sel.here | apply Sel.there))) (fun us x _ h => llC.one h) (by simp [List.length_take] <;> omega) (by simp <;> omega) (ltn rfl) fun v43 n1 hv43 q1 q2 q3 => dr_nx ?_
            refine dr_eff rfl (st_buildSlice (cells := [.slice oa one.length ocap]) rfl Tryz.underlying54 inf25 rfl rfl (by kernel_rfl) (ltn rfl) fun b45 => dr_nx ?_)
            refine dr_eff rfl (st_app [[.slice oa one.length ocap]] rfl rfl Tryz.underlying54 inf25 rfl (by decide) (show Sel _ (VR v43 25 1 ([] ++ n1)) _ from (by repeat (first | exact Sel.here | apply Sel.there))) (by simp) rfl (fun j u2 hu2 => by repeat (first | exact at_here (rd_cl (by simpa using hu2)) | apply at_there)) (by simp [Value.oneCell']) (by simp [q1]; omega) (by simp [q1]; omega) (ltn rfl) fun v46 hv46 _ => dr_nx ?_)
            refine dr_eff rfl (st_apr (hv.drop (k := i + 1) hlt) rfl rfl Tryz.underlying54 inf25 rfl (by decide) (show Sel _ (VR v46 25 1 ([] ++ n1 ++ [[.slice oa one.length ocap]])) _ from (by repeat (first | exact Sel.here | apply Sel.there))) (show Sel _ A _ from (by repeat (first | exact Sel.here | apply Sel.there))) (fun us x _ h => llC.one h) (by simp [q1]; omega) (by simp [q1]; omega) (ltn rfl) fun v51 n3 hv51 r1 r2 r3 => dr_nx ?_)
            refine dp_v rfl (v_assign rfl) (dr_nil (nx_kp [4] rfl (nx_then (cd_ret (xt_ret_then (xt_ret_block (xt_ret_then (xt_ret_then (xt_ret_block (xt_ret_then (xt_ok (r := VR v51 25 1 ([] ++ n1 ++ [[.slice oa one.length ocap]] ++ n3)) (by repeat (first | exact Sel.here | apply Sel.there)) fun hokv => ?_)))))))))))
            refine xt_pv (pv_pack (L := [VR v51 25 1 ([] ++ n1 ++ [[.slice oa one.length ocap]] ++ n3), A, B])) ?_
            have hA : ∀ p u, Rd A p u → Rd (Res.star [VR v51 25 1 ([] ++ n1 ++ [[.slice oa one.length ocap]] ++ n3), A, B]) p u := rd_in (by repeat (first | exact Sel.here | apply Sel.there))
            have hB : ∀ p u, Rd B p u → Rd (Res.star [VR v51 25 1 ([] ++ n1 ++ [[.slice oa one.length ocap]] ++ n3), A, B]) p u := rd_in (by repeat (first | exact Sel.here | apply Sel.there))
            have hcor := ((Cor.nil.app (Cor.mono (X := llC A) ⟨q1, q3⟩ fun us x h => h.mono hA)).app (Cor.one ⟨_, rfl, ho.mono hB⟩)).app (Cor.mono (X := llC A) ⟨r1, r3⟩ fun us x h => h.mono hA)
            exact xt_rt rfl ⟨Res.star [VR v51 25 1 ([] ++ n1 ++ [[.slice oa one.length ocap]] ++ n3), A, B], rfl, hv51, row_vr hokv (by simp [q1, r1] <;> omega) (rd_in (by repeat (first | exact Sel.here | apply Sel.there))) (by simpa using hcor.2)⟩ (by (repeat (refine Sub.sel (by repeat (first | exact Sel.here | apply Sel.there)) ?_)); (repeat apply Sub.cons); first | exact Sub.refl _ | exact Sub.nil _)
          · skip
            refine st_buildSlice (cells := [.slice oa one.length ocap]) rfl Tryz.underlying54 inf25 rfl rfl (by kernel_rfl) (ltn rfl) fun b45 => dr_nx ?_
            refine dr_eff rfl (st_apr (hv.take (Nat.le_of_lt hlt)) rfl rfl Tryz.underlying54 inf25 rfl (by decide) (show Sel _ (VR (.slice (some ⟨b39, 0, none⟩) 0 0) 25 1 []) _ from (by repeat (first | exact Sel.here | apply Sel.there))) (show Sel _ A _ from (by repeat (first | exact Sel.here | apply Sel.there))) (fun us x _ h => llC.one h) (by simp [List.length_take] <;> omega) (by simp <;> omega) (ltn rfl) fun v43 n1 hv43 q1 q2 q3 => dr_nx ?_)
            refine dr_eff rfl (st_app [[.slice oa one.length ocap]] rfl rfl Tryz.underlying54 inf25 rfl (by decide) (show Sel _ (VR v43 25 1 ([] ++ n1)) _ from (by repeat (first | exact Sel.here | apply Sel.there))) (by simp) rfl (fun j u2 hu2 => by repeat (first | exact at_here (rd_cl (by simpa using hu2)) | apply at_there)) (by simp [Value.oneCell']) (by simp [q1]; omega) (by simp [q1]; omega) (ltn rfl) fun v46 hv46 _ => dr_nx ?_)
            refine dr_eff rfl (st_apr (hv.drop (k := i + 1) hlt) rfl rfl Tryz.underlying54 inf25 rfl (by decide) (show Sel _ (VR v46 25 1 ([] ++ n1 ++ [[.slice oa one.length ocap]])) _ from (by repeat (first | exact Sel.here | apply Sel.there))) (show Sel _ A _ from (by repeat (first | exact Sel.here | apply Sel.there))) (fun us x _ h => llC.one h) (by simp [q1]; omega) (by simp [q1]; omega) (ltn rfl) fun v51 n3 hv51 r1 r2 r3 => dr_nx ?_)
            refine dp_v rfl (v_assign rfl) (dr_nil (nx_kp [4] rfl (nx_then (cd_ret (xt_ret_then (xt_ret_block (xt_ret_then (xt_ret_then (xt_ret_block (xt_ret_then (xt_ok (r := VR v51 25 1 ([] ++ n1 ++ [[.slice oa one.length ocap]] ++ n3)) (by repeat (first | exact Sel.here | apply Sel.there)) fun hokv => ?_)))))))))))
            refine xt_pv (pv_pack (L := [VR v51 25 1 ([] ++ n1 ++ [[.slice oa one.length ocap]] ++ n3), A, B])) ?_
            have hA : ∀ p u, Rd A p u → Rd (Res.star [VR v51 25 1 ([] ++ n1 ++ [[.slice oa one.length ocap]] ++ n3), A, B]) p u := rd_in (by repeat (first | exact Sel.here | apply Sel.there))
            have hB : ∀ p u, Rd B p u → Rd (Res.star [VR v51 25 1 ([] ++ n1 ++ [[.slice oa one.length ocap]] ++ n3), A, B]) p u := rd_in (by repeat (first | exact Sel.here | apply Sel.there))
            have hcor := ((Cor.nil.app (Cor.mono (X := llC A) ⟨q1, q3⟩ fun us x h => h.mono hA)).app (Cor.one ⟨_, rfl, ho.mono hB⟩)).app (Cor.mono (X := llC A) ⟨r1, r3⟩ fun us x h => h.mono hA)
            exact xt_rt rfl ⟨Res.star [VR v51 25 1 ([] ++ n1 ++ [[.slice oa one.length ocap]] ++ n3), A, B], rfl, hv51, row_vr hokv (by simp [q1, r1] <;> omega) (rd_in (by repeat (first | exact Sel.here | apply Sel.there))) (by simpa using hcor.2)⟩ (by (repeat (refine Sub.sel (by repeat (first | exact Sel.here | apply Sel.there)) ?_)); (repeat apply Sub.cons); first | exact Sub.refl _ | exact Sub.nil _)
        · skip
          refine st_buildSlice (cells := [.slice oa one.length ocap]) rfl Tryz.underlying54 inf25 rfl rfl (by kernel_rfl) (ltn rfl) fun b45 => dr_nx ?_
          refine dr_eff rfl (st_bs0 Tryz.underlying54 inf25 fun b39 => dr_nx ?_)
          refine dr_eff rfl (st_apr (hv.take (Nat.le_of_lt hlt)) rfl rfl Tryz.underlying54 inf25 rfl (by decide) (show Sel _ (VR (.slice (some ⟨b39, 0, none⟩) 0 0) 25 1 []) _ from (by repeat (first | exact Sel.here | apply Sel.there))) (show Sel _ A _ from (by repeat (first | exact Sel.here | apply Sel.there))) (fun us x _ h => llC.one h) (by simp [List.length_take] <;> omega) (by simp <;> omega) (ltn rfl) fun v43 n1 hv43 q1 q2 q3 => dr_nx ?_)
          refine dr_eff rfl (st_app [[.slice oa one.length ocap]] rfl rfl Tryz.underlying54 inf25 rfl (by decide) (show Sel _ (VR v43 25 1 ([] ++ n1)) _ from (by repeat (first | exact Sel.here | apply Sel.there))) (by simp) rfl (fun j u2 hu2 => by repeat (first | exact at_here (rd_cl (by simpa using hu2)) | apply at_there)) (by simp [Value.oneCell']) (by simp [q1]; omega) (by simp [q1]; omega) (ltn rfl) fun v46 hv46 _ => dr_nx ?_)
          refine dr_eff rfl (st_apr (hv.drop (k := i + 1) hlt) rfl rfl Tryz.underlying54 inf25 rfl (by decide) (show Sel _ (VR v46 25 1 ([] ++ n1 ++ [[.slice oa one.length ocap]])) _ from (by repeat (first | exact Sel.here | apply Sel.there))) (show Sel _ A _ from (by repeat (first | exact Sel.here | apply Sel.there))) (fun us x _ h => llC.one h) (by simp [q1]; omega) (by simp [q1]; omega) (ltn rfl) fun v51 n3 hv51 r1 r2 r3 => dr_nx ?_)
          refine dp_v rfl (v_assign rfl) (dr_nil (nx_kp [4] rfl (nx_then (cd_ret (xt_ret_then (xt_ret_block (xt_ret_then (xt_ret_then (xt_ret_block (xt_ret_then (xt_ok (r := VR v51 25 1 ([] ++ n1 ++ [[.slice oa one.length ocap]] ++ n3)) (by repeat (first | exact Sel.here | apply Sel.there)) fun hokv => ?_)))))))))))
          refine xt_pv (pv_pack (L := [VR v51 25 1 ([] ++ n1 ++ [[.slice oa one.length ocap]] ++ n3), A, B])) ?_
          have hA : ∀ p u, Rd A p u → Rd (Res.star [VR v51 25 1 ([] ++ n1 ++ [[.slice oa one.length ocap]] ++ n3), A, B]) p u := rd_in (by repeat (first | exact Sel.here | apply Sel.there))
          have hB : ∀ p u, Rd B p u → Rd (Res.star [VR v51 25 1 ([] ++ n1 ++ [[.slice oa one.length ocap]] ++ n3), A, B]) p u := rd_in (by repeat (first | exact Sel.here | apply Sel.there))
          have hcor := ((Cor.nil.app (Cor.mono (X := llC A) ⟨q1, q3⟩ fun us x h => h.mono hA)).app (Cor.one ⟨_, rfl, ho.mono hB⟩)).app (Cor.mono (X := llC A) ⟨r1, r3⟩ fun us x h => h.mono hA)
          exact xt_rt rfl ⟨Res.star [VR v51 25 1 ([] ++ n1 ++ [[.slice oa one.length ocap]] ++ n3), A, B], rfl, hv51, row_vr hokv (by simp [q1, r1] <;> omega) (rd_in (by repeat (first | exact Sel.here | apply Sel.there))) (by simpa using hcor.2)⟩ (by (repeat (refine Sub.sel (by repeat (first | exact Sel.here | apply Sel.there)) ?_)); (repeat apply Sub.cons); first | exact Sub.refl _ | exact Sub.nil _)
      · skip
        have hlx : ¬ lexLt one z = true := by simpa using hlx
        rw [if_neg hlx, ← hdr, List.take_append_drop] at hsk
        rw [hsk]
        refine cd_skip (xt_then (cd_seq (cd_region (st_v (v_move rfl) (st_v (v_assign rfl) (st_nil (nx_kp [4] rfl (nx_then (cd_ret (xt_ret_block (xt_ret_then (xt_ret_then (xt_ret_block (xt_ret_then (xt_pv (pv_pack (L := [A, B])) ?_)))))))))))))))
        exact xt_rt rfl ⟨Res.star [A, B], rfl, rfl, hv.mono (rd_in (by repeat (first | exact Sel.here | apply Sel.there)))⟩ (by (repeat (refine Sub.sel (by repeat (first | exact Sel.here | apply Sel.there)) ?_)); (repeat apply Sub.cons); first | exact Sub.refl _ | exact Sub.nil _)
    · skip
      have he : lastN z ≠ lastN one := by simpa using he
      refine cd_skip (xt_normal_block (xt_then (cd_region (st_v (v_move rfl) (st_v (v_add rfl rfl (by unfold I64 at *; omega)) (st_v (v_assign rfl) (st_nil (nx_kp [0, 1, 5] rfl (nx_xt (xt_aq (i + 1) ⟨hlt, fun x hx => ?_⟩ (by show _ - _ < _ - _; omega)))))))))))
      rw [htk] at hx
      rcases List.mem_append.1 hx with hx | hx
      · exact hno x hx
      · simp at hx; rw [hx]; exact he
  · skip
    have hil : i = xss.length := by have : ¬ i < xss.length := by simpa using hd
                                    omega
    subst hil
    have hsk := ins1_skip hno
    rw [List.take_length, List.drop_length, ins1] at hsk
    rw [hsk]
    refine cd_exit (xt_exit_then (xt_exit_then (xt_exit_block (xt_then (cd_seq (cd_region (st_bs0 Tryz.underlying54 inf25 fun b53 => ?_)))))))
    refine st_v (v_move rfl) (st_apr hv rfl rfl Tryz.underlying54 inf25 rfl (by decide) (show Sel _ (VR (.slice (some ⟨b53, 0, none⟩) 0 0) 25 1 []) _ from (by repeat (first | exact Sel.here | apply Sel.there))) (show Sel _ A _ from (by repeat (first | exact Sel.here | apply Sel.there))) (fun us x _ h => llC.one h) (by simp [List.length_take] <;> omega) (by simp <;> omega) (ltn rfl) fun v55 n1 hv55 q1 q2 q3 => ?_)
    refine st_v (v_move rfl) (st_buildSlice (cells := [.slice oa one.length ocap]) rfl Tryz.underlying54 inf25 rfl rfl (by kernel_rfl) (ltn rfl) fun b57 => ?_)
    refine st_app [[.slice oa one.length ocap]] rfl rfl Tryz.underlying54 inf25 rfl (by decide) (show Sel _ (VR v55 25 1 ([] ++ n1)) _ from (by repeat (first | exact Sel.here | apply Sel.there))) (by simp) rfl (fun j u2 hu2 => by repeat (first | exact at_here (rd_cl (by simpa using hu2)) | apply at_there)) (by simp [Value.oneCell']) (by simp [q1]; omega) (by simp [q1]; omega) (ltn rfl) fun v58 hv58 _ => ?_
    refine st_v (v_assign rfl) (st_nil (nx_kp [4] rfl (nx_then (cd_ret (xt_ok (r := VR v58 25 1 ([] ++ n1 ++ [[.slice oa one.length ocap]])) (by repeat (first | exact Sel.here | apply Sel.there)) fun hokv => ?_)))))
    refine xt_pv (pv_pack (L := [VR v58 25 1 ([] ++ n1 ++ [[.slice oa one.length ocap]]), A, B])) ?_
    have hA : ∀ p u, Rd A p u → Rd (Res.star [VR v58 25 1 ([] ++ n1 ++ [[.slice oa one.length ocap]]), A, B]) p u := rd_in (by repeat (first | exact Sel.here | apply Sel.there))
    have hB : ∀ p u, Rd B p u → Rd (Res.star [VR v58 25 1 ([] ++ n1 ++ [[.slice oa one.length ocap]]), A, B]) p u := rd_in (by repeat (first | exact Sel.here | apply Sel.there))
    have hcor := ((Cor.nil.app (Cor.mono (X := llC A) ⟨q1, q3⟩ fun us x h => h.mono hA)).app (Cor.one ⟨_, rfl, ho.mono hB⟩))
    exact xt_rt rfl ⟨Res.star [VR v58 25 1 ([] ++ n1 ++ [[.slice oa one.length ocap]]), A, B], rfl, hv58, row_vr hokv (by simp [q1]) (rd_in (by repeat (first | exact Sel.here | apply Sel.there))) (by simpa using hcor.2)⟩ (by (repeat (refine Sub.sel (by repeat (first | exact Sel.here | apply Sel.there)) ?_)); (repeat apply Sub.cons); first | exact Sub.refl _ | exact Sub.nil _)
end
end Go.Hr
namespace Go.Hr
open Go Go.RowKit Go.Ck Go.Proofs Go.Proofs.YtjgiaohieadeiaaGreat Fx
attribute [local irreducible] Go.Ck.Sub St Cd Xt Nx DrL LsW
theorem ixN_isC (l : Sys) (c : Nm) : decide ((0 : Int) ≤ ixN l c) = isC l c := by
  obtain ⟨h1, h2⟩ := idx_find (l := l) (c := c)
  unfold ixN isC
  cases h : idx l c with
  | none => rw [h2 h]; rfl
  | some i => obtain ⟨x, _, h3⟩ := h1 i h; rw [h3]; simp
/-- Rows of one length, to classes. -/
def LnP (l : Sys) (n : Nat) (w : List Nm) : Prop := w.length = n ∧ isC l (lastN w) = true
theorem ones_len {l : Sys} {n : Nat} {ls : List (List Nm)} (h : Ones (LnP l n) ls) : ls.length ≤ l.length := by
  have := length_le_of_nodup (b := nms l) h.2 fun x hx => by
    obtain ⟨w, hw, rfl⟩ := List.mem_map.1 hx
    exact isC_iff.1 (h.1 w hw).2
  simpa [nms] using this
theorem Ones.empty {P : List Nm → Prop} : Ones P [] := ⟨fun w h => by simp at h, by simp⟩
theorem pars_le {l : Sys} {n : Nat} (hp : ∀ x ∈ l, x.parents.length ≤ n) {c : Nm} : (pars l c).length ≤ n := by
  unfold pars
  cases h : find l c with
  | none => simp
  | some x => exact hp x (find_name h).2
def ext0 (l : Sys) (w : List Nm) (ps : List Nm) (n : List (List Nm)) : List (List Nm) := (ps.filter (isC l)).foldl (fun n p => ins1 n (w ++ [p])) n
theorem ext0_all {l : Sys} {w : List Nm} {n : List (List Nm)} : ext0 l w (pars l (lastN w)) n = ext1 l n w := rfl
theorem ext0_yes {l : Sys} {w ps : List Nm} {p : Nm} {n : List (List Nm)} (h : isC l p = true) : ext0 l w (ps ++ [p]) n = ins1 (ext0 l w ps n) (w ++ [p]) := by
  unfold ext0
  rw [List.filter_append, List.foldl_append, List.filter_cons, if_pos h]; rfl
theorem ext0_no {l : Sys} {w ps : List Nm} {p : Nm} {n : List (List Nm)} (h : isC l p = false) : ext0 l w (ps ++ [p]) n = ext0 l w ps n := by
  unfold ext0
  rw [List.filter_append, List.filter_cons, if_neg (by rw [h]; decide)]; simp
theorem exp_succ {l : Sys} {L : List (List Nm)} {i : Nat} (h : i < L.length) : (L.take (i + 1)).foldl (ext1 l) [] = ext1 l ((L.take i).foldl (ext1 l) []) L[i] := by
  rw [List.take_succ_eq_append_getElem h, List.foldl_append]; rfl
theorem lnp_ones {l : Sys} {c : Nm} (k : Nat) (h : Ones (LnP l (k + 2)) (lsts l c (k + 1))) : (lsts l c (k + 1)).length ≤ l.length := ones_len h
theorem further_hit {l : Sys} {c a : Nm} {k : Nat} {w : List Nm} (hk : k ≤ l.length) (hno : ∀ j, j < k → hit a (lsts l c (j + 1)) = none) (h : hit a (lsts l c (k + 1)) = some w) : further l c a = w := by
  unfold further
  obtain ⟨m, hm⟩ : ∃ m, l.length + 1 = k + (m + 1) := ⟨l.length - k, by omega⟩
  rw [hm, List.range_add, List.findSome?_append, List.findSome?_eq_none_iff.2 fun i hi => hno i (List.mem_range.1 hi), List.range_succ_eq_map]
  simp only [List.map_cons, List.findSome?_cons, Nat.add_zero, h, Option.none_or]
  rfl
theorem further_miss {l : Sys} {c a : Nm} (hno : ∀ j, j < l.length + 1 → hit a (lsts l c (j + 1)) = none) : further l c a = [] := by
  unfold further
  rw [List.findSome?_eq_none_iff.2 fun i hi => hno i (List.mem_range.1 hi)]; rfl
theorem hit_at {a : Nm} {ls : List (List Nm)} {i : Nat} (h : i < ls.length) (hno : ∀ x ∈ ls.take i, lastN x ≠ a) (he : lastN ls[i] = a) : hit a ls = some ls[i] := by
  unfold hit
  rw [List.find?_eq_some_iff_getElem]
  refine ⟨by simp [he], i, h, rfl, fun j hj => ?_⟩
  have := hno ls[j] (List.mem_iff_getElem.2 ⟨j, by simp; omega, by simp⟩)
  simp [this]
theorem hit_no {a : Nm} {ls : List (List Nm)} (hno : ∀ x ∈ ls, lastN x ≠ a) : hit a ls = none := by
  unfold hit
  rw [List.find?_eq_none]
  exact fun x hx => by simpa using hno x hx
section
variable {S : Res} {v : Value} {l : Sys}
set_option maxHeartbeats 1000000 in
set_option maxRecDepth 100000 in
theorem further_ct (hv : sysR S v l) (hl : l.length ≤ 1000) (hp : ∀ x ∈ l, x.parents.length ≤ 1099511627776) (c a : Nm) : CtN Tryz.prog 92 #[v, sv c, sv a] [S] fun u T => u.oneCell' = true ∧ nmsR T u (further l c a) := by
  obtain ⟨la, cap, rfl, _⟩ := id hv
  refine ct_of (n := 95) Tryz.func92 rfl rfl (len rfl) fun hr w0 => ?_
  refine cd_seq (cd_region (st_v (v_assign rfl) (st_nil (nx_then (cd_seq (cd_region (st_v (v_move rfl) (st_buildSlice (cells := [sv c]) rfl Tryz.underlying25 inf9 rfl rfl (by kernel_rfl) (ltn rfl) fun b15 => ?_))))))))
  refine st_pv (pv_of (b := b15) (n := 1) (sz := 1) (E := 9) [nC c] rfl (by simp [nC]) rfl (by decide)) ?_
  simp only [List.cons_append, List.nil_append]
  refine st_ok (r := NR (.slice (some ⟨b15, 0, none⟩) 1 1) [c]) (by repeat (first | exact Sel.here | apply Sel.there)) fun hok15 => ?_
  refine st_buildSlice (cells := [.slice (some ⟨b15, 0, none⟩) 1 1]) rfl Tryz.underlying54 inf25 rfl rfl (by kernel_rfl) (ltn rfl) fun b16 => ?_
  refine st_pv (pv_of (b := b16) (n := 1) (sz := 1) (E := 25) [[.slice (some ⟨b15, 0, none⟩) 1 1]] rfl (by simp) rfl (by decide)) ?_
  simp only [List.cons_append, List.nil_append]
  refine st_ok (r := VR (.slice (some ⟨b16, 0, none⟩) 1 1) 25 1 [[.slice (some ⟨b15, 0, none⟩) 1 1]]) (by repeat (first | exact Sel.here | apply Sel.there)) fun hok16 => ?_
  refine st_pv (pv_pack (L := [VR (.slice (some ⟨b16, 0, none⟩) 1 1) 25 1 [[.slice (some ⟨b15, 0, none⟩) 1 1]], NR (.slice (some ⟨b15, 0, none⟩) 1 1) [c]])) ?_
  simp only [List.cons_append, List.nil_append]
  have h0 : llR (Res.star [VR (.slice (some ⟨b16, 0, none⟩) 1 1) 25 1 [[.slice (some ⟨b15, 0, none⟩) 1 1]], NR (.slice (some ⟨b15, 0, none⟩) 1 1) [c]]) (.slice (some ⟨b16, 0, none⟩) 1 1) [[c]] :=
    row_vr hok16 rfl (rd_in (by repeat (first | exact Sel.here | apply Sel.there))) (Cor.one (X := llC _) ⟨_, rfl, (nms_own hok15).mono (rd_in (by repeat (first | exact Sel.here | apply Sel.there)))⟩).2
  generalize Res.star [VR (.slice (some ⟨b16, 0, none⟩) 1 1) 25 1 [[.slice (some ⟨b15, 0, none⟩) 1 1]], NR (.slice (some ⟨b15, 0, none⟩) 1 1) [c]] = T0 at *
  generalize Value.slice (some ⟨b16, 0, none⟩) 1 1 = w0 at *
  refine st_v (v_assign rfl) (st_nil (nx_kp [0, 2, 6, 7] rfl (nx_then (cd_seq (cd_seq (cd_region (st_v (v_assign rfl) (st_nil (nx_then (cd_block (cd_lq (σ := Value × Res × Nat) (fun q => [(0, .slice la l.length cap), (2, sv a), (7, q.1), (8, .int .i64 (q.2.2 : Nat))]) (fun q => q.2.1 :: S :: hr) (fun q => q.2.2 ≤ l.length + 1 ∧ llR q.2.1 q.1 (lsts l c q.2.2) ∧ (lsts l c q.2.2).length ≤ 1000 ∧ ∀ j, j < q.2.2 → hit a (lsts l c (j + 1)) = none) (fun q => l.length + 1 - q.2.2) (w0, T0, 0) ⟨Nat.zero_le _, h0, by simp [lsts], fun j hj => absurd hj (Nat.not_lt_zero _)⟩ ?_)))))))))))
  rintro ⟨w, T, k⟩ ⟨hk, hw, hwl, hno⟩
  simp only at hk hw hwl hno
  dsimp only
  obtain ⟨wa, wcap, rfl, _⟩ := id hw
  refine cd_seq (cd_seq (cd_region (st_v (v_move rfl) (st_v (v_move rfl) (st_v (v_len rfl Tryz.underlying22) (st_v (v_leq rfl rfl) (st_nil (nx_kp [0, 2, 7, 8, 20] rfl (nx_then (cd_cond rfl (fun hd => ?_) (fun hd => ?_)))))))))))
  · skip
    have hkl : k ≤ l.length := by simpa using hd
    have hrows := (lsts_spec l c k).1.1
    have hnext : lsts l c (k + 1) = (lsts l c k).foldl (ext1 l) [] := rfl
    generalize lsts l c k = L at *
    refine cd_skip (xt_then (cd_seq (cd_block (cd_seq (cd_region (st_v (v_assign rfl) (st_nil (nx_kp [0, 2, 7, 8, 9] rfl (nx_then (cd_seq (cd_seq (cd_region (st_v (v_assign rfl) (st_nil (nx_then (cd_block ?_))))))))))))))))
    refine cd_vw (vw_unstar (L := [])) (cd_lq (σ := Value × Res × Nat) (fun q => [(0, .slice la l.length cap), (2, sv a), (7, .slice wa L.length wcap), (8, .int .i64 (k : Nat)), (9, q.1), (10, .int .i64 (q.2.2 : Nat))]) (fun q => q.2.1 :: T :: S :: hr) (fun q => q.2.2 ≤ L.length ∧ llR q.2.1 q.1 ((L.take q.2.2).foldl (ext1 l) []) ∧ Ones (LnP l (k + 2)) ((L.take q.2.2).foldl (ext1 l) [])) (fun q => L.length - q.2.2) (.slice none 0 0, Res.star [], 0) ⟨Nat.zero_le _, Row.nil, Ones.empty⟩ ?_)
    rintro ⟨nv, N, i⟩ ⟨hi, hN, hO⟩
    simp only at hi hN hO
    dsimp only
    obtain ⟨na, ncap, rfl, _⟩ := id hN
    refine cd_seq (cd_seq (cd_region (st_v (v_move rfl) (st_v (v_move rfl) (st_v (v_len rfl Tryz.underlying54) (st_v (v_lss rfl rfl) (st_nil (nx_kp [0, 2, 7, 8, 9, 10, 26] rfl (nx_then (cd_cond rfl (fun hd2 => ?_) (fun hd2 => ?_)))))))))))
    · skip
      have hlt : i < L.length := by simpa using hd2
      have hzi := List.getElem?_eq_getElem hlt
      obtain ⟨hzl, _⟩ := hrows _ (List.getElem_mem hlt)
      have hex := exp_succ (l := l) hlt
      obtain ⟨b, o, cap2, u, hv2, hrd, hu⟩ := ll_at hw hzi
      generalize L[i] = z at *
      generalize (L.take i).foldl (ext1 l) [] = N0 at *
      obtain ⟨ua, ucap, rfl, _⟩ := id hu
      obtain ⟨zk, hzk, hzkl, hze⟩ := lastN_get (w := z) (fun e => by rw [e] at hzl; simp at hzl)
      obtain ⟨zb, zo, zcap2, hzv2, hzrd⟩ := nms_at hu (List.getElem?_eq_getElem hzk)
      rw [hze] at hzrd
      refine cd_skip (xt_then (cd_seq (cd_block (cd_seq (cd_drawh (ork [(0, 2), (1, 2), (2, 2), (3, 2), (4, 1), (5, 2), (6, 2), (7, 2), (8, 1), (9, 2), (10, 2), (11, 2), (12, 1), (13, 0), (14, 2)] .nil) (fun i => !(Nat.beq i 13)) mixed (by kernel_rfl) ?_)))))
      refine dp_v rfl (v_move rfl) (dp_v rfl (v_move rfl) (dp_v rfl (v_move rfl) (dp_v rfl (v_indexAddr (k := i) (congrArg some hv2) rfl sl54 rfl hlt rfl) (dr_v rfl (v_ldy rfl ld25) ?_))))
      refine dp_v rfl (v_move rfl) (dp_v rfl (v_move rfl) (dp_v rfl (v_indexAddr (k := i) (congrArg some hv2) rfl sl54 rfl hlt rfl) (dr_v rfl (v_ldy rfl ld25) ?_)))
      refine dp_v rfl (v_len rfl Tryz.underlying25) (dp_v rfl (v_sub rfl rfl (by unfold I64 at *; omega)) (dp_v rfl (v_indexAddr (k := zk) (congrArg some hzv2) rfl sl25 (by omega) hzk rfl) (dr_v rfl (v_ldy rfl ld9) ?_)))
      refine dr_eff rfl (st_cl rfl rfl en40 rfl (parents_ct hv (lastN z) (by omega) hp) ?_)
      rintro u h' ⟨Tp, rfl, hu1, rfl, hpn⟩
      simp only [List.cons_append, List.nil_append]
      rw [← ext0_all] at hex
      have hpl := pars_le (c := lastN z) hp
      generalize pars l (lastN z) = ps at *
      obtain ⟨pa, pcap, rfl, _⟩ := id hpn
      refine dr_nx ?_
      refine dp_v rfl (v_assign rfl) (dr_nil (nx_kp [0, 2, 7, 8, 9, 10, 11] rfl (nx_then (cd_seq (cd_region (st_v (v_assign rfl) (st_nil (nx_then (cd_block (cd_lq (σ := Value × Res × Nat) (fun q => [(0, .slice la l.length cap), (2, sv a), (7, .slice wa L.length wcap), (8, .int .i64 (k : Nat)), (9, q.1), (10, .int .i64 (i : Nat)), (11, .slice pa ps.length pcap), (12, .int .i64 (q.2.2 : Nat))]) (fun q => q.2.1 :: NR (.slice pa ps.length pcap) ps :: T :: S :: hr) (fun q => q.2.2 ≤ ps.length ∧ llR q.2.1 q.1 (ext0 l z (ps.take q.2.2) N0) ∧ Ones (LnP l (k + 2)) (ext0 l z (ps.take q.2.2) N0)) (fun q => ps.length - q.2.2) (.slice na N0.length ncap, N, 0) ⟨Nat.zero_le _, hN, hO⟩ ?_))))))))))
      rintro ⟨mv, M, j⟩ ⟨hj, hM, hO2⟩
      simp only at hj hM hO2
      dsimp only
      obtain ⟨ma, mcap, rfl, _⟩ := id hM
      refine cd_seq (cd_seq (cd_region (st_v (v_move rfl) (st_v (v_move rfl) (st_v (v_len rfl Tryz.underlying25) (st_v (v_lss rfl rfl) (st_nil (nx_kp [0, 2, 7, 8, 9, 10, 11, 12, 46] rfl (nx_then (cd_cond rfl (fun hd3 => ?_) (fun hd3 => ?_)))))))))))
      · skip
        have hjlt : j < ps.length := by simpa using hd3
        obtain ⟨pb, po, pcap2, hpv2, hprd⟩ := nms_at hpn (List.getElem?_eq_getElem hjlt)
        have htk := List.take_succ_eq_append_getElem hjlt
        generalize ps[j] = p at *
        refine cd_skip (xt_then (cd_seq (cd_block (cd_seq (cd_region (st_v (v_move rfl) (st_v (v_move rfl) (st_v (v_move rfl) (st_v (v_indexAddr (k := j) (congrArg some hpv2) rfl sl25 rfl hjlt rfl) (st_v (v_ldy rfl ld9) ?_))))))))))
        refine st_clr rfl rfl en67 rfl (index_ct hv p (by omega)) ?_
        refine st_v (v_geq rfl rfl) (st_nil (nx_kp [0, 2, 7, 8, 9, 10, 11, 12, 55] rfl (nx_then ?_)))
        rw [ixN_isC]
        refine cd_cond rfl (fun hc => ?_) (fun hc => ?_)
        · skip
          have hyes := ext0_yes (w := z) (ps := ps.take j) (n := N0) hc
          rw [← htk] at hyes
          generalize ext0 l z (ps.take j) N0 = N1 at *
          have hn1 := ones_len hO2
          have hO3 : Ones (LnP l (k + 2)) (ins1 N1 (z ++ [p])) := ins1_ones hO2 ⟨by simp [hzl], by rw [lastN_snoc]; exact hc⟩
          refine cd_drawh (ork [(0, 2), (2, 2), (3, 2), (4, 2), (5, 1), (7, 2), (8, 2), (9, 2), (10, 1)] (.two 1 (.two 6 (ork [(11, 0), (12, 0), (13, 0), (14, 2)] .nil) 11 (ork [(6, 0), (12, 0), (13, 0), (14, 2)] .nil)) 11 (ork [(1, 0), (6, 0), (12, 0), (13, 0), (14, 2)] .nil))) (fun i => !(Nat.beq i 12 || Nat.beq i 13)) mixed (by kernel_rfl) ?_
          refine dp_v rfl (v_move rfl) (dp_v rfl (v_move rfl) (dp_v rfl (v_move rfl) (dp_v rfl (v_indexAddr (k := i) (congrArg some hv2) rfl sl54 rfl hlt rfl) (dr_v rfl (v_ldy rfl ld25) ?_))))
          refine dp_v rfl (v_move rfl) (dp_v rfl (v_move rfl) (dp_v rfl (v_indexAddr (k := j) (congrArg some hpv2) rfl sl25 rfl hjlt rfl) (dr_v rfl (v_ldy rfl ld9) ?_)))
          refine dr_two rfl rfl ?_ ?_
          · skip
            refine st_bs0 Tryz.underlying25 inf9 fun b57 => dr_nx ?_
            refine dr_two rfl rfl ?_ ?_
            · skip
              refine st_apr hu rfl rfl Tryz.underlying25 inf9 rfl (by decide) (show Sel _ (VR (.slice (some ⟨b57, 0, none⟩) 0 0) 9 1 []) _ from (by repeat (first | exact Sel.here | apply Sel.there))) (show Sel _ T _ from (by repeat (first | exact Sel.here | apply Sel.there))) (fun us x _ h => str_one h) (by simp <;> omega) (by simp <;> omega) (ltn rfl) fun v62 n1 hv62 q1 q2 q3 => dr_nx ?_
              cases news_names q1 q3
              refine dr_eff rfl (st_buildSlice (cells := [sv p]) rfl Tryz.underlying25 inf9 rfl rfl (by kernel_rfl) (ltn rfl) fun b67 => dr_nx ?_)
              refine dr_eff rfl (st_app [nC p] rfl rfl Tryz.underlying25 inf9 rfl (by decide) (show Sel _ (VR v62 9 1 ([] ++ z.map nC)) _ from (by repeat (first | exact Sel.here | apply Sel.there))) (by simp [nC]) rfl (fun j u2 hu2 => by repeat (first | exact at_here (rd_cl (by simpa [nC] using hu2)) | apply at_there)) (by simp [nC, Value.oneCell']) (by simp <;> omega) (by simp <;> omega) (ltn rfl) fun v68 hv68 _ => ?_)
              rw [show [] ++ z.map nC ++ [nC p] = (z ++ [p]).map nC by simp]
              refine st_ok (r := NR v68 (z ++ [p])) (by repeat (first | exact Sel.here | apply Sel.there)) fun hok68 => ?_
              refine dr_nx ?_
              refine dr_eff rfl (st_cl rfl rfl en113 rfl (first_ct hM (nms_own hok68) (by simp) (by simp; omega) (fun x hx => by have := (hO2.1 x hx).1; exact ⟨fun e => by rw [e] at this; simp at this, by omega⟩) (by omega)) ?_)
              rintro u h' ⟨T2, rfl, hu2, hT2⟩
              simp only [List.cons_append, List.nil_append]
              rw [← hyes] at hT2 hO3
              refine dr_nx ?_
              refine dp_v rfl (v_assign rfl) (dr_nil (nx_kp [0, 2, 7, 8, 9, 10, 11, 12] rfl (nx_xt (xt_normal_block (xt_then (cd_region (st_v (v_move rfl) (st_v (v_add rfl rfl (by unfold I64 at *; omega)) (st_v (v_assign rfl) (st_nil (nx_kp [0, 2, 7, 8, 9, 10, 11, 12] rfl (nx_xt ?_))))))))))))
              refine xt_aq (u, T2, j + 1) ⟨hjlt, hT2, hO3⟩ (Nat.sub_lt_sub_left hjlt (Nat.lt_succ_self j))
            · skip
              refine st_buildSlice (cells := [sv p]) rfl Tryz.underlying25 inf9 rfl rfl (by kernel_rfl) (ltn rfl) fun b67 => dr_nx ?_
              refine dr_eff rfl (st_apr hu rfl rfl Tryz.underlying25 inf9 rfl (by decide) (show Sel _ (VR (.slice (some ⟨b57, 0, none⟩) 0 0) 9 1 []) _ from (by repeat (first | exact Sel.here | apply Sel.there))) (show Sel _ T _ from (by repeat (first | exact Sel.here | apply Sel.there))) (fun us x _ h => str_one h) (by simp <;> omega) (by simp <;> omega) (ltn rfl) fun v62 n1 hv62 q1 q2 q3 => dr_nx ?_)
              cases news_names q1 q3
              refine dr_eff rfl (st_app [nC p] rfl rfl Tryz.underlying25 inf9 rfl (by decide) (show Sel _ (VR v62 9 1 ([] ++ z.map nC)) _ from (by repeat (first | exact Sel.here | apply Sel.there))) (by simp [nC]) rfl (fun j u2 hu2 => by repeat (first | exact at_here (rd_cl (by simpa [nC] using hu2)) | apply at_there)) (by simp [nC, Value.oneCell']) (by simp <;> omega) (by simp <;> omega) (ltn rfl) fun v68 hv68 _ => ?_)
              rw [show [] ++ z.map nC ++ [nC p] = (z ++ [p]).map nC by simp]
              refine st_ok (r := NR v68 (z ++ [p])) (by repeat (first | exact Sel.here | apply Sel.there)) fun hok68 => ?_
              refine dr_nx ?_
              refine dr_eff rfl (st_cl rfl rfl en113 rfl (first_ct hM (nms_own hok68) (by simp) (by simp; omega) (fun x hx => by have := (hO2.1 x hx).1; exact ⟨fun e => by rw [e] at this; simp at this, by omega⟩) (by omega)) ?_)
              rintro u h' ⟨T2, rfl, hu2, hT2⟩
              simp only [List.cons_append, List.nil_append]
              rw [← hyes] at hT2 hO3
              refine dr_nx ?_
              refine dp_v rfl (v_assign rfl) (dr_nil (nx_kp [0, 2, 7, 8, 9, 10, 11, 12] rfl (nx_xt (xt_normal_block (xt_then (cd_region (st_v (v_move rfl) (st_v (v_add rfl rfl (by unfold I64 at *; omega)) (st_v (v_assign rfl) (st_nil (nx_kp [0, 2, 7, 8, 9, 10, 11, 12] rfl (nx_xt ?_))))))))))))
              refine xt_aq (u, T2, j + 1) ⟨hjlt, hT2, hO3⟩ (Nat.sub_lt_sub_left hjlt (Nat.lt_succ_self j))
          · skip
            refine st_buildSlice (cells := [sv p]) rfl Tryz.underlying25 inf9 rfl rfl (by kernel_rfl) (ltn rfl) fun b67 => dr_nx ?_
            refine dr_eff rfl (st_bs0 Tryz.underlying25 inf9 fun b57 => dr_nx ?_)
            refine dr_eff rfl (st_apr hu rfl rfl Tryz.underlying25 inf9 rfl (by decide) (show Sel _ (VR (.slice (some ⟨b57, 0, none⟩) 0 0) 9 1 []) _ from (by repeat (first | exact Sel.here | apply Sel.there))) (show Sel _ T _ from (by repeat (first | exact Sel.here | apply Sel.there))) (fun us x _ h => str_one h) (by simp <;> omega) (by simp <;> omega) (ltn rfl) fun v62 n1 hv62 q1 q2 q3 => dr_nx ?_)
            cases news_names q1 q3
            refine dr_eff rfl (st_app [nC p] rfl rfl Tryz.underlying25 inf9 rfl (by decide) (show Sel _ (VR v62 9 1 ([] ++ z.map nC)) _ from (by repeat (first | exact Sel.here | apply Sel.there))) (by simp [nC]) rfl (fun j u2 hu2 => by repeat (first | exact at_here (rd_cl (by simpa [nC] using hu2)) | apply at_there)) (by simp [nC, Value.oneCell']) (by simp <;> omega) (by simp <;> omega) (ltn rfl) fun v68 hv68 _ => ?_)
            rw [show [] ++ z.map nC ++ [nC p] = (z ++ [p]).map nC by simp]
            refine st_ok (r := NR v68 (z ++ [p])) (by repeat (first | exact Sel.here | apply Sel.there)) fun hok68 => ?_
            refine dr_nx ?_
            refine dr_eff rfl (st_cl rfl rfl en113 rfl (first_ct hM (nms_own hok68) (by simp) (by simp; omega) (fun x hx => by have := (hO2.1 x hx).1; exact ⟨fun e => by rw [e] at this; simp at this, by omega⟩) (by omega)) ?_)
            rintro u h' ⟨T2, rfl, hu2, hT2⟩
            simp only [List.cons_append, List.nil_append]
            rw [← hyes] at hT2 hO3
            refine dr_nx ?_
            refine dp_v rfl (v_assign rfl) (dr_nil (nx_kp [0, 2, 7, 8, 9, 10, 11, 12] rfl (nx_xt (xt_normal_block (xt_then (cd_region (st_v (v_move rfl) (st_v (v_add rfl rfl (by unfold I64 at *; omega)) (st_v (v_assign rfl) (st_nil (nx_kp [0, 2, 7, 8, 9, 10, 11, 12] rfl (nx_xt ?_))))))))))))
            refine xt_aq (u, T2, j + 1) ⟨hjlt, hT2, hO3⟩ (Nat.sub_lt_sub_left hjlt (Nat.lt_succ_self j))
        · skip
          have hc : isC l p = false := by simpa using hc
          have hyes := ext0_no (w := z) (ps := ps.take j) (n := N0) hc
          rw [← htk] at hyes
          refine cd_skip (xt_normal_block (xt_then (cd_region (st_v (v_move rfl) (st_v (v_add rfl rfl (by unfold I64 at *; omega)) (st_v (v_assign rfl) (st_nil (nx_kp [0, 2, 7, 8, 9, 10, 11, 12] rfl (nx_xt ?_)))))))))
          refine xt_aq (.slice ma (ext0 l z (ps.take j) N0).length mcap, M, j + 1) ⟨hjlt, by rw [hyes]; exact hM, by rw [hyes]; exact hO2⟩ (Nat.sub_lt_sub_left hjlt (Nat.lt_succ_self j))
      · skip
        have hje : j = ps.length := by have : ¬ j < ps.length := by simpa using hd3
                                       omega
        subst hje
        rw [List.take_length, ← hex] at hM hO2
        refine cd_exit (xt_exit_then (xt_exit_then (xt_exit_block (xt_normal_block (xt_then (cd_region (st_v (v_move rfl) (st_v (v_add rfl rfl (by unfold I64 at *; omega)) (st_v (v_assign rfl) (st_nil (nx_kp [0, 2, 7, 8, 9, 10] rfl (nx_xt ?_))))))))))))
        refine xt_aq (.slice ma (ext0 l z (ps.take ps.length) N0).length mcap, M, i + 1) ⟨hlt, by rw [List.take_length, ← hex]; exact hM, hO2⟩ (Nat.sub_lt_sub_left hlt (Nat.lt_succ_self i))
    · skip
      have hie : i = L.length := by have : ¬ i < L.length := by simpa using hd2
                                    omega
      subst hie
      rw [List.take_length, ← hnext] at hN hO
      rw [List.take_length, ← hnext]
      refine cd_exit (xt_exit_then (xt_exit_then (xt_exit_block (xt_then (cd_seq (cd_seq (cd_region (st_v (v_assign rfl) (st_nil (nx_kp [0, 2, 7, 8, 9, 13] rfl (nx_then (cd_block (cd_lq (σ := Nat) (fun i => [(0, .slice la l.length cap), (2, sv a), (8, .int .i64 (k : Nat)), (9, .slice na (lsts l c (k + 1)).length ncap), (13, .int .i64 (i : Nat))]) (fun _ => N :: S :: hr) (fun i => i ≤ (lsts l c (k + 1)).length ∧ ∀ x ∈ (lsts l c (k + 1)).take i, lastN x ≠ a) (fun i => (lsts l c (k + 1)).length - i) 0 ⟨Nat.zero_le _, fun x hx => by simp at hx⟩ ?_)))))))))))))
      rintro i ⟨hi, hni⟩
      have hnl := ones_len hO
      refine cd_seq (cd_seq (cd_region (st_v (v_move rfl) (st_v (v_move rfl) (st_v (v_len rfl Tryz.underlying54) (st_v (v_lss rfl rfl) (st_nil (nx_kp [0, 2, 8, 9, 13, 73] rfl (nx_then (cd_cond rfl (fun hd4 => ?_) (fun hd4 => ?_)))))))))))
      · skip
        have hlt : i < (lsts l c (k + 1)).length := by simpa using hd4
        obtain ⟨b, o, cap2, u, hv2, hrd, hu⟩ := ll_at hN (List.getElem?_eq_getElem hlt)
        have hzl := (hO.1 _ (List.getElem_mem hlt)).1
        have hht := hit_at (a := a) hlt hni
        have htk := List.take_succ_eq_append_getElem hlt
        generalize (lsts l c (k + 1))[i] = z at *
        obtain ⟨ua, ucap, rfl, _⟩ := id hu
        obtain ⟨zk, hzk, hzkl, hze⟩ := lastN_get (w := z) (fun e => by rw [e] at hzl; simp at hzl)
        obtain ⟨zb, zo, zcap2, hzv2, hzrd⟩ := nms_at hu (List.getElem?_eq_getElem hzk)
        rw [hze] at hzrd
        refine cd_skip (xt_then (cd_seq (cd_block (cd_seq (cd_drawh (ork [(0, 2), (1, 2), (2, 2), (3, 1), (4, 2), (5, 2), (6, 2), (7, 1), (8, 2), (9, 2), (10, 2), (11, 1), (12, 2), (13, 1)] .nil) (fun _ => true) mixed (by kernel_rfl) ?_)))))
        refine dp_v rfl (v_move rfl) (dp_v rfl (v_move rfl) (dp_v rfl (v_indexAddr (k := i) (congrArg some hv2) rfl sl54 rfl hlt rfl) (dr_v rfl (v_ldy rfl ld25) ?_)))
        refine dp_v rfl (v_move rfl) (dp_v rfl (v_move rfl) (dp_v rfl (v_indexAddr (k := i) (congrArg some hv2) rfl sl54 rfl hlt rfl) (dr_v rfl (v_ldy rfl ld25) ?_)))
        refine dp_v rfl (v_len rfl Tryz.underlying25) (dp_v rfl (v_sub rfl rfl (by unfold I64 at *; omega)) (dp_v rfl (v_indexAddr (k := zk) (congrArg some hzv2) rfl sl25 (by omega) hzk rfl) (dr_v rfl (v_ldy rfl ld9) ?_)))
        refine dp_v rfl (v_move rfl) (dr_v rfl (v_seql rfl rfl) (dr_nil (nx_kp [0, 2, 8, 9, 13, 89] rfl (nx_then (cd_cond rfl (fun he => ?_) (fun he => ?_))))))
        · skip
          have he : lastN z = a := by simpa using he
          rw [further_hit hkl hno (hht he)]
          refine cd_seq (cd_region (st_v (v_move rfl) (st_v (v_move rfl) (st_v (v_indexAddr (k := i) (congrArg some hv2) rfl sl54 rfl hlt rfl) (st_v (v_ldy rfl ld25) ?_)))))
          refine st_v (v_assign rfl) (st_nil (nx_kp [6] rfl (nx_then (cd_ret (xt_ret_block (xt_ret_then (xt_ret_then (xt_ret_block (xt_ret_then (xt_ret_block (xt_ret_then (xt_ret_then (xt_ret_block (xt_ret_then ?_))))))))))))))
          exact xt_rt rfl ⟨N, rfl, rfl, hu⟩ (by (repeat (refine Sub.sel (by repeat (first | exact Sel.here | apply Sel.there)) ?_)); (repeat apply Sub.cons); first | exact Sub.refl _ | exact Sub.nil _)
        · skip
          have he : lastN z ≠ a := by simpa using he
          refine cd_skip (xt_normal_block (xt_then (cd_region (st_v (v_move rfl) (st_v (v_add rfl rfl (by unfold I64 at *; omega)) (st_v (v_assign rfl) (st_nil (nx_kp [0, 2, 8, 9, 13] rfl (nx_xt (xt_aq (i + 1) ⟨hlt, fun x hx => ?_⟩ (by show _ - _ < _ - _; omega)))))))))))
          rw [htk] at hx
          rcases List.mem_append.1 hx with hx | hx
          · exact hni x hx
          · simp at hx; rw [hx]; exact he
      · skip
        have hie : i = (lsts l c (k + 1)).length := by have : ¬ i < (lsts l c (k + 1)).length := by simpa using hd4
                                                       omega
        subst hie
        rw [List.take_length] at hni
        refine cd_exit (xt_exit_then (xt_exit_then (xt_exit_block (xt_then (cd_region (st_v (v_move rfl) (st_v (v_assign rfl) (st_nil (nx_kp [0, 2, 7, 8] rfl (nx_xt (xt_normal_block (xt_then (cd_region (st_v (v_move rfl) (st_v (v_add rfl rfl (by unfold I64 at *; omega)) ?_)))))))))))))))
        refine st_v (v_assign rfl) (st_nil (nx_kp [0, 2, 7, 8] rfl (nx_xt (xt_aq (.slice na (lsts l c (k + 1)).length ncap, N, k + 1) ⟨by show k + 1 ≤ l.length + 1; omega, hN, Nat.le_trans (ones_len hO) hl, fun j hj => ?_⟩ (by show l.length + 1 - (k + 1) < l.length + 1 - k; omega)))))
        rcases Nat.lt_or_ge j k with h | h
        · exact hno j h
        · have hj : j < k + 1 := hj
          rw [show j = k by omega]
          exact hit_no hni
  · skip
    have hkl : k = l.length + 1 := by have : ¬ k ≤ l.length := by simpa using hd
                                      omega
    subst hkl
    rw [further_miss hno]
    refine cd_exit (xt_exit_then (xt_exit_then (xt_exit_block (xt_then (cd_seq (cd_region (st_v (v_assign rfl) (st_nil (nx_kp [6] rfl (nx_then (cd_ret ?_)))))))))))
    exact xt_rt rfl ⟨T, rfl, rfl, Row.nil⟩ (by (repeat (refine Sub.sel (by repeat (first | exact Sel.here | apply Sel.there)) ?_)); (repeat apply Sub.cons); first | exact Sub.refl _ | exact Sub.nil _)
end
end Go.Hr
namespace Go.Hr
open Go Go.RowKit Go.Ck Go.Proofs Go.Proofs.YtjgiaohieadeiaaGreat Fx
attribute [local irreducible] Go.Ck.Sub St Cd Xt Nx DrL LsW
theorem further_len (l : Sys) (c a : Nm) : further l c a = [] ∨ (2 ≤ (further l c a).length ∧ (further l c a).length ≤ l.length + 2) := by
  unfold further
  cases hf : (List.range (l.length + 1)).findSome? fun k => hit a (lsts l c (k + 1)) with
  | none => exact .inl rfl
  | some w =>
    obtain ⟨k, hk, h⟩ := List.exists_of_findSome?_eq_some hf
    obtain ⟨_, h2, _⟩ := hit_some h
    have := List.mem_range.1 hk
    exact .inr ⟨by simp only [Option.getD_some]; omega, by simp only [Option.getD_some]; omega⟩
def noRing (l : Sys) (xs : Sys) : Prop := ∀ x ∈ xs, further l x.name x.name = []
theorem noRing_snoc {l xs : Sys} {x : Cls} : noRing l (xs ++ [x]) ↔ noRing l xs ∧ further l x.name x.name = [] := by
  unfold noRing
  constructor
  · exact fun h => ⟨fun y hy => h y (by simp [hy]), h x (by simp)⟩
  · rintro ⟨h1, h2⟩ y hy
    rcases List.mem_append.1 hy with hy | hy
    · exact h1 y hy
    · simp at hy; rw [hy]; exact h2
theorem noRing_acyc {l : Sys} : noRing l l ↔ Acyc l := by
  constructor
  · intro h c p hp
    have hc := par_of hp
    cases hh : has l p c with
    | false => rfl
    | true =>
      obtain ⟨x, hx, rfl⟩ := List.mem_map.1 (isC_iff.1 hc)
      exact absurd (h x hx) (further_ring.2 ⟨p, hp, hh⟩)
  · intro h x hx
    rcases further_len l x.name x.name with h1 | ⟨h1, _⟩
    · exact h1
    · obtain ⟨p, hp, hh⟩ := (further_ring (l := l) (c := x.name)).1 (fun e => by rw [e] at h1; simp at h1)
      rw [h x.name p hp] at hh; cases hh
section
variable {S : Res} {v : Value} {l : Sys}
set_option maxRecDepth 100000 in
theorem RingS_ct (hv : sysR S v l) (hl : l.length ≤ 24) (hp : ∀ x ∈ l, x.parents.length ≤ 1099511627776) : CtN Tryz.prog 68 #[v] [S] fun u T => ∃ r, u.oneCell' = true ∧ nmsR T u r ∧ r.length ≤ 1000 ∧ (r = [] ↔ noRing l l) := by
  obtain ⟨la, cap, rfl, _⟩ := id hv
  refine ct_of (n := 63) Tryz.func68 rfl rfl (len rfl) fun hr w0 => ?_
  refine cd_seq (cd_region (st_v (v_assign rfl) (st_nil (nx_then (cd_seq (cd_region (st_v (v_assign rfl) (st_nil (nx_then (cd_seq (cd_seq (cd_region (st_v (v_assign rfl) (st_nil (nx_then (cd_block ?_))))))))))))))))
  refine cd_vw (vw_unstar (L := [])) (cd_lq (σ := Value × List Nm × Res × Nat) (fun q => [(0, .slice la l.length cap), (3, q.1), (4, .int .i64 (q.2.2.2 : Nat))]) (fun q => q.2.2.1 :: S :: hr) (fun q => q.2.2.2 ≤ l.length ∧ nmsR q.2.2.1 q.1 q.2.1 ∧ q.2.1.length ≤ 1000 ∧ (q.2.1 = [] ↔ noRing l (l.take q.2.2.2))) (fun q => l.length - q.2.2.2) (.slice none 0 0, [], Res.star [], 0) ⟨Nat.zero_le _, Row.nil, by simp, by simp [noRing]⟩ ?_)
  rintro ⟨w, best, T, i⟩ ⟨hi, hw, hbl, hbn⟩
  simp only at hi hw hbl hbn
  dsimp only
  obtain ⟨wa, wcap, rfl, _⟩ := id hw
  refine cd_seq (cd_seq (cd_region (st_v (v_move rfl) (st_v (v_move rfl) (st_v (v_len rfl Tryz.underlying22) (st_v (v_lss rfl rfl) (st_v (v_move rfl) (st_cut (k := 9) (d := 15) (v := .bool (decide ((i : Int) < l.length) && decide ((l.length : Int) ≤ 24))) (fun hcut => bool_want (b := decide ((i : Int) < l.length)) true (fun hg => ?_) (fun hg => ?_)) ?_))))))))
  · refine st_sk rfl rfl hg ?_
    refine st_sk rfl rfl hg ?_
    refine st_sk rfl rfl hg ?_
    refine st_v (v_pick_false (bool_ev rfl hg) rfl) ?_
    exact hcut _ (ssub_head (by first | rfl | (rw [hg]; rfl) | simp_all) (ssub_skip rfl (ssub_skip rfl (ssub_skip rfl (ssub_refl)))))
  · skip
    refine st_vg rfl (bool_get rfl hg) (v_move rfl) (st_vg rfl (bool_get rfl hg) (v_len rfl Tryz.underlying22) (st_vg rfl (bool_get rfl hg) (v_leq rfl rfl) (st_v (v_pick_true (bool_ev rfl hg) rfl) ?_)))
    exact hcut _ (ssub_head (by first | rfl | (rw [hg]; rfl) | simp_all) (ssub_skip rfl (ssub_skip rfl (ssub_skip rfl (ssub_refl)))))
  refine st_nil (nx_kp [0, 3, 4, 15] rfl (nx_then ?_))
  rw [show decide ((l.length : Int) ≤ 24) = true from decide_eq_true (by omega), Bool.and_true]
  refine cd_cond rfl (fun hd => ?_) (fun hd => ?_)
  · skip
    have hlt : i < l.length := by simpa using hd
    have hxi := List.getElem?_eq_getElem hlt
    obtain ⟨b, o, cap2, d, f, pa, pc, c2, fa, fc, j2, hv2, hrd, hP, hone⟩ := sys_at hv hxi
    have htk := List.take_succ_eq_append_getElem hlt
    generalize l[i] = x at *
    refine cd_skip (xt_then (cd_seq (cd_block (cd_seq (cd_drawh (ork [(0, 2), (1, 2), (2, 2), (3, 2), (4, 2), (5, 1), (6, 2), (7, 2), (8, 2), (9, 2), (10, 1), (11, 0), (12, 2)] .nil) (fun i => !(Nat.beq i 11)) mixed (by kernel_rfl) ?_)))))
    refine dp_v rfl (v_move rfl) (dp_v rfl (v_move rfl) (dp_v rfl (v_move rfl) (dp_v rfl (v_indexAddr (k := i) (congrArg some hv2) rfl sl22 rfl hlt rfl) (dp_v rfl (v_fieldAddr rfl fa29_0 rfl) (dr_v rfl (v_ldy rfl ld9) ?_)))))
    refine dp_v rfl (v_move rfl) (dp_v rfl (v_move rfl) (dp_v rfl (v_indexAddr (k := i) (congrArg some hv2) rfl sl22 rfl hlt rfl) (dp_v rfl (v_fieldAddr rfl fa29_0 rfl) (dr_v rfl (v_ldy rfl ld9) ?_))))
    refine dr_eff rfl (st_cl rfl rfl en92 rfl (further_ct hv (by omega) hp x.name x.name) ?_)
    rintro u h' ⟨T2, rfl, hu1, hu⟩
    simp only [List.cons_append, List.nil_append]
    have hfl := further_len l x.name x.name
    have hsn := noRing_snoc (l := l) (xs := l.take i) (x := x)
    rw [← htk] at hsn
    generalize further l x.name x.name = r at *
    obtain ⟨ua, ucap, rfl, huc, _⟩ := id hu
    refine dr_nx ?_
    refine dp_v rfl (v_assign rfl) (dr_nil (nx_kp [0, 3, 4, 5] rfl (nx_then (cd_seq (cd_seq (cd_region (st_v (v_move rfl) (st_v (v_len rfl Tryz.underlying25) (st_v (v_eql rfl rfl) (st_nil (nx_kp [0, 3, 4, 5, 32] rfl (nx_then ?_))))))))))))
    have hrl : r.length ≤ 26 := by rcases hfl with h | h; rw [h]; simp; omega
    refine cd_cond rfl (fun he => ?_) (fun he => ?_)
    · skip
      have he : r = [] := by simpa using he
      refine cd_exit (xt_exit_then (xt_exit_block (xt_then (cd_region (st_v (v_move rfl) (st_v (v_add rfl rfl (by unfold I64 at *; omega)) (st_v (v_assign rfl) (st_nil (nx_kp [0, 3, 4] rfl (nx_xt ?_))))))))))
      refine xt_aq (.slice wa best.length wcap, best, T, i + 1) ⟨hlt, hw, hbl, by rw [hbn]; exact ⟨fun h => hsn.2 ⟨h, he⟩, fun h => (hsn.1 h).1⟩⟩ (Nat.sub_lt_sub_left hlt (Nat.lt_succ_self i))
    · skip
      have he : r ≠ [] := by simpa using he
      have h2 : 2 ≤ r.length := (hfl.resolve_left he).1
      have hnr : ¬ noRing l (l.take (i + 1)) := fun h => he (hsn.1 h).2
      refine cd_skip (xt_then (cd_seq (cd_region (st_v (v_move rfl) (st_v (v_move rfl) (st_v (v_len rfl Tryz.underlying25) (st_v (v_sub rfl rfl (by unfold I64 at *; omega)) ?_)))))))
      obtain ⟨rb, ro, rcap, hrv, _⟩ := nms_at hu (List.getElem?_eq_getElem (show 0 < r.length by omega))
      cases hrv
      refine st_v (v_sliceHead (hi := r.length - 1) rfl rfl sl25 (by omega) (by omega)) (st_v (v_assign rfl) (st_nil (nx_kp [0, 3, 4, 5] rfl (nx_then (cd_seq (cd_region (st_v (v_move rfl) (st_v (v_move rfl) ?_))))))))
      have hu2 := Row.take (k := r.length - 1) hu (by omega)
      have hrl2 : (r.take (r.length - 1)).length = r.length - 1 := by simp
      have hrn : r.take (r.length - 1) ≠ [] := fun e => by rw [e] at hrl2; simp at hrl2; omega
      generalize r.take (r.length - 1) = r2 at *
      rw [← hrl2] at hu2
      rw [← hrl2]
      refine st_clr rfl rfl en93 rfl (Before_ct hu2 hw (by omega) (by omega)) ?_
      refine st_v (v_assign rfl) (st_nil (nx_kp [0, 3, 4, 5, 6] rfl (nx_then (cd_seq (cd_region (st_v (v_move rfl) (st_v (v_len rfl Tryz.underlying25) (st_v (v_eql rfl rfl) (st_v (v_move rfl) (st_cut (k := 10) (d := 50) (v := .bool (((best.length : Int) == 0) || decide ((r2.length : Int) < best.length))) (fun hcut => bool_want (b := ((best.length : Int) == 0)) false (fun hg => ?_) (fun hg => ?_)) ?_))))))))))
      · refine st_sk rfl rfl hg ?_
        refine st_sk rfl rfl hg ?_
        refine st_sk rfl rfl hg ?_
        refine st_sk rfl rfl hg ?_
        refine st_sk rfl rfl hg ?_
        refine st_v (v_pick_true (bool_ev rfl hg) rfl) ?_
        exact hcut _ (ssub_head (by first | rfl | (rw [hg]; rfl) | simp_all) (ssub_skip rfl (ssub_skip rfl (ssub_skip rfl (ssub_skip rfl (ssub_skip rfl (ssub_refl)))))))
      · skip
        refine st_vg rfl (bool_get rfl hg) (v_move rfl) (st_vg rfl (bool_get rfl hg) (v_len rfl Tryz.underlying25) (st_vg rfl (bool_get rfl hg) (v_move rfl) (st_vg rfl (bool_get rfl hg) (v_len rfl Tryz.underlying25) (st_vg rfl (bool_get rfl hg) (v_lss rfl rfl) (st_v (v_pick_false (bool_ev rfl hg) rfl) ?_)))))
        exact hcut _ (ssub_head (by first | rfl | (rw [hg]; rfl) | simp_all) (ssub_skip rfl (ssub_skip rfl (ssub_skip rfl (ssub_skip rfl (ssub_skip rfl (ssub_refl)))))))
      refine st_v (v_move rfl) (st_cut (k := 20) (d := 60) (v := .bool ((((best.length : Int) == 0) || decide ((r2.length : Int) < best.length)) || (((r2.length : Int) == best.length) && lexLt r2 best))) (fun hcut => bool_want (b := (((best.length : Int) == 0) || decide ((r2.length : Int) < best.length))) false (fun hg => ?_) (fun hg => ?_)) ?_)
      · refine st_sk rfl rfl hg ?_
        refine st_sk rfl rfl hg ?_
        refine st_sk rfl rfl hg ?_
        refine st_sk rfl rfl hg ?_
        refine st_sk rfl rfl hg ?_
        refine st_sk rfl rfl hg ?_
        refine st_sku rfl rfl ?_
        refine st_sk rfl rfl hg ?_
        refine st_v (v_pick_true (bool_ev rfl hg) rfl) ?_
        exact hcut _ (ssub_head (by first | rfl | (rw [hg]; rfl) | simp_all) (ssub_skip rfl (ssub_skip rfl (ssub_skip rfl (ssub_skip rfl (ssub_skip rfl (ssub_skip rfl (ssub_skip rfl (ssub_skip rfl (ssub_refl))))))))))
      · skip
        refine st_vg rfl (bool_get rfl hg) (v_move rfl) (st_vg rfl (bool_get rfl hg) (v_len rfl Tryz.underlying25) (st_vg rfl (bool_get rfl hg) (v_move rfl) (st_vg rfl (bool_get rfl hg) (v_len rfl Tryz.underlying25) (st_vg rfl (bool_get rfl hg) (v_eql rfl rfl) (st_vg rfl (bool_get rfl hg) (v_move rfl) (st_cut (k := 19) (d := 59) (v := .bool (((r2.length : Int) == best.length) && lexLt r2 best)) (fun hcut => bool_want (b := ((r2.length : Int) == best.length)) true (fun hg1 => ?_) (fun hg1 => ?_)) ?_))))))
        · refine st_sk rfl rfl hg1 ?_
          refine st_vg rfl (bool_get rfl hg) (v_pick_false (bool_ev rfl hg1) rfl) ?_
          exact hcut _ (ssub_head (by first | rfl | (rw [hg1]; rfl) | simp_all) (ssub_skip rfl (ssub_refl)))
        · skip
          refine st_vg rfl (bool_get rfl hg1) (v_move rfl) (st_vg rfl (bool_get rfl hg) (v_pick_true (bool_ev rfl hg1) rfl) ?_)
          exact hcut _ (ssub_head (by first | rfl | (rw [hg1]; rfl) | simp_all) (ssub_skip rfl (ssub_refl)))
        refine st_v (v_pick_false (bool_ev rfl hg) rfl) ?_
        exact hcut _ (ssub_head (by first | rfl | (rw [hg]; rfl) | simp_all) (by repeat (first | exact ssub_refl | refine ssub_skip rfl ?_)))
      refine st_nil (nx_kp [0, 3, 4, 5, 60] rfl (nx_then (cd_cond rfl (fun hb => ?_) (fun hb => ?_))))
      · skip
        refine cd_region (st_v (v_move rfl) (st_v (v_assign rfl) (st_nil (nx_kp [0, 3, 4] rfl (nx_xt (xt_normal_block (xt_then (cd_region (st_v (v_move rfl) (st_v (v_add rfl rfl (by unfold I64 at *; omega)) (st_v (v_assign rfl) (st_nil (nx_kp [0, 3, 4] rfl (nx_xt ?_))))))))))))))
        refine xt_aq (.slice (some ⟨rb, ro, none⟩) r2.length ucap, r2, T2, i + 1) ⟨hlt, hu2, by show r2.length ≤ 1000; omega, ⟨fun h => absurd h hrn, fun h => absurd h hnr⟩⟩ (Nat.sub_lt_sub_left hlt (Nat.lt_succ_self i))
      · skip
        have hbe : best ≠ [] := fun e => by rw [e] at hb; simp at hb
        refine cd_skip (xt_normal_block (xt_then (cd_region (st_v (v_move rfl) (st_v (v_add rfl rfl (by unfold I64 at *; omega)) (st_v (v_assign rfl) (st_nil (nx_kp [0, 3, 4] rfl (nx_xt ?_)))))))))
        refine xt_aq (.slice wa best.length wcap, best, T, i + 1) ⟨hlt, hw, hbl, ⟨fun h => absurd h hbe, fun h => absurd h hnr⟩⟩ (Nat.sub_lt_sub_left hlt (Nat.lt_succ_self i))
  · skip
    have hil : i = l.length := by have : ¬ i < l.length := by simpa using hd
                                  omega
    subst hil
    rw [List.take_length] at hbn
    refine cd_exit (xt_exit_then (xt_exit_then (xt_exit_block (xt_then (cd_seq (cd_region (st_v (v_move rfl) (st_v (v_assign rfl) (st_nil (nx_kp [2] rfl (nx_then (cd_ret ?_))))))))))))
    exact xt_rt rfl ⟨T, rfl, best, rfl, hw, hbl, hbn⟩ (by (repeat (refine Sub.sel (by repeat (first | exact Sel.here | apply Sel.there)) ?_)); (repeat apply Sub.cons); first | exact Sub.refl _ | exact Sub.nil _)
end
end Go.Hr
