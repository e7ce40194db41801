/-
  The chapter's example is as it must be: sanity. No condition.
  HeapNil: a nil memory has the errors, and the zero values, that it must have. No condition: for every call.
  Small lemmas that the reference and the player share: arrays loaded, lists forwarded, the law's fit, a new machine. Conditions: what the heap holds.
  What the arguments of the laws read as: shapes, rows, numbers, acts. No condition.
  Pictures: their parts, and what holds them; objects of the plain machine. Conditions: what the heap holds, that the machine is in order.
  A range over a map that is not written: what is left, what comes out; contracts whose rows are opened. Generic: nothing of the program is named here. No condition.
  Package heap's Copy. Conditions: what the heap holds, that the machine is in order.
  The law's calls: short, called; what a call keeps. Conditions: what the heap holds, that the machine is in order.
  What a list of calls reads as. No condition.
-/
import Derived.Test.YtmhmpjgkkpbnnaaM9
import Derived.Test.YtmhmpjgkkpbnnaaM7
import Derived.Test.YtmhmpjgkkpbnnaaM2
import Derived.JoinedCond
import Derived.Test.YtmhmpjgkkpbnnaaM4
import Derived.Laws.IdiomRangeMap
namespace Go.Ck
open Go
section
variable {c : Cx} {ops : Array Oper} {K : Act → World → Prop} {rest : List Oper} {e : Env} {h : SH}
/-- An operation with an effect, at a guard that says yes. -/
theorem st_guard {d : Option Nat} {op : Op} {ty : TypeId} {pos : String} {after : Array Edge} {g gd : Nat} {want : Bool} (hd : ∀ k, op ≠ .defer k) (hg : ((ops[g]?).bind (·.dst)) = some gd) (hgv : e.get? gd = some (.bool want))
    (hs : St c ops K (⟨d, op, ty, pos, after, none⟩ :: rest) e h) : St c ops K (⟨d, op, ty, pos, after, some (g, want)⟩ :: rest) e h := fun a w hk hh hw => by
  have h1 := hs a w hk hh hw
  unfold LsW at h1 ⊢
  rw [if_pos (by simp [Region.wanted])] at h1
  rw [if_pos (by simp [Region.wanted, yields_guard hg hgv hk])]
  unfold OpW OpV at h1 ⊢
  rw [Oper.semAt_eq _ _ _ hd] at h1 ⊢
  exact h1
end
end Go.Ck
namespace Go.Proofs.Ytmhmpjgkkpbnnaa
open Go.Ck Fx Go.Hm Go.Hm.AM
attribute [local irreducible] St Cd Xt Nx DrL LsW
theorem eqi54 : EqI Try.prog 54 3 := EqI.of Try.underlying54 (by kernel_rfl) (by kernel_rfl) (by kernel_rfl) rfl
theorem rowI_pt {b : Nat} {l : List Int} : RowI (pt b (cl (ints l) 3)) (.slice (some ⟨b, 0, none⟩) l.length l.length) l := ⟨_, _, rfl, .inr ⟨b, 0, rfl, fun j hj => rd_cl (by simp [ints, hj])⟩⟩
set_option maxRecDepth 100000 in
theorem sameInts2_ct {R1 R2 : Res} {v1 v2 : Value} {l1 l2 : List Int} (h1 : RowI R1 v1 l1) (h2 : RowI R2 v2 l2) (hl : l1.length ≤ 1000000) : Reads Try.prog 21 #[v1, v2] [R1, R2] (.bool (l1 == l2)) :=
  Reads.unstar (sameInts_ct (RowI.star .here h1) (RowI.star (.there .here) h2) hl)
theorem rowI_vec {v : Value} {n : Nat} {l : List Int} {a : Option Addr} {cp : Nat} (hv : v = .slice a n cp) (ha : 0 < n → ∃ b, a = some ⟨b, 0, none⟩) (hn : l.length = n) : RowI (vec v 3 1 n (ints l)) v l := by
  subst hn
  refine ⟨a, cp, hv, ?_⟩
  by_cases h0 : l.length = 0
  · exact .inl (List.eq_nil_of_length_eq_zero h0)
  · obtain ⟨b, rfl⟩ := ha (by omega)
    exact .inr ⟨b, 0, rfl, fun j hj => by rw [Nat.zero_add]; exact rd_vec hv (by simp [ints, hj])⟩
set_option maxHeartbeats 8000000 in
set_option maxRecDepth 100000 in
theorem sanity_c : Ct Try.prog 14 #[] [] fun v h' => v = .bool true ∧ h' = [] := by
  refine ct_of (n := 209) Try.func14 rfl rfl (len rfl) fun hr w0 => ?_
  simp only [List.nil_append]
  refine cd_seq (cd_region (st_v (v_assign rfl) (st_nil (nx_then (cd_seq (cd_region (st_cl rfl rfl en39 rfl (shapes_ct) ?_)))))))
  rintro v' h' ⟨R, hR, rfl⟩
  simp only [List.cons_append, List.nil_append]
  refine st_cl rfl rfl en15 rfl (new_c hR (by decide)) ?_
  rintro v' h' hu
  rcases hu with ⟨h1, _⟩ | ⟨_, L, μ0, S, rfl, I0, rfl⟩
  · exact absurd (by decide) h1
  have I0 : MI L μ0 S sm0 := I0
  simp only [memSH, List.cons_append, List.nil_append]
  refine st_v (v_move rfl) (st_v (v_extract rfl rfl) (st_v (v_extract rfl rfl) (st_v (v_assign rfl) (st_v (v_assign rfl) (st_nil (nx_kp [0, 1, 2] rfl (nx_then (cd_seq (cd_seq (cd_region (st_v (v_move rfl) (st_v (v_neq rfl rfl) (st_v (v_move rfl) (st_vg rfl rfl (v_move rfl) (st_vg rfl rfl (v_eql_ptr_nil rfl rfl pt27) ?_)))))))))))))))
  refine st_v (v_pick_false rfl rfl) (st_nil (nx_kp [0, 1, 38] rfl (nx_then (cd_false rfl ?_))))
  refine cd_skip (xt_then (cd_seq (cd_region (st_v (v_move rfl) ?_))))
  obtain ⟨_, _, _, _, _, g0⟩ := sf0
  obtain ⟨_, _, _, _, _, g1⟩ := sf0.alloc 0
  obtain ⟨_, _, _, _, _, g2⟩ := (sf0.alloc 0).alloc 0
  obtain ⟨_, _, _, _, _, g3⟩ := sf3
  refine st_cl rfl rfl en33 rfl (alloc_c I0 g0 0) ?_
  rintro v' h' ⟨μ1, rfl, I1, rfl⟩
  have I1 : MI L μ1 S sm1 := I1
  rw [se1.1, se1.2]
  simp only [memSH, List.cons_append, List.nil_append]
  refine st_v (v_move rfl) (st_v (v_extract rfl rfl) (st_v (v_extract rfl rfl) (st_v (v_assign rfl) (st_v (v_assign rfl) (st_nil (nx_kp [0, 1, 3, 4] rfl (nx_then (cd_seq (cd_region (st_v (v_move rfl) (st_cl rfl rfl en33 rfl (alloc_c I1 g1 0) ?_)))))))))))
  rintro v' h' ⟨μ2, rfl, I2, rfl⟩
  have I2 : MI L μ2 S sm2 := I2
  rw [se2.1, se2.2]
  simp only [memSH, List.cons_append, List.nil_append]
  refine st_v (v_move rfl) (st_v (v_extract rfl rfl) (st_v (v_extract rfl rfl) (st_v (v_assign rfl) (st_v (v_assign rfl) (st_nil (nx_kp [0, 1, 3, 4, 5, 6] rfl (nx_then (cd_seq (cd_region (st_v (v_move rfl) (st_cl rfl rfl en33 rfl (alloc_c I2 g2 0) ?_)))))))))))
  rintro v' h' ⟨μ3, rfl, I3, rfl⟩
  have I3 : MI L μ3 S sm3 := I3
  rw [se3.1, se3.2]
  simp only [memSH, List.cons_append, List.nil_append]
  refine st_v (v_move rfl) (st_v (v_extract rfl rfl) (st_v (v_extract rfl rfl) (st_v (v_assign rfl) (st_v (v_assign rfl) (st_nil (nx_kp [0, 1, 3, 4, 5, 6, 7, 8] rfl (nx_then (cd_seq (cd_region (st_v (v_move rfl) (st_cl rfl rfl en33 rfl (alloc_c I3 g3 0) ?_)))))))))))
  rintro v' h' ⟨μ4, rfl, I4, rfl⟩
  have I4 : MI L μ4 S sm3 := by have e : (sm3.alloc 0).2.2 = sm3 := (alloc_err (by rw [se4.2]; decide)).1
                                rw [← e]; exact I4
  rw [se4.1, se4.2]
  simp only [memSH, List.cons_append, List.nil_append]
  refine st_v (v_move rfl) (st_v (v_extract rfl rfl) (st_v (v_extract rfl rfl) (st_v (v_assign rfl) (st_v (v_assign rfl) (st_nil (nx_kp [0, 1, 3, 4, 5, 6, 7, 8, 10] rfl (nx_then (cd_seq (cd_region (st_v (v_move rfl) (st_cl rfl rfl en40 rfl (set_c I4 g3 1 1 4) ?_)))))))))))
  rintro v' h' ⟨L5, μ5, rfl, I5, hL5, rfl⟩
  have I5 : MI L5 μ5 S sm5 := I5
  rw [se5, ← hL5]
  simp only [memSH, List.cons_append, List.nil_append]
  obtain ⟨_, _, _, _, _, g5⟩ := sf5
  refine st_v (v_assign rfl) (st_nil (nx_kp [0, 1, 3, 4, 5, 6, 7, 8, 10, 11] rfl (nx_then (cd_seq (cd_region (st_v (v_move rfl) (st_buildSlice (cells := [.int .i64 4, .int .i64 1]) rfl Try.underlying34 inf3 rfl rfl (by kernel_rfl) (ltn rfl) fun b63 => ?_)))))))
  refine st_cl rfl rfl en34 rfl (minor_c I5 g5 (rowI_pt (b := b63) (l := [4, 1])) (by decide)) ?_
  rintro v' h' ⟨sl6, L6, μ6, rfl, I6, hL6, rfl⟩
  have I6 : MI L6 μ6 S sm6 := I6
  rw [se6.1, se6.2.1, ← hL6]
  simp only [memSH, List.cons_append, List.nil_append]
  refine st_v (v_move rfl) (st_v (v_extract rfl rfl) (st_v (v_extract rfl rfl) (st_v (v_assign rfl) (st_v (v_assign rfl) (st_nil (nx_kp [0, 1, 3, 4, 5, 6, 7, 8, 10, 11, 12, 13] rfl (nx_then (cd_seq (cd_seq (cd_vecshape (v := sl6) (E := 3) (sz := 1) (n := 2) (l := ints [11, 14]) (by repeat (first | exact Sel.here | apply Sel.there)) fun sa6 sc6 hs6 ha6 => ?_))))))))))
  refine cd_region (st_v (v_move rfl) (st_v (v_neq rfl rfl) (st_v (v_move rfl) (st_vg rfl rfl (v_move rfl) (st_vg rfl rfl (v_neq rfl rfl) (st_v (v_pick_false rfl rfl) (st_v (v_move rfl) (st_vg rfl rfl (v_move rfl) (st_vg rfl rfl (v_neq rfl rfl) (st_v (v_pick_false rfl rfl) (st_v (v_move rfl) (st_vg rfl rfl (v_move rfl) (st_vg rfl rfl (v_neq rfl rfl) ?_)))))))))))))
  refine st_v (v_pick_false rfl rfl) (st_v (v_move rfl) (st_vg rfl rfl (v_move rfl) (st_vg rfl rfl (v_neq rfl rfl) (st_v (v_pick_false rfl rfl) (st_v (v_move rfl) (st_vg rfl rfl (v_move rfl) (st_vg rfl rfl (v_neq rfl rfl) (st_v (v_pick_false rfl rfl) (st_v (v_move rfl) (st_vg rfl rfl (v_move rfl) (st_vg rfl rfl (v_neq rfl rfl) (st_v (v_pick_false rfl rfl) (st_v (v_move rfl) ?_)))))))))))))
  refine st_vg rfl rfl (v_move rfl) (st_vg rfl rfl (v_neq rfl rfl) (st_v (v_pick_false rfl rfl) (st_v (v_move rfl) (st_vg rfl rfl (v_move rfl) (st_vg rfl rfl (v_neq rfl rfl) (st_v (v_pick_false rfl rfl) (st_v (v_move rfl) (st_vg rfl rfl (v_move rfl) (st_guard (by simp) rfl rfl (st_buildSlice (cells := [.int .i64 11, .int .i64 14]) rfl Try.underlying34 inf3 rfl rfl (by kernel_rfl) (ltn rfl) fun b103 => ?_))))))))))
  refine st_clrg rfl rfl rfl rfl en21 rfl (sameInts2_ct (l1 := [11, 14]) (l2 := [11, 14]) (rowI_vec hs6 ha6 rfl) (rowI_pt (b := b103) (l := [11, 14])) (by decide)) ?_
  rw [show (([11, 14] : List Int) == [11, 14]) = true by decide]
  refine st_vg rfl rfl (v_not rfl) (st_v (v_pick_false rfl rfl) (st_nil (nx_kp [0, 1, 12, 106] rfl (nx_then (cd_false rfl ?_)))))
  refine cd_skip (xt_then (cd_seq (cd_region (st_v (v_move rfl) ?_))))
  obtain ⟨_, _, _, _, _, g6⟩ := sf6
  refine st_clr rfl rfl en24 rfl (room_c I6) ?_
  rw [se6r]
  refine st_v (v_build (cells := ints [0, 6, 0]) rfl (fun _ => by kernel_rfl)) ?_
  refine st_v (v_eql_ints (xs := [0, 6, 0]) (ys := [0, 6, 0]) eqi54 rfl rfl rfl rfl) ?_
  rw [show (([0, 6, 0] : List Int) == [0, 6, 0]) = true by decide]
  refine st_v (v_assign rfl) (st_nil (nx_kp [0, 1, 12, 14] rfl (nx_then (cd_seq (cd_region (st_v (v_move rfl) (st_cl rfl rfl en41 rfl (get_c I6 g6 14 1) ?_)))))))
  rintro v' h' ⟨μ7, rfl, I7, rfl⟩
  have I7 : MI L6 μ7 S sm7 := I7
  rw [se7.1, se7.2]
  simp only [memSH, List.cons_append, List.nil_append]
  obtain ⟨_, _, _, _, _, g7⟩ := sf7
  refine st_v (v_move rfl) (st_v (v_extract rfl rfl) (st_v (v_extract rfl rfl) (st_v (v_assign rfl) (st_v (v_assign rfl) (st_nil (nx_kp [0, 1, 12, 14, 15, 16] rfl (nx_then (cd_seq (cd_region (st_v (v_move rfl) (st_clr rfl rfl en42 rfl (shape_c I7 g7 4) ?_)))))))))))
  rw [se7s]
  refine st_v (v_move rfl) (st_v (v_extract rfl rfl) (st_v (v_extract rfl rfl) (st_v (v_assign rfl) (st_v (v_assign rfl) (st_nil (nx_kp [0, 1, 12, 14, 15, 16, 18] rfl (nx_then (cd_seq (cd_region (st_v (v_move rfl) (st_buildSlice (cells := [.int .i64 14]) rfl Try.underlying34 inf3 rfl rfl (by kernel_rfl) (ltn rfl) fun b123 => ?_)))))))))))
  refine st_cl rfl rfl en43 rfl (flip_c I7 g7 (rowI_pt (b := b123) (l := [14])) (by decide)) ?_
  rintro v' h' ⟨sl8, L8, μ8, rfl, I8, hL8, rfl⟩
  have I8 : MI L8 μ8 S sm8 := I8
  rw [se8.1, se8.2.1, ← hL8]
  simp only [memSH, List.cons_append, List.nil_append]
  obtain ⟨_, _, _, _, _, g8⟩ := sf8
  refine st_v (v_move rfl) (st_v (v_extract rfl rfl) (st_v (v_extract rfl rfl) (st_v (v_assign rfl) (st_v (v_assign rfl) (st_nil (nx_kp [0, 1, 12, 14, 15, 16, 18, 19] rfl (nx_then (cd_seq (cd_region (st_v (v_move rfl) (st_clr rfl rfl en24 rfl (room_c I8) ?_)))))))))))
  rw [se8r]
  refine st_v (v_build (cells := ints [0, 3, 3]) rfl (fun _ => by kernel_rfl)) ?_
  refine st_v (v_eql_ints (xs := [0, 3, 3]) (ys := [0, 3, 3]) eqi54 rfl rfl rfl rfl) ?_
  rw [show (([0, 3, 3] : List Int) == [0, 3, 3]) = true by decide]
  refine st_v (v_assign rfl) (st_nil (nx_kp [0, 1, 12, 14, 15, 16, 18, 19, 20] rfl (nx_then (cd_seq (cd_region (st_v (v_move rfl) (st_cl rfl rfl en41 rfl (get_c I8 g8 51 1) ?_)))))))
  rintro v' h' ⟨μ9, rfl, I9, rfl⟩
  have I9 : MI L8 μ9 S sm9 := I9
  rw [se9.1, se9.2]
  simp only [memSH, List.cons_append, List.nil_append]
  obtain ⟨_, _, _, _, _, g9⟩ := sf9
  refine st_v (v_move rfl) (st_v (v_extract rfl rfl) (st_v (v_extract rfl rfl) (st_v (v_assign rfl) (st_v (v_assign rfl) (st_nil (nx_kp [0, 1, 12, 14, 15, 16, 18, 19, 20, 21, 22] rfl (nx_then (cd_seq (cd_region (st_v (v_move rfl) (st_clr rfl rfl en24 rfl (room_c I9) ?_)))))))))))
  rw [se9r.1]
  refine st_v (v_build (cells := ints [0, 6, 0]) rfl (fun _ => by kernel_rfl)) ?_
  refine st_v (v_eql_ints (xs := [0, 6, 0]) (ys := [0, 6, 0]) eqi54 rfl rfl rfl rfl) ?_
  rw [show (([0, 6, 0] : List Int) == [0, 6, 0]) = true by decide]
  refine st_v (v_assign rfl) (st_nil (nx_kp [0, 1, 12, 14, 15, 16, 18, 19, 20, 21, 22, 23] rfl (nx_then (cd_seq (cd_region (st_v (v_move rfl) (st_cl rfl rfl en31 rfl (step_c I9 g9 3 (by unfold I64; omega)) ?_)))))))
  rintro v' h' ⟨L10, μ10, rfl, I10, hL10, rfl⟩
  have I10 : MI L10 μ10 S sm10 := I10
  rw [se10.1, se10.2.1, ← hL10]
  simp only [memSH, List.cons_append, List.nil_append]
  obtain ⟨_, _, _, _, _, g10⟩ := sf10
  refine st_v (v_move rfl) (st_v (v_extract rfl rfl) (st_v (v_extract rfl rfl) (st_v (v_assign rfl) (st_v (v_assign rfl) (st_nil (nx_kp [0, 1, 12, 14, 15, 16, 18, 19, 20, 21, 22, 23, 24, 25] rfl (nx_then (cd_seq (cd_region (st_v (v_move rfl) (st_cl rfl rfl en31 rfl (step_c I10 g10 3 (by unfold I64; omega)) ?_)))))))))))
  rintro v' h' ⟨L11, μ11, rfl, I11, hL11, rfl⟩
  have I11 : MI L11 μ11 S sm11 := I11
  rw [se11.1, se11.2.1, ← hL11]
  simp only [memSH, List.cons_append, List.nil_append]
  obtain ⟨_, _, _, _, _, g11⟩ := sf11
  refine st_v (v_move rfl) (st_v (v_extract rfl rfl) (st_v (v_extract rfl rfl) (st_v (v_assign rfl) (st_v (v_assign rfl) (st_nil (nx_kp [0, 1, 12, 14, 15, 16, 18, 19, 20, 21, 22, 23, 24, 25, 26, 27] rfl (nx_then (cd_seq (cd_seq (cd_region (st_v (v_move rfl) (st_v (v_neq rfl rfl) (st_v (v_move rfl) (st_vg rfl rfl (v_move rfl) (st_vg rfl rfl (v_neq rfl rfl) ?_)))))))))))))))
  refine st_v (v_pick_false rfl rfl) (st_v (v_move rfl) (st_vg rfl rfl (v_move rfl) (st_vg rfl rfl (v_neq rfl rfl) (st_v (v_pick_false rfl rfl) (st_v (v_move rfl) (st_vg rfl rfl (v_move rfl) (st_vg rfl rfl (v_neq rfl rfl) (st_v (v_pick_false rfl rfl) (st_v (v_move rfl) (st_vg rfl rfl (v_move rfl) (st_vg rfl rfl (v_neq rfl rfl) (st_v (v_pick_false rfl rfl) (st_v (v_move rfl) ?_)))))))))))))
  refine st_vg rfl rfl (v_move rfl) (st_vg rfl rfl (v_neq rfl rfl) (st_v (v_pick_false rfl rfl) (st_v (v_move rfl) (st_vg rfl rfl (v_move rfl) (st_vg rfl rfl (v_neq rfl rfl) (st_v (v_pick_false rfl rfl) (st_v (v_move rfl) (st_vg rfl rfl (v_move rfl) (st_vg rfl rfl (v_neq rfl rfl) (st_v (v_pick_false rfl rfl) (st_v (v_move rfl) (st_vg rfl rfl (v_move rfl) (st_vg rfl rfl (v_neq rfl rfl) ?_)))))))))))))
  refine st_v (v_pick_false rfl rfl) (st_v (v_move rfl) (st_vg rfl rfl (v_move rfl) (st_vg rfl rfl (v_neq rfl rfl) (st_v (v_pick_false rfl rfl) (st_v (v_move rfl) (st_vg rfl rfl (v_move rfl) (st_clrg rfl rfl rfl rfl en23 rfl (busy_c I11) ?_)))))))
  rw [se11.2.2]
  refine st_v (v_pick_false rfl rfl) (st_nil (nx_kp [0, 1, 12, 14, 20, 23, 191] rfl (nx_then (cd_false rfl ?_))))
  refine cd_skip (xt_then (cd_seq (cd_vecshape (v := sl8) (E := 3) (sz := 1) (n := 1) (l := ints [51]) (by repeat (first | exact Sel.here | apply Sel.there)) fun sa8 sc8 hs8 ha8 => ?_)))
  refine cd_region (st_v (v_move rfl) (st_v (v_move rfl) (st_vg rfl rfl (v_move rfl) (st_v (v_pick_true rfl rfl) (st_v (v_move rfl) (st_vg rfl rfl (v_move rfl) (st_v (v_pick_true rfl rfl) (st_v (v_move rfl) (st_vg rfl rfl (v_move rfl) (st_guard (by simp) rfl rfl (st_buildSlice (cells := [.int .i64 51]) rfl Try.underlying34 inf3 rfl rfl (by kernel_rfl) (ltn rfl) fun b201 => ?_)))))))))))
  refine st_clrg rfl rfl rfl rfl en21 rfl (sameInts2_ct (l1 := [51]) (l2 := [51]) (rowI_vec hs8 ha8 rfl) (rowI_pt (b := b201) (l := [51])) (by decide)) ?_
  rw [show (([51] : List Int) == [51]) = true by decide]
  refine st_v (v_pick_true rfl rfl) (st_v (v_move rfl) (st_vg rfl rfl (v_move rfl) (st_clrg rfl rfl rfl rfl en26 rfl (check_c I11 g11) ?_)))
  refine st_vg rfl rfl (v_eql rfl rfl) (st_v (v_pick_true rfl rfl) (st_v (v_assign rfl) (st_nil (nx_kp [0] rfl (nx_then (cd_ret ?_))))))
  exact xt_rt rfl ⟨rfl, rfl⟩
end Go.Proofs.Ytmhmpjgkkpbnnaa
namespace Go.Ck
open Go
section
variable {P : Program} {e : Env} {h h' : SH} {ty : TypeId}
theorem v_rem {t t' : TypeId} {x y : Operand} {k : IntKind} {a b : Int} (hx : e.ev? x = some (.int k a)) (hy : e.ev? y = some (.int k b)) (hb : b ≠ 0) (hw : k.wrap (a.tmod b) = a.tmod b) : Vop P e h (.binOp .rem t x y t') ty (.int k (a.tmod b)) :=
  ⟨by simp, by simp, fun ρ w d pos after g hρ _ => by simp [execOp, hρ x _ hx, hρ y _ hy, eqGuard_rem, binOp_rem, Op.intDiv, hb, hw]⟩
end
end Go.Ck
namespace Go.Proofs.Ytmhmpjgkkpbnnaa
open Go.Ck Fx Go.Hm Go.Hm.AM
attribute [local irreducible] St Cd Xt Nx DrL LsW
def kindOf (n : Int) : Int := ((n.tmod 7) + 7).tmod 7
theorem tmod7 (n : Int) : -7 < n.tmod 7 ∧ n.tmod 7 < 7 := by
  have := Int.tmod_lt_of_pos n (b := 7) (by decide)
  have := Int.lt_tmod_of_pos n (b := 7) (by decide)
  omega
theorem kindOf_bd (n : Int) : 0 ≤ kindOf n ∧ kindOf n < 7 := by
  have h1 := tmod7 n
  unfold kindOf
  have h2 := Int.tmod_lt_of_pos (n.tmod 7 + 7) (b := 7) (by decide)
  have h3 := Int.tmod_nonneg (a := n.tmod 7 + 7) 7 (by omega)
  omega
set_option maxRecDepth 100000 in
theorem kind_ct {a b c d : Int} {v : Value} : Ct Try.prog 49 #[.agg #[.int .i64 a, .int .i64 b, .int .i64 c, .int .i64 d, v]] [] fun u h' => u = .int .i64 (kindOf a) ∧ h' = [] := by
  have h1 := tmod7 a
  have h2 := kindOf_bd a
  refine ct_of (n := 8) Try.func49 rfl rfl (len rfl) fun hr w0 => ?_
  simp only [List.nil_append]
  refine cd_seq (cd_region (st_bx rfl rfl fun b1 => ?_))
  refine st_v (v_assign rfl) (st_nil (nx_kp [1, 2] rfl (nx_then (cd_seq (cd_region (st_v (v_fieldAddr rfl fa38_0 rfl) (st_v (v_ld rfl ld3) ?_)))))))
  refine st_v (v_rem rfl rfl (by decide) (I64.wrap (by unfold I64; omega))) ?_
  refine st_v (v_add rfl rfl (by unfold I64 at *; omega)) (st_v (v_rem rfl rfl (by decide) (I64.wrap (by unfold I64; exact ⟨by unfold kindOf at h2; omega, by unfold kindOf at h2; omega⟩))) ?_)
  refine st_v (v_assign rfl) (st_nil (nx_kp [2] rfl (nx_then (cd_ret ?_))))
  exact xt_rt rfl ⟨rfl, rfl⟩
set_option maxRecDepth 100000 in
theorem called_nil_ct {a b c d : Int} {v : Value} (hd : I64 b) : Ct Try.prog 17 #[.pointer none, .agg #[.int .i64 a, .int .i64 b, .int .i64 c, .int .i64 d, v]] [] fun u h' => u = .tuple #[.int .i64 0, .slice none 0 0, .int .i64 12] ∧ h' = [] := by
  refine ct_of (n := 79) Try.func17 rfl rfl (len rfl) fun hr w0 => ?_
  simp only [List.nil_append]
  refine cd_seq (cd_region (st_bx rfl rfl fun b3 => ?_))
  refine st_v (v_assign rfl) (st_v (v_assign rfl) (st_v (v_assign rfl) (st_nil (nx_kp [0, 3, 4, 5, 6] rfl (nx_then (cd_seq (cd_region (st_v (v_assign rfl) (st_nil (nx_then (cd_seq (cd_region (st_v (v_assign rfl) (st_nil (nx_then (cd_seq (cd_region ?_)))))))))))))))))
  refine st_v (v_assign rfl) (st_nil (nx_then (cd_seq (cd_seq (cd_region (st_v (v_loadW rfl ld38 rfl (by repeat (first | exact Sel.here | apply Sel.there))) ?_))))))
  refine st_cl rfl rfl en49 rfl (kind_ct) ?_
  rintro v' h' ⟨rfl, rfl⟩
  simp only [List.nil_append]
  refine st_nil (nx_kp [0, 3, 4, 5, 6, 7, 8, 9, 11] rfl (nx_then (cd_block (cd_seq (cd_region (st_v (v_eql rfl rfl) (st_v (v_assign rfl) (st_nil (nx_kp [0, 3, 4, 5, 6, 7, 8, 9, 11, 19] rfl (nx_then (cd_cond rfl (fun c0 => ?_) (fun c0 => ?_))))))))))))
  · skip
    refine cd_region (st_v (v_move rfl) (st_v (v_fieldAddr rfl fa38_1 rfl) (st_v (v_ld rfl ld3) ?_)))
    refine st_cl rfl rfl en33 rfl (nil_alloc_ct) ?_
    rintro v' h' ⟨rfl, rfl⟩
    simp only [List.nil_append]
    refine st_v (v_move rfl) (st_v (v_extract rfl rfl) (st_v (v_extract rfl rfl) (st_v (v_assign rfl) (st_v (v_assign rfl) (st_nil (nx_kp [4, 5, 6, 7, 8, 9] rfl (nx_xt (xt_normal_block (xt_then (cd_seq (cd_region (st_v (v_move rfl) (st_v (v_move rfl) (st_v (v_move rfl) (st_v (v_assign rfl) ?_)))))))))))))))
    refine st_v (v_assign rfl) (st_v (v_assign rfl) (st_nil (nx_kp [4, 5, 6] rfl (nx_then (cd_ret ?_)))))
    exact xt_rt rfl ⟨rfl, rfl⟩
  · skip
    refine cd_seq (cd_region (st_v (v_eql rfl rfl) (st_v (v_assign rfl) (st_nil (nx_kp [0, 3, 4, 5, 6, 7, 8, 9, 11, 28] rfl (nx_then (cd_cond rfl (fun c1 => ?_) (fun c1 => ?_))))))))
    · skip
      refine cd_region (st_v (v_move rfl) (st_v (v_fieldAddr rfl fa38_1 rfl) (st_v (v_ld rfl ld3) ?_)))
      refine st_clr rfl rfl en42 rfl (nil_shape_ct) ?_
      refine st_v (v_move rfl) (st_v (v_extract rfl rfl) (st_v (v_extract rfl rfl) (st_v (v_assign rfl) (st_v (v_assign rfl) (st_nil (nx_kp [4, 5, 6, 7, 8, 9] rfl (nx_xt (xt_normal_block (xt_then (cd_seq (cd_region (st_v (v_move rfl) (st_v (v_move rfl) (st_v (v_move rfl) (st_v (v_assign rfl) ?_)))))))))))))))
      refine st_v (v_assign rfl) (st_v (v_assign rfl) (st_nil (nx_kp [4, 5, 6] rfl (nx_then (cd_ret ?_)))))
      exact xt_rt rfl ⟨rfl, rfl⟩
    · skip
      refine cd_seq (cd_region (st_v (v_eql rfl rfl) (st_v (v_assign rfl) (st_nil (nx_kp [0, 3, 4, 5, 6, 7, 8, 9, 11, 37] rfl (nx_then (cd_cond rfl (fun c2 => ?_) (fun c2 => ?_))))))))
      · skip
        refine cd_region (st_v (v_move rfl) (st_v (v_fieldAddr rfl fa38_1 rfl) (st_v (v_ld rfl ld3) ?_)))
        refine st_v (v_fieldAddr rfl fa38_2 rfl) (st_v (v_ld rfl ld3) ?_)
        refine st_cl rfl rfl en41 rfl (nil_get_ct) ?_
        rintro v' h' ⟨rfl, rfl⟩
        simp only [List.nil_append]
        refine st_v (v_move rfl) (st_v (v_extract rfl rfl) (st_v (v_extract rfl rfl) (st_v (v_assign rfl) (st_v (v_assign rfl) (st_nil (nx_kp [4, 5, 6, 7, 8, 9] rfl (nx_xt (xt_normal_block (xt_then (cd_seq (cd_region (st_v (v_move rfl) (st_v (v_move rfl) (st_v (v_move rfl) (st_v (v_assign rfl) ?_)))))))))))))))
        refine st_v (v_assign rfl) (st_v (v_assign rfl) (st_nil (nx_kp [4, 5, 6] rfl (nx_then (cd_ret ?_)))))
        exact xt_rt rfl ⟨rfl, rfl⟩
      · skip
        refine cd_seq (cd_region (st_v (v_eql rfl rfl) (st_v (v_assign rfl) (st_nil (nx_kp [0, 3, 4, 5, 6, 7, 8, 9, 11, 48] rfl (nx_then (cd_cond rfl (fun c3 => ?_) (fun c3 => ?_))))))))
        · skip
          refine cd_region (st_v (v_move rfl) (st_v (v_fieldAddr rfl fa38_1 rfl) (st_v (v_ld rfl ld3) ?_)))
          refine st_v (v_fieldAddr rfl fa38_2 rfl) (st_v (v_ld rfl ld3) ?_)
          refine st_v (v_fieldAddr rfl fa38_3 rfl) (st_v (v_ld rfl ld3) ?_)
          refine st_cl rfl rfl en40 rfl (nil_set_ct) ?_
          rintro v' h' ⟨rfl, rfl⟩
          simp only [List.nil_append]
          refine st_v (v_assign rfl) (st_nil (nx_kp [4, 5, 6, 7, 8, 9] rfl (nx_xt (xt_normal_block (xt_then (cd_seq (cd_region (st_v (v_move rfl) (st_v (v_move rfl) (st_v (v_move rfl) (st_v (v_assign rfl) (st_v (v_assign rfl) (st_v (v_assign rfl) (st_nil (nx_kp [4, 5, 6] rfl (nx_then (cd_ret ?_)))))))))))))))))
          exact xt_rt rfl ⟨rfl, rfl⟩
        · skip
          refine cd_seq (cd_region (st_v (v_eql rfl rfl) (st_v (v_assign rfl) (st_nil (nx_kp [0, 3, 4, 5, 6, 7, 8, 9, 11, 58] rfl (nx_then (cd_cond rfl (fun c4 => ?_) (fun c4 => ?_))))))))
          · skip
            refine cd_region (st_v (v_move rfl) (st_v (v_fieldAddr rfl fa38_4 rfl) (st_v (v_ld rfl ld34) ?_)))
            refine st_cl rfl rfl en34 rfl (nil_Minor_ct) ?_
            rintro v' h' ⟨rfl, rfl⟩
            simp only [List.nil_append]
            refine st_v (v_move rfl) (st_v (v_extract rfl rfl) (st_v (v_extract rfl rfl) (st_v (v_assign rfl) (st_v (v_assign rfl) (st_nil (nx_kp [4, 5, 6, 7, 8, 9] rfl (nx_xt (xt_normal_block (xt_then (cd_seq (cd_region (st_v (v_move rfl) (st_v (v_move rfl) (st_v (v_move rfl) (st_v (v_assign rfl) ?_)))))))))))))))
            refine st_v (v_assign rfl) (st_v (v_assign rfl) (st_nil (nx_kp [4, 5, 6] rfl (nx_then (cd_ret ?_)))))
            exact xt_rt rfl ⟨rfl, rfl⟩
          · skip
            refine cd_seq (cd_region (st_v (v_eql rfl rfl) (st_v (v_assign rfl) (st_nil (nx_kp [0, 3, 4, 5, 6, 7, 8, 9, 67] rfl (nx_then (cd_cond rfl (fun c5 => ?_) (fun c5 => ?_))))))))
            · skip
              refine cd_region (st_v (v_move rfl) (st_v (v_fieldAddr rfl fa38_4 rfl) (st_v (v_ld rfl ld34) ?_)))
              refine st_cl rfl rfl en43 rfl (nil_flip_ct) ?_
              rintro v' h' ⟨rfl, rfl⟩
              simp only [List.nil_append]
              refine st_v (v_move rfl) (st_v (v_extract rfl rfl) (st_v (v_extract rfl rfl) (st_v (v_assign rfl) (st_v (v_assign rfl) (st_nil (nx_kp [4, 5, 6, 7, 8, 9] rfl (nx_xt (xt_normal_block (xt_then (cd_seq (cd_region (st_v (v_move rfl) (st_v (v_move rfl) (st_v (v_move rfl) (st_v (v_assign rfl) ?_)))))))))))))))
              refine st_v (v_assign rfl) (st_v (v_assign rfl) (st_nil (nx_kp [4, 5, 6] rfl (nx_then (cd_ret ?_)))))
              exact xt_rt rfl ⟨rfl, rfl⟩
            · skip
              refine cd_region (st_v (v_move rfl) (st_v (v_fieldAddr rfl fa38_1 rfl) (st_v (v_ld rfl ld3) ?_)))
              refine st_cl rfl rfl en31 rfl (nil_step_ct) ?_
              rintro v' h' ⟨rfl, rfl⟩
              simp only [List.nil_append]
              refine st_v (v_move rfl) (st_v (v_extract rfl rfl) (st_v (v_extract rfl rfl) (st_v (v_assign rfl) (st_v (v_assign rfl) (st_nil (nx_kp [4, 5, 6, 7, 8, 9] rfl (nx_xt (xt_normal_block (xt_then (cd_seq (cd_region (st_v (v_move rfl) (st_v (v_move rfl) (st_v (v_move rfl) (st_v (v_assign rfl) ?_)))))))))))))))
              refine st_v (v_assign rfl) (st_v (v_assign rfl) (st_nil (nx_kp [4, 5, 6] rfl (nx_then (cd_ret ?_)))))
              exact xt_rt rfl ⟨rfl, rfl⟩
theorem rowI_nil (R : Res) : RowI R (.slice none 0 0) [] := ⟨none, 0, rfl, .inl rfl⟩
set_option maxRecDepth 100000 in
theorem samePics_nil_ct : Ct Try.prog 22 #[.agg #[.slice none 0 0, .slice none 0 0, .slice none 0 0], .agg #[.slice none 0 0, .slice none 0 0, .slice none 0 0]] [] fun v h' => v = .bool true ∧ h' = [] := by
  refine ct_of (n := 54) Try.func22 rfl rfl (len rfl) fun hr w0 => ?_
  simp only [List.nil_append]
  refine cd_seq (cd_region (st_bx rfl rfl fun b2 => ?_))
  refine st_bx rfl rfl fun b3 => ?_
  refine st_v (v_assign rfl) (st_nil (nx_kp [2, 3, 4] rfl (nx_then (cd_seq (cd_region (st_v (v_fieldAddr rfl fa42_0 rfl) (st_v (v_ld rfl ld34) ?_)))))))
  refine st_v (v_fieldAddr rfl fa42_0 rfl) (st_v (v_ld rfl ld34) ?_)
  refine st_clr rfl rfl en21 rfl (sameInts_ct (R := pt b2 (cl [.slice none 0 0, .slice none 0 0, .slice none 0 0] 42)) (rowI_nil _) (rowI_nil _) (Nat.zero_le _)) ?_
  rw [show (([] : List Int) == []) = true from rfl]
  refine st_v (v_assign rfl) (st_nil (nx_kp [2, 3, 4, 5] rfl (nx_then (cd_seq (cd_region (st_v (v_fieldAddr rfl fa42_2 rfl) (st_v (v_ld rfl ld34) ?_)))))))
  refine st_v (v_fieldAddr rfl fa42_2 rfl) (st_v (v_ld rfl ld34) ?_)
  refine st_clr rfl rfl en21 rfl (sameInts_ct (R := pt b2 (cl [.slice none 0 0, .slice none 0 0, .slice none 0 0] 42)) (rowI_nil _) (rowI_nil _) (Nat.zero_le _)) ?_
  rw [show (([] : List Int) == []) = true from rfl]
  refine st_v (v_assign rfl) (st_nil (nx_kp [2, 3, 4, 5, 6] rfl (nx_then (cd_seq (cd_seq (cd_region (st_v (v_move rfl) (st_v (v_not rfl) (st_v (v_move rfl) (st_vg rfl rfl (v_move rfl) (st_vg rfl rfl (v_not rfl) (st_v (v_pick_false rfl rfl) (st_v (v_move rfl) (st_vg rfl rfl (v_fieldAddr rfl fa42_1 rfl) (st_vg rfl rfl (v_ld rfl ld40) ?_)))))))))))))))
  refine st_vg rfl rfl (v_len rfl Try.underlying40) (st_vg rfl rfl (v_fieldAddr rfl fa42_1 rfl) (st_vg rfl rfl (v_ld rfl ld40) ?_))
  refine st_vg rfl rfl (v_len rfl Try.underlying40) (st_vg rfl rfl (v_neq rfl rfl) (st_v (v_pick_false rfl rfl) (st_nil (nx_kp [2, 3, 4, 33] rfl (nx_then (cd_false rfl ?_))))))
  refine cd_skip (xt_then (cd_seq (cd_seq (cd_region (st_v (v_assign rfl) (st_nil (nx_kp [2, 3, 4, 7] rfl (nx_then (cd_block (cd_lp (σ := Unit) (fun _ => [(2, .pointer (some ⟨b2, 0, none⟩)), (3, .pointer (some ⟨b3, 0, none⟩)), (7, .int .i64 0)]) (fun _ => pt b2 (cl [.slice none 0 0, .slice none 0 0, .slice none 0 0] 42) :: hr) (fun _ => True) (fun _ => 0) () trivial ?_))))))))))
  rintro ⟨⟩ _
  refine cd_seq (cd_seq (cd_region (st_v (v_move rfl) (st_v (v_fieldAddr rfl fa42_1 rfl) (st_v (v_ld rfl ld40) ?_)))))
  refine st_v (v_len rfl Try.underlying40) (st_v (v_lss rfl rfl) (st_nil (nx_kp [2, 3, 7, 38] rfl (nx_then (cd_false rfl ?_)))))
  refine cd_exit (xt_exit_then (xt_exit_then (xt_exit_block (xt_then (cd_seq (cd_region (st_v (v_assign rfl) (st_nil (nx_kp [4] rfl (nx_then (cd_ret ?_)))))))))))
  exact xt_rt rfl ⟨rfl, rfl⟩
set_option maxHeartbeats 4000000 in
set_option maxRecDepth 100000 in
theorem heapNil_c {a b c d : Int} {v : Value} (hb : I64 b) : Ct Try.prog 4 #[.agg #[.int .i64 a, .int .i64 b, .int .i64 c, .int .i64 d, v]] [] fun u h' => u = .bool true ∧ h' = [] := by
  refine ct_of (n := 69) Try.func4 rfl rfl (len rfl) fun hr w0 => ?_
  simp only [List.nil_append]
  refine cd_seq (cd_region (st_bx rfl rfl fun b1 => ?_))
  refine st_v (v_assign rfl) (st_nil (nx_kp [1, 2] rfl (nx_then (cd_seq (cd_region (st_v (v_assign rfl) (st_nil (nx_then (cd_seq (cd_region (st_v (v_move rfl) (st_v (v_loadW rfl ld38 rfl (by repeat (first | exact Sel.here | apply Sel.there))) ?_))))))))))))
  refine st_cl rfl rfl en17 rfl (called_nil_ct hb) ?_
  rintro v' h' ⟨rfl, rfl⟩
  simp only [List.nil_append]
  refine st_v (v_move rfl) (st_v (v_extract rfl rfl) (st_v (v_extract rfl rfl) (st_v (v_extract rfl rfl) (st_v (v_assign rfl) (st_v (v_assign rfl) (st_v (v_assign rfl) (st_nil (nx_kp [1, 2, 3, 4, 5, 6] rfl (nx_then (cd_seq (cd_region (st_v (v_move rfl) (st_v (v_fieldAddr rfl fa38_4 rfl) (st_v (v_ld rfl ld34) ?_))))))))))))))
  refine st_clr rfl rfl en19 rfl (nil_picture_ct) ?_
  refine st_v (v_move rfl) (st_v (v_extract rfl rfl) (st_v (v_extract rfl rfl) (st_alc al42 fun b7 => ?_)))
  refine st_stoW rfl rfl sz42 rfl rfl ?_
  refine st_v (v_assign rfl) (st_nil (nx_kp [2, 3, 4, 5, 6, 7, 8] rfl (nx_then (cd_seq (cd_region (st_v (v_loadW rfl ld42 rfl (by repeat (first | exact Sel.here | apply Sel.there))) ?_))))))
  refine st_v (v_build (cells := [.slice none 0 0, .slice none 0 0, .slice none 0 0]) rfl (fun _ => by kernel_rfl)) ?_
  refine st_cl rfl rfl en22 rfl (samePics_nil_ct) ?_
  rintro v' h' ⟨rfl, rfl⟩
  simp only [List.nil_append]
  refine st_v (v_assign rfl) (st_nil (nx_kp [2, 3, 4, 5, 6, 8, 9] rfl (nx_then (cd_seq (cd_region (st_cl rfl rfl en14 rfl (sanity_c) ?_))))))
  rintro v' h' ⟨rfl, rfl⟩
  simp only [List.nil_append]
  refine st_v (v_move rfl) (st_vg rfl rfl (v_move rfl) (st_vg rfl rfl (v_eql rfl rfl) (st_v (v_pick_true rfl rfl) (st_v (v_move rfl) (st_vg rfl rfl (v_move rfl) (st_vg rfl rfl (v_len rfl Try.underlying34) (st_vg rfl rfl (v_eql rfl rfl) (st_v (v_pick_true rfl rfl) (st_v (v_move rfl) (st_vg rfl rfl (v_move rfl) (st_vg rfl rfl (v_eql rfl rfl) (st_v (v_pick_true rfl rfl) (st_v (v_move rfl) ?_)))))))))))))
  refine st_vg rfl rfl (v_move rfl) (st_vg rfl rfl (v_eql rfl rfl) (st_v (v_pick_true rfl rfl) (st_v (v_move rfl) (st_vg rfl rfl (v_move rfl) (st_v (v_pick_true rfl rfl) (st_v (v_move rfl) (st_vg rfl rfl (v_move rfl) (st_clrg rfl rfl rfl rfl en23 rfl (nil_busy_ct) ?_))))))))
  refine st_vg rfl rfl (v_not rfl) (st_v (v_pick_true rfl rfl) (st_v (v_move rfl) (st_vg rfl rfl (v_move rfl) (st_clrg rfl rfl rfl rfl en24 rfl (nil_room_ct) ?_))))
  refine st_vg rfl rfl (v_build (cells := ints [0, 0, 0]) rfl (fun _ => by kernel_rfl)) ?_
  refine st_vg rfl rfl (v_eql_ints (xs := [0, 0, 0]) (ys := [0, 0, 0]) eqi54 rfl rfl rfl rfl) ?_
  rw [show (([0, 0, 0] : List Int) == [0, 0, 0]) = true by decide]
  refine st_v (v_pick_true rfl rfl) (st_v (v_move rfl) (st_vg rfl rfl (v_move rfl) (st_clrg rfl rfl rfl rfl en26 rfl (nil_check_ct) ?_)))
  refine st_vg rfl rfl (v_eql rfl rfl) (st_v (v_pick_true rfl rfl) (st_v (v_move rfl) (st_vg rfl rfl (v_move rfl) (st_clrg rfl rfl rfl rfl en27 rfl (nil_copy_ct) ?_))))
  refine st_vg rfl rfl (v_eql_ptr_nil rfl rfl pt27) (st_v (v_pick_true rfl rfl) (st_v (v_assign rfl) (st_nil (nx_kp [2] rfl (nx_then (cd_ret ?_))))))
  exact xt_rt rfl ⟨rfl, rfl⟩
end Go.Proofs.Ytmhmpjgkkpbnnaa
namespace Go.Ck
open Go Go.RowKit
theorem LdN.ofArr {P : Program} {T E : TypeId} {n k : Nat} (h : P.underlying T = some (.array k E)) (hs : Sz P T n) : LdN P T n := fun w b o vs hl hv => by
  have hi : (isAgg T).run P w = .ok true w := by unfold isAgg; simp only [Sem.run_bind, run_underlying h, Result.andThen_ok]; rfl
  have key : ∀ (k : Nat) (m : Nat) (acc : Array Value), m + k = n → acc = (vs.take m).toArray → (loadCellsFrom ⟨b, o, none⟩ m k acc).run P w = .ok vs.toArray w := by
    intro k
    induction k with
    | zero =>
      intro m acc hm ha
      have : m = n := by omega
      subst this
      simp [loadCellsFrom, ha, List.take_of_length_le (Nat.le_of_eq hl)]
    | succ k ih =>
      intro m acc hm ha
      have hmn : m < n := by omega
      have hc := hv m hmn
      have hlt : m < vs.length := by omega
      rw [List.getElem?_eq_getElem hlt] at hc
      unfold loadCellsFrom
      simp only [Sem.run_bind, run_load, Addr.add_lit, hc, Result.andThen_ok]
      refine ih (m + 1) _ (by omega) ?_
      rw [ha, List.take_succ_eq_append_getElem hlt]
      simp
  unfold Instr.loadAt loadVar loadCells
  simp only [Instr.sureAddr, Sem.run_bind, Sem.run_pure, Result.andThen_ok, hi, if_true, hs w, key n 0 #[] (by omega) (by simp)]
end Go.Ck
namespace Go.Hm.AM
theorem fwdL_len (y : Bool) : ∀ (ts : List Int) (m : AM), (fwdL y ts m).1.length = ts.length
  | [], _ => rfl
  | a :: ts, m => by simp only [fwdL, List.length_cons, fwdL_len y ts]
end Go.Hm.AM
namespace Go.Proofs.Ytmhmpjgkkpbnnaa
open Go.Ck Fx Go.Hm Go.Hm.AM
theorem fine_new {sh : List (List Bool)} {half young : Int} (h : newErr sh half young = 0) : Fine (AM.new' sh half young) := by
  unfold newErr at h
  split at h
  · cases h
  · rename_i h1
    split at h
    · cases h
    · rename_i h2
      simp only [Bool.or_eq_true, decide_eq_true_eq, not_or, bne_iff_ne, ne_eq, Decidable.not_not] at h1 h2
      obtain ⟨⟨hz, ha⟩, hb⟩ := h1
      unfold sized at hz
      by_cases hq : (decide (60 < (sh.length : Int)) || sh.any long) = true
      · rw [if_pos hq] at hz; cases hz
      · simp only [Bool.or_eq_true, decide_eq_true_eq, not_or, List.any_eq_true, not_exists, not_and] at hq
        exact ⟨_, _, _, _, _, Good.new (by omega) (by omega) (by omega) (by omega) (by omega) (fun l hl => by have := hq.2 l hl; unfold long at this; simp at this; omega)⟩
attribute [local irreducible] St Cd Xt Nx DrL LsW
section
variable {R : Res} {v : Value}
def fitRow (l : List Bool) : Bool := !((decide (8 < (l.length : Int)) && decide ((l.length : Int) ≤ 60)) || decide (70 < (l.length : Int)))
def fitp (sh : List (List Bool)) : Bool := sh.all fitRow && (decide ((sh.length : Int) ≤ 8) || (decide (60 < (sh.length : Int)) && decide ((sh.length : Int) ≤ 70)))
set_option maxRecDepth 100000 in
theorem fit_ct {sh : List (List Bool)} (h : Shp R v sh) (hl : sh.length ≤ maxLen) : Reads Try.prog 12 #[v] [R] (.bool (fitp sh)) := by
  obtain ⟨a, cp, hv, _⟩ := id h
  unfold maxLen at hl
  unfold fitp
  refine ct_of (n := 45) Try.func12 rfl rfl (len rfl) fun hr w0 => ?_
  refine cd_seq (cd_region (st_v (v_assign rfl) (st_nil (nx_then (cd_seq (cd_seq (cd_region (st_v (v_assign rfl) (st_nil (nx_then (cd_block (cd_loop (σ := Nat) (fun i => [(0, v), (3, .int .i64 (i : Nat))]) (fun _ => R :: hr) (fun i => i ≤ sh.length ∧ (sh.take i).all fitRow = true) (fun i => sh.length - i) 0 ⟨Nat.zero_le _, rfl⟩ ⟨rfl, rfl, trivial⟩ (Sub.refl _) ?_))))))))))))
  rintro i ⟨hi, hne⟩
  refine cd_seq (cd_seq (cd_region (st_v (v_move rfl) (st_v (v_move rfl) (st_v (v_len (congrArg some hv) Try.underlying22) (st_v (v_lss rfl rfl) (st_nil (nx_kp [0, 3, 7] rfl (nx_then (cd_cond rfl (fun hd => ?_) (fun hd => ?_)))))))))))
  · skip
    have hlt : i < sh.length := by simpa using hd
    obtain ⟨b, o, cp', u, hv', hrd, hu⟩ := h.row hlt
    obtain ⟨ua, ucp, hue, _⟩ := id hu
    subst hue
    refine cd_skip (xt_then (cd_seq (cd_block (cd_seq (cd_region (st_v (v_move rfl) (st_v (v_move rfl) (st_v (v_ixo i (congrArg some hv') rfl sl22 rfl hlt) (st_v (v_ld rfl ld73) ?_)))))))))
    refine st_v (v_len rfl Try.underlying73) (st_v (v_gtr rfl rfl) (st_v (v_move rfl) (st_cut (k := 14) (d := 23) (v := .bool (decide (8 < (sh[i].length : Int)) && decide ((sh[i].length : Int) ≤ 60))) (fun hcut => bool_want (b := decide (8 < (sh[i].length : Int))) true (fun hg => ?_) (fun hg => ?_)) ?_)))
    · refine st_sk rfl rfl hg ?_
      refine st_sk rfl rfl hg ?_
      refine st_sk rfl rfl hg ?_
      refine st_sk rfl rfl hg ?_
      refine st_sk rfl rfl hg ?_
      refine st_sk rfl rfl hg ?_
      refine st_v (v_pick_false (bool_ev rfl hg) rfl) ?_
      exact hcut _ (ssub_head (by first | rfl | (rw [hg]; rfl) | simp_all) (ssub_skip rfl (ssub_skip rfl (ssub_skip rfl (ssub_skip rfl (ssub_skip rfl (ssub_skip rfl (ssub_refl))))))))
    · skip
      refine st_vg rfl (bool_get rfl hg) (v_move rfl) (st_vg rfl (bool_get rfl hg) (v_move rfl) (st_vg rfl (bool_get rfl hg) (v_ixo i (congrArg some hv') rfl sl22 rfl hlt) (st_vg rfl (bool_get rfl hg) (v_ld rfl ld73) ?_)))
      refine st_vg rfl (bool_get rfl hg) (v_len rfl Try.underlying73) (st_vg rfl (bool_get rfl hg) (v_leq rfl rfl) (st_v (v_pick_true (bool_ev rfl hg) rfl) ?_))
      exact hcut _ (ssub_head (by first | rfl | (rw [hg]; rfl) | simp_all) (ssub_skip rfl (ssub_skip rfl (ssub_skip rfl (ssub_skip rfl (ssub_skip rfl (ssub_skip rfl (ssub_refl))))))))
    refine st_v (v_move rfl) (st_cut (k := 22) (d := 31) (v := .bool ((decide (8 < (sh[i].length : Int)) && decide ((sh[i].length : Int) ≤ 60)) || decide (70 < (sh[i].length : Int)))) (fun hcut => bool_want (b := (decide (8 < (sh[i].length : Int)) && decide ((sh[i].length : Int) ≤ 60))) false (fun hg => ?_) (fun hg => ?_)) ?_)
    · refine st_sk rfl rfl hg ?_
      refine st_sk rfl rfl hg ?_
      refine st_sk rfl rfl hg ?_
      refine st_sk rfl rfl hg ?_
      refine st_sk rfl rfl hg ?_
      refine st_sk rfl rfl hg ?_
      refine st_v (v_pick_true (bool_ev rfl hg) rfl) ?_
      exact hcut _ (ssub_head (by first | rfl | (rw [hg]; rfl) | simp_all) (ssub_skip rfl (ssub_skip rfl (ssub_skip rfl (ssub_skip rfl (ssub_skip rfl (ssub_skip rfl (ssub_refl))))))))
    · skip
      refine st_vg rfl (bool_get rfl hg) (v_move rfl) (st_vg rfl (bool_get rfl hg) (v_move rfl) (st_vg rfl (bool_get rfl hg) (v_ixo i (congrArg some hv') rfl sl22 rfl hlt) (st_vg rfl (bool_get rfl hg) (v_ld rfl ld73) ?_)))
      refine st_vg rfl (bool_get rfl hg) (v_len rfl Try.underlying73) (st_vg rfl (bool_get rfl hg) (v_gtr rfl rfl) (st_v (v_pick_false (bool_ev rfl hg) rfl) ?_))
      exact hcut _ (ssub_head (by first | rfl | (rw [hg]; rfl) | simp_all) (ssub_skip rfl (ssub_skip rfl (ssub_skip rfl (ssub_skip rfl (ssub_skip rfl (ssub_skip rfl (ssub_refl))))))))
    refine st_nil (nx_kp [0, 3, 31] rfl (nx_then (cd_cond rfl (fun he => ?_) (fun he => ?_))))
    · skip
      have hf : sh.all fitRow = false := by
        rw [Bool.eq_false_iff]; intro hall
        have := List.all_eq_true.1 hall _ (List.getElem_mem hlt)
        unfold fitRow at this; rw [he] at this; cases this
      rw [hf, Bool.false_and]
      refine cd_seq (cd_region (st_v (v_assign rfl) (st_nil (nx_kp [0, 2, 3] rfl (nx_then (cd_ret (xt_ret_block (xt_ret_then (xt_ret_then (xt_ret_block (xt_ret_then ?_)))))))))))
      exact xt_rt rfl ⟨rfl, rfl⟩
    · skip
      refine cd_skip (xt_normal_block (xt_then (cd_region (st_v (v_move rfl) (st_v (v_add rfl rfl (by unfold I64 at *; omega)) (st_v (v_assign rfl) (st_nil (nx_kp [0, 3] rfl (nx_xt ?_)))))))))
      refine xt_ag (i + 1) ⟨hlt, by rw [List.take_succ_eq_append_getElem hlt, List.all_append, hne, Bool.true_and]; simp only [List.all_cons, List.all_nil, Bool.and_true]; unfold fitRow; rw [he]; rfl⟩ (by omega)
  · skip
    have hge : sh.length ≤ i := by simpa using hd
    rw [List.take_of_length_le hge] at hne
    rw [hne, Bool.true_and]
    refine cd_exit (xt_exit_then (xt_exit_then (xt_exit_block (xt_then (cd_seq (cd_region (st_v (v_move rfl) (st_v (v_len (congrArg some hv) Try.underlying22) (st_v (v_leq rfl rfl) (st_v (v_move rfl) (st_cut (k := 13) (d := 44) (v := .bool (decide ((sh.length : Int) ≤ 8) || (decide (60 < (sh.length : Int)) && decide ((sh.length : Int) ≤ 70)))) (fun hcut => bool_want (b := decide ((sh.length : Int) ≤ 8)) false (fun hg => ?_) (fun hg => ?_)) ?_)))))))))))
    · refine st_sk rfl rfl hg ?_
      refine st_sk rfl rfl hg ?_
      refine st_sk rfl rfl hg ?_
      refine st_sk rfl rfl hg ?_
      refine st_sku rfl rfl ?_
      refine st_sku rfl rfl ?_
      refine st_sku rfl rfl ?_
      refine st_sk rfl rfl hg ?_
      refine st_v (v_pick_true (bool_ev rfl hg) rfl) ?_
      exact hcut _ (ssub_head (by first | rfl | (rw [hg]; rfl) | simp_all) (ssub_skip rfl (ssub_skip rfl (ssub_skip rfl (ssub_skip rfl (ssub_skip rfl (ssub_skip rfl (ssub_skip rfl (ssub_skip rfl (ssub_refl))))))))))
    · skip
      refine st_vg rfl (bool_get rfl hg) (v_move rfl) (st_vg rfl (bool_get rfl hg) (v_len (congrArg some hv) Try.underlying22) (st_vg rfl (bool_get rfl hg) (v_gtr rfl rfl) (st_vg rfl (bool_get rfl hg) (v_move rfl) (st_cut (k := 12) (d := 43) (v := .bool (decide (60 < (sh.length : Int)) && decide ((sh.length : Int) ≤ 70))) (fun hcut => bool_want (b := decide (60 < (sh.length : Int))) true (fun hg1 => ?_) (fun hg1 => ?_)) ?_))))
      · refine st_sk rfl rfl hg1 ?_
        refine st_sk rfl rfl hg1 ?_
        refine st_sk rfl rfl hg1 ?_
        refine st_vg rfl (bool_get rfl hg) (v_pick_false (bool_ev rfl hg1) rfl) ?_
        exact hcut _ (ssub_head (by first | rfl | (rw [hg1]; rfl) | simp_all) (ssub_skip rfl (ssub_skip rfl (ssub_skip rfl (ssub_refl)))))
      · skip
        refine st_vg rfl (bool_get rfl hg1) (v_move rfl) (st_vg rfl (bool_get rfl hg1) (v_len (congrArg some hv) Try.underlying22) (st_vg rfl (bool_get rfl hg1) (v_leq rfl rfl) (st_vg rfl (bool_get rfl hg) (v_pick_true (bool_ev rfl hg1) rfl) ?_)))
        exact hcut _ (ssub_head (by first | rfl | (rw [hg1]; rfl) | simp_all) (ssub_skip rfl (ssub_skip rfl (ssub_skip rfl (ssub_refl)))))
      refine st_v (v_pick_false (bool_ev rfl hg) rfl) ?_
      exact hcut _ (ssub_head (by first | rfl | (rw [hg]; rfl) | simp_all) (by repeat (first | exact ssub_refl | refine ssub_skip rfl ?_)))
    refine st_v (v_assign rfl) (st_nil (nx_kp [2] rfl (nx_then (cd_ret ?_))))
    exact xt_rt rfl ⟨rfl, rfl⟩
end
end Go.Proofs.Ytmhmpjgkkpbnnaa
namespace Go.Ck
open Go Go.RowKit Go.ChangeShapes Go.WideShapes
theorem cells_one {v : Value} (h : v.oneCell' = true) : v.cells.toList = [v] := by
  cases v <;> first | rfl | (simp [Value.oneCell'] at h)
/-- An argument of one cell. -/
theorem arg_one {H : Type} {enc : TypeId × Value → H} {P : Program} {W : World} {ty : Ty} {t : TypeId} {v : Value} {d : DataW H} {ps : List MemPlace} {b : Nat} (hf : fitB P ty t = true)
    (hs : (match P.underlying t with | some (.struct _) | some (.array _ _) => false | some _ => true | none => false) = true) (hv : Value.okWide P W .any b t v) (h : DataW.Trod enc P W 0 (fun _ => true) true t v d ps) : ∃ y, Rep (old W) ty [v] y := by
  have := arg_rep hf h
  rwa [cells_one (okWide_one hs hv)] at this
theorem rep_int {r : Res} {v : Value} {n : Int} (h : Rep r (.int .i64) [v] n) : v = .int .i64 n ∧ (Lit.int .i64 n).wf = true := by
  simp only [Rep] at h
  exact ⟨by simpa using h.1, h.2⟩
end Go.Ck
namespace Go.Proofs.Ytmhmpjgkkpbnnaa
open Go Go.RowKit Go.ChangeShapes Go.WideShapes Go.Ck
theorem own' : ownKnob Try.prog.godebug = none := by kernel_rfl
theorem wf_I64' {n : Int} (h : (Lit.int .i64 n).wf = true) : I64 n := by
  unfold Lit.wf at h
  simp [IntKind.min, IntKind.max, IntKind.signed, IntKind.bits] at h
  unfold I64; omega
theorem rds_one {r : Res} {b o : Nat} {us : List Value} (hl : us.length = 1) (h : Rds r b o us) : ∃ u, us = [u] ∧ Rd r ⟨b, o, none⟩ u := by
  match us, hl with
  | [u], _ => exact ⟨u, rfl, by have := h 0 (by simp); rwa [Nat.add_zero] at this⟩
theorem rowB_of {r : Res} {u : Value} {y : (Ty.slice .bool).D} (h : Rep r (.slice .bool) [u] y) : RowB r u (show List Bool from y) := by
  simp only [Rep] at h
  obtain ⟨a, cap, h1, _, _, _, h2⟩ := h
  refine ⟨a, cap, (List.cons.inj h1).1, h2.imp id ?_⟩
  rintro ⟨b, o, h3, h4⟩
  refine ⟨b, o, h3, fun j hj => ?_⟩
  obtain ⟨us, h5, h6, h7⟩ := h4 j _ (List.getElem?_eq_getElem hj)
  obtain ⟨u, rfl, h8⟩ := rds_one h5 h6
  rw [show o + j = o + j * Ty.bool.sz by simp [Ty.sz]]
  have : u = .bool ((show List Bool from y)[j]) := by simpa using h7
  rw [← this]; exact h8
theorem rowI_of {r : Res} {u : Value} {y : (Ty.slice (.int .i64)).D} (h : Rep r (.slice (.int .i64)) [u] y) : RowI r u (show List Int from y) := by
  simp only [Rep] at h
  obtain ⟨a, cap, h1, _, _, _, h2⟩ := h
  refine ⟨a, cap, (List.cons.inj h1).1, h2.imp id ?_⟩
  rintro ⟨b, o, h3, h4⟩
  refine ⟨b, o, h3, fun j hj => ?_⟩
  obtain ⟨us, h5, h6, h7⟩ := h4 j _ (List.getElem?_eq_getElem hj)
  obtain ⟨u, rfl, h8⟩ := rds_one h5 h6
  rw [show o + j = o + j * (Ty.int .i64).sz by simp [Ty.sz]]
  have : u = .int .i64 ((show List Int from y)[j]) := by simpa using h7.1
  rw [← this]; exact h8
theorem shp_of {r : Res} {v : Value} {y : (Ty.slice (.slice .bool)).D} (h : Rep r (.slice (.slice .bool)) [v] y) : Shp r v (show List (List Bool) from y) ∧ (show List (List Bool) from y).length ≤ maxLen := by
  unfold Rep at h
  obtain ⟨a, cap, h1, hl, hm, _, h2⟩ := h
  refine ⟨⟨a, cap, (List.cons.inj h1).1, h2.imp id ?_⟩, Nat.le_trans hl hm⟩
  rintro ⟨b, o, h3, h4⟩
  refine ⟨b, o, h3, fun i hi => ?_⟩
  obtain ⟨us, h5, h6, h7⟩ := h4 i _ (List.getElem?_eq_getElem hi)
  obtain ⟨u, rfl, h8⟩ := rds_one h5 h6
  exact ⟨u, by rw [show o + i = o + i * (Ty.slice .bool).sz by simp [Ty.sz]]; exact h8, rowB_of h7⟩
theorem rep_kind {k : IntKind} {r : Res} {v : Value} {n : Int} (h : Rep r (.int k) [v] n) : v = .int k n ∧ (Lit.int k n).wf = true := by
  simp only [Rep] at h
  exact ⟨by simpa using h.1, h.2⟩
theorem wf_u16 {n : Int} (h : (Lit.int .u16 n).wf = true) : 0 ≤ n ∧ n < 65536 := by
  unfold Lit.wf at h
  simp [IntKind.min, IntKind.max, IntKind.signed, IntKind.bits] at h
  omega
theorem wf_u8 {n : Int} (h : (Lit.int .u8 n).wf = true) : 0 ≤ n ∧ n < 256 := by
  unfold Lit.wf at h
  simp [IntKind.min, IntKind.max, IntKind.signed, IntKind.bits] at h
  omega
end Go.Proofs.Ytmhmpjgkkpbnnaa
namespace Go.Proofs.Ytmhmpjgkkpbnnaa
open Go.Ck Fx Go.Hm Go.Hm.AM
attribute [local irreducible] St Cd Xt Nx DrL LsW
/-- Rows of numbers, each with a block of its own. -/
def rowsI (us : List Value) (rows : List (List Int)) : SH := (us.zip rows).map fun q => vec q.1 3 1 q.2.length (ints q.2)
theorem rowsI_snoc {us : List Value} {rows : List (List Int)} {u : Value} {l : List Int} (h : us.length = rows.length) : rowsI (us ++ [u]) (rows ++ [l]) = rowsI us rows ++ [vec u 3 1 l.length (ints l)] := by
  unfold rowsI
  rw [List.zip_append h]; simp
/-- v is a list of rows of numbers, which r holds. -/
def RowsI (r : Res) (v : Value) (rows : List (List Int)) : Prop := ∃ a cp, v = .slice a rows.length cp ∧ (rows = [] ∨ ∃ b o, a = some ⟨b, o, none⟩ ∧ ∀ i (h : i < rows.length), ∃ u, Rd r ⟨b, o + i, none⟩ u ∧ RowI r u rows[i])
theorem RowsI.row {r : Res} {v : Value} {rows : List (List Int)} (h : RowsI r v rows) {i : Nat} (hi : i < rows.length) : ∃ b o cp u, v = .slice (some ⟨b, o, none⟩) rows.length cp ∧ Rd r ⟨b, o + i, none⟩ u ∧ RowI r u rows[i] := by
  obtain ⟨a, cp, hv, hn⟩ := h
  rcases hn with e | ⟨b, o, ha, hr⟩
  · rw [e] at hi; simp at hi
  obtain ⟨u, h1, h2⟩ := hr i hi
  exact ⟨b, o, cp, u, by rw [hv, ha], h1, h2⟩
/-- What the slices of a picture look like. -/
structure PF (sv fv rv : Value) (us : List Value) (p : Pic) : Prop where
  s : VForm sv p.shapes.length (ints p.shapes)
  r : VForm rv p.roots.length (ints p.roots)
  f : VForm fv p.fields.length us
  l : us.length = p.fields.length
  u : ∀ (j : Nat) (u : Value) (l : List Int), us[j]? = some u → p.fields[j]? = some l → VForm u l.length (ints l)
def pR (sv fv rv : Value) (us : List Value) (p : Pic) : Res := Res.star [vec sv 3 1 p.shapes.length (ints p.shapes), vec rv 3 1 p.roots.length (ints p.roots), vec fv 34 1 p.fields.length us, Res.star (rowsI us p.fields)]
/-- A picture that r holds. -/
structure PicV (r : Res) (sv fv rv : Value) (p : Pic) : Prop where
  ps : RowI r sv p.shapes
  pr : RowI r rv p.roots
  pf : RowsI r fv p.fields
theorem rowI_star2 {k : SH} {r : Res} {v : Value} {l : List Int} (hm : r ∈ k) (h : RowI r v l) : RowI (Res.star k) v l := by
  obtain ⟨a, cp, h1, h2 | ⟨b, o, h3, h4⟩⟩ := h
  · exact ⟨a, cp, h1, .inl h2⟩
  · exact ⟨a, cp, h1, .inr ⟨b, o, h3, fun j hj => rd_star_mem hm (h4 j hj)⟩⟩
theorem rowI_star {k : SH} {v : Value} {l : List Int} (hm : vec v 3 1 l.length (ints l) ∈ k) (hv : VForm v l.length (ints l)) : RowI (Res.star k) v l := by
  rcases hv with ⟨h1, h2, h3⟩ | ⟨b', cp', h1⟩
  · refine ⟨none, 0, by rw [h1, h2], .inl (List.eq_nil_of_length_eq_zero h2)⟩
  · refine ⟨_, cp', h1, .inr ⟨b', 0, rfl, fun j hj => ?_⟩⟩
    rw [Nat.zero_add]
    exact rd_star_mem hm (rd_vec h1 (by simp [ints, hj]))
theorem PF.v {sv fv rv : Value} {us : List Value} {p : Pic} (h : PF sv fv rv us p) : PicV (pR sv fv rv us p) sv fv rv p := by
  have hl := h.l
  refine ⟨rowI_star (by simp) h.s, rowI_star (by simp) h.r, ?_⟩
  rcases h.f with ⟨h0, h1, h2⟩ | ⟨b, cp, h0⟩
  · exact ⟨none, 0, by rw [h0, h1], .inl (List.eq_nil_of_length_eq_zero h1)⟩
  · refine ⟨_, cp, h0, .inr ⟨b, 0, rfl, fun i hi => ⟨us[i]'(by omega), ?_, ?_⟩⟩⟩
    · rw [Nat.zero_add]
      exact rd_star_mem (r := vec fv 34 1 p.fields.length us) (by simp) (rd_vec h0 (List.getElem?_eq_getElem (by omega)))
    · refine rowI_star2 (r := Res.star (rowsI us p.fields)) (by simp) (rowI_star ?_ (h.u i _ _ (List.getElem?_eq_getElem (by omega)) (List.getElem?_eq_getElem hi)))
      have hm : vec (us[i]'(by omega)) 3 1 p.fields[i].length (ints p.fields[i]) ∈ rowsI us p.fields := by
        refine List.mem_map.2 ⟨(us[i]'(by omega), p.fields[i]), ?_, rfl⟩
        have : (us.zip p.fields)[i]'(by simp; omega) = (us[i]'(by omega), p.fields[i]) := by simp
        rw [← this]; exact List.getElem_mem _
      exact hm
theorem row_step {A : List Int} {k n : Nat} (hA : A.length = n) (hk : k < n) (x : Int) : (A.take k ++ List.replicate (n - k) 0).set k x = A.take k ++ x :: List.replicate (n - (k + 1)) 0 := by
  rw [List.set_append_right _ _ (by rw [List.length_take]; omega), List.length_take, Nat.min_eq_left (by omega), Nat.sub_self, show n - k = (n - (k + 1)) + 1 by omega, List.replicate_succ, List.set_cons_zero]
theorem row_step2 {A : List Int} {k n : Nat} (hA : A.length = n) (hk : k < n) (x y : Int) : (A.take k ++ x :: List.replicate (n - (k + 1)) 0).set k y = A.take k ++ y :: List.replicate (n - (k + 1)) 0 := by
  rw [List.set_append_right _ _ (by rw [List.length_take]; omega), List.length_take, Nat.min_eq_left (by omega), Nat.sub_self, List.set_cons_zero]
theorem row_next {A : List Int} {k n : Nat} (hA : A.length = n) (hk : k < n) {x : Int} (hx : A[k]? = some x) : A.take k ++ x :: List.replicate (n - (k + 1)) 0 = A.take (k + 1) ++ List.replicate (n - (k + 1)) 0 := by
  rw [List.getElem?_eq_getElem (by omega)] at hx
  rw [List.take_succ_eq_append_getElem (by omega), List.append_assoc]
  cases hx; rfl
theorem row_get {A : List Int} {k n : Nat} (hA : A.length = n) (hk : k < n) (x : Int) : (A.take k ++ x :: List.replicate (n - (k + 1)) 0)[k]? = some x := by
  rw [List.getElem?_append_right (by rw [List.length_take]; omega), List.length_take, Nat.min_eq_left (by omega), Nat.sub_self]; rfl
section
variable {m : AM} {S R : Res} {t k a : Int} {ly ln lf N rl rs : List Int} {sp : Int} {v : Value} {roots : List Int} {φ : Int → Option Nat} {A : Store}
/-- An object of the machine: its address is in the memory, and its shape is one of those that there are. -/
structure Ob (m : AM) (t : Int) : Prop where
  t0 : 0 ≤ t
  t1 : t < m.Y + 2 * m.H + 1
  h0 : 0 < m.head t
  h1 : m.head t ≤ m.sh.length
  h2 : t + m.size t ≤ m.Y + 2 * m.H + 1
theorem ob_y (h : Gd m ly ln lf N rl sp rs) {t : Int} (ht : t ∈ ly) : Ob m t := by
  have h1 := h.ybd ht; have h2 := h.yl; have h3 := h.sz.H0
  exact ⟨by omega, by omega, h.yhead ht, h.y.ok t ht, by omega⟩
theorem ob_n (h : Gd m ly ln lf N rl sp rs) {t : Int} (ht : t ∈ ln) : Ob m t := by
  have h1 := h.obd ht; have h2 := h.oldle; have h3 := h.sz.H0; have h4 := h.sz.Y0; have h5 := m.base_former
  exact ⟨by omega, by omega, h.ohead ht, h.o.ok t ht, by omega⟩
theorem ob_f (h : Gd m ly ln lf N rl sp rs) {t : Int} (ht : t ∈ lf) : Ob m t := by
  obtain ⟨fe, h6, h7⟩ := h.f
  have h1 := h.fbd ht; have h3 := h.sz.H0; have h4 := h.sz.Y0; have h5 := m.base_former
  exact ⟨by omega, by omega, h.fhead ht, h7.ok t ht, by omega⟩
theorem ob_cur (h : Gd m ly ln lf N rl sp rs) {t : Int} (hc : m.cur t = true) : Ob m t := by
  rcases h.cur_iff.1 hc with h1 | h1
  · exact ob_y h h1
  · exact ob_n h h1
theorem Ob.i (o : Ob m t) : (m.head t - 1).toNat < m.sh.length := by have := o.h0; have := o.h1; omega
theorem Ob.row (o : Ob m t) : m.row t = m.sh[(m.head t - 1).toNat]'o.i := by
  unfold AM.row; rw [List.getD_eq_getElem?_getD, List.getElem?_eq_getElem o.i]; rfl
theorem Ob.len (o : Ob m t) (z : Sz m) : (m.row t).length ≤ 100 := by rw [o.row]; exact z.w _ (List.getElem_mem _)
theorem ob_obj (h : Gd m ly ln lf N rl sp rs) {t : Int} (ht : AM.Obj ly ln lf t) : Ob m t := by
  rcases ht with ht | ht | ht
  · exact ob_y h ht
  · exact ob_n h ht
  · exact ob_f h ht
/-- The parts of a picture, as they grow. -/
theorem pic_parts (m : AM) (roots : List Int) : (m.pic roots).shapes = (m.gr.met m.T roots).map (fun t => m.head t - 1) ∧ (m.pic roots).fields = (m.gr.met m.T roots).map (m.gr.prow (m.gr.met m.T roots)) ∧ (m.pic roots).roots = roots.map fun r => 1 + idx (m.gr.met m.T roots) r := ⟨rfl, rfl, rfl⟩
theorem take_map_succ {α β : Type} {f : α → β} {l : List α} {i : Nat} (h : i < l.length) : (l.map f).take (i + 1) = (l.map f).take i ++ [f l[i]] := by
  rw [List.take_succ_eq_append_getElem (by simpa using h)]; simp
theorem gr_flag {k : Nat} (hk : k < (m.row t).length) : ((m.gr.fs t)[k]'(by rw [gr_len]; exact hk)) = ((m.row t)[k], if (m.row t)[k] then m.seen (m.word (t + 1 + k)) else m.word (t + 1 + k)) := by
  rw [gr_get, List.getD_eq_getElem?_getD, List.getElem?_eq_getElem hk]; rfl
theorem prow_len (m : AM) (M : List Int) (t : Int) : (m.gr.prow M t).length = (m.row t).length := by unfold Gr.prow; rw [List.length_map, gr_len]
theorem prow_get {M : List Int} {k : Nat} (hk : k < (m.row t).length) : (m.gr.prow M t)[k]? = some (if (m.row t)[k] then 1 + idx M (m.seen (m.word (t + 1 + k))) else m.word (t + 1 + k)) := by
  unfold Gr.prow
  rw [List.getElem?_map, List.getElem?_eq_getElem (by rw [gr_len]; exact hk), gr_flag hk]
  simp only [Option.map_some]
  split <;> rfl
theorem snoc_all {α β : Type} {P : α → β → Prop} {us : List α} {fs : List β} {x0 : α} {y0 : β} {i : Nat} (hul : us.length = i) (hf : ∀ (j : Nat) (u : α) (x : β), us[j]? = some u → fs[j]? = some x → P u x) (hi : fs[i]? = some y0) (h0 : P x0 y0) : ∀ (j : Nat) (u : α) (x : β), (us ++ [x0])[j]? = some u → fs[j]? = some x → P u x := fun j u x hu hx => by
  rcases Nat.lt_or_ge j us.length with hj | hj
  · exact hf j u x (by rw [List.getElem?_append_left hj] at hu; exact hu) hx
  · have hji : j = us.length := by
      have := (List.getElem?_eq_some_iff.1 hu).1
      simp at this; omega
    subst hji
    rw [List.getElem?_append_right (Nat.le_refl _)] at hu
    rw [hul, hi] at hx
    simp at hu hx
    rw [← hu, ← hx]; exact h0
theorem VForm.one {v : Value} {n : Nat} {l : List Value} (h : VForm v n l) : v.oneCell' = true := by
  rcases h with ⟨h, _⟩ | ⟨b, cp, h⟩ <;> rw [h] <;> rfl
end
end Go.Proofs.Ytmhmpjgkkpbnnaa
namespace Go.Ck
open Go Go.RowKit
/-- Block mb is a map that reads as m; block ib ranges over it: these entries are left; that one came out last. -/
def mit (mb ib : Nat) (m left : List (Int × Value)) (last : Option (Int × Value)) : Res where
  dom b := b = mb ∨ b = ib
  ok f := mb ≠ ib ∧ ∃ es ck seen, f mb = some (.map es ck) ∧ es.toList.map (fun x : MapEntry => (x.key, x.val)) = menc m ∧ Brn es ck m ∧ f ib = some (.mapIter (some mb) ck seen ck) ∧
    ((es.toList.filter fun x : MapEntry => !seen.contains x.born).map fun x : MapEntry => (x.key, x.val)).Perm (menc left) ∧ ∀ p, last = some p → ∃ x ∈ es.toList, seen.back? = some x.born ∧ x.key = .int .i64 p.1 ∧ x.val = p.2
  loc f g he := fun ⟨hn, es, ck, seen, h1, h2, h3, h4, h5⟩ => ⟨hn, es, ck, seen, by rw [← he mb (.inl rfl)]; exact h1, h2, h3, by rw [← he ib (.inr rfl)]; exact h4, h5⟩
  pres f := fun ⟨_, es, ck, seen, h1, _, _, h4, _⟩ b hb => by
    rcases hb with rfl | rfl
    · rw [h1]; rfl
    · rw [h4]; rfl
theorem filt_one (seen : Array Nat) (e : MapEntry) (he : seen.contains e.born = false) : ∀ (l : List MapEntry), (l.map (·.born)).Nodup → e ∈ l → (l.filter fun x => !seen.contains x.born).Perm (e :: l.filter fun x => !(seen.push e.born).contains x.born)
  | [], _, h => by cases h
  | x :: t, hn, h => by
    rw [List.map_cons, List.nodup_cons] at hn
    have hpush : ∀ y : MapEntry, y.born ≠ e.born → (seen.push e.born).contains y.born = seen.contains y.born := fun y hy => by
      rw [Bool.eq_iff_iff]; simp [Array.contains_iff_mem, Array.mem_push, hy]
    have hself : (seen.push e.born).contains e.born = true := by simp
    by_cases hx : x = e
    · subst hx
      have ht : t.filter (fun y => !(seen.push x.born).contains y.born) = t.filter fun y => !seen.contains y.born := List.filter_congr fun y hy => by
        rw [hpush y fun heq => hn.1 (heq ▸ List.mem_map.2 ⟨y, hy, rfl⟩)]
      rw [List.filter_cons, List.filter_cons, he, hself, ht]
      exact .refl _
    · have hm : e ∈ t := (List.mem_cons.1 h).resolve_left fun q => hx q.symm
      have hb : x.born ≠ e.born := fun heq => hn.1 (heq ▸ List.mem_map.2 ⟨e, hm, rfl⟩)
      have ih := filt_one seen e he t hn.2 hm
      rw [List.filter_cons, List.filter_cons, hpush x hb]
      by_cases hc : (!seen.contains x.born) = true
      · rw [if_pos hc, if_pos hc]
        exact (ih.cons x).trans (.swap ..)
      · rw [if_neg hc, if_neg hc]; exact ih
section
variable {P : Program}
theorem run_next_at {w : World} {mb ib ck : Nat} {es : Array MapEntry} {seen : Array Nat} (h1 : w.heap[mb]? = some (.map es ck)) (h2 : w.heap[ib]? = some (.mapIter (some mb) ck seen ck)) (hold : ∀ x ∈ es.toList, x.born < ck) (ty : TypeId) :
    ((es.toList.filter fun x => !seen.contains x.born) = [] ∧ (Instr.next (.pointer (some ⟨ib, 0, none⟩)) false ty).run P w = .ok (.tuple #[.bool false]) w) ∨
    ∃ x ∈ (es.toList.filter fun x => !seen.contains x.born), ∃ n : Nat, (Instr.next (.pointer (some ⟨ib, 0, none⟩)) false ty).run P w = .ok (.tuple #[.bool true, x.key, x.val]) { w with drawn := n, heap := w.heap.setIfInBounds ib (.mapIter (some mb) ck (seen.push x.born) ck) } := by
  simp only [Instr.next, getObj, Sem.run_bind, Sem.run, h1, h2, Result.andThen, next_test_false seen es ck ck hold (Nat.le_refl _), Bool.false_eq_true, if_false]
  have hmem : ∀ x ∈ (Array.filter (fun e => !seen.contains e.born) es).toList, x.born < ck := fun x hx => hold x (by simp at hx ⊢; exact hx.1)
  have hL : (Array.filter (fun e => !seen.contains e.born) es).toList = es.toList.filter fun x => !seen.contains x.born := by simp
  rw [← hL]
  generalize Array.filter (fun e => !seen.contains e.born) es = L at hmem ⊢
  have e1 : L.filter (fun x => decide (x.born < ck)) = L := Array.filter_eq_self.2 (fun x hx => by simpa using hmem x (by simpa using hx))
  have e2 : L.filter (fun x => decide (x.born ≥ ck)) = #[] := by
    rw [Array.filter_eq_empty_iff]
    intro x hx
    have := hmem x (by simpa using hx)
    simp
    omega
  simp only [e1, e2, Array.append_empty]
  by_cases h0 : L.size = 0
  · left
    have : L = #[] := Array.eq_empty_of_size_eq_zero h0
    subst this
    refine ⟨rfl, ?_⟩
    simp [choose, Sem.run, Question.forced]
  · right
    have hne : L.isEmpty = false := by simp [Array.isEmpty, h0]
    simp only [hne, Bool.false_eq_true, if_false, Array.empty_append, Array.size_map]
    have hch : ∃ (j n : Nat), j < L.size ∧ (choose (Question.mapNext L.size)).run P w = .ok j { w with drawn := n } := by
      by_cases hf : L.size ≤ 1
      · exact ⟨0, w.drawn, by omega, by simp [choose, Sem.run, Question.forced, hf]⟩
      · exact ⟨_, w.drawn + 1, Nat.mod_lt _ (by omega), by
          simp only [choose, Sem.run, Question.forced, decide_eq_true_eq, hf, if_false, Question.cut]
          rfl⟩
    obtain ⟨j, n, hj, hrun⟩ := hch
    refine ⟨L[j], by simp, n, ?_⟩
    have hset : ∀ o' : Obj, (setObj ib o').run P { w with drawn := n } = .ok () { w with drawn := n, heap := w.heap.setIfInBounds ib o' } := fun o' => by
      simp [setObj, Sem.run, h2]
    simp only [hrun, Array.getElem?_map, Array.getElem?_eq_getElem hj, Option.map_some, Sem.run_bind, hset, Result.andThen]
    rfl
theorem run_entry_at {w : World} {mb ib ck : Nat} {es : Array MapEntry} {seen : Array Nat} {x : MapEntry} (h1 : w.heap[mb]? = some (.map es ck)) (h2 : w.heap[ib]? = some (.mapIter (some mb) ck seen ck)) (hx : x ∈ es.toList) (hb : seen.back? = some x.born) (hn : (es.toList.map (·.born)).Nodup) :
    (Instr.entry (.pointer (some ⟨ib, 0, none⟩))).run P w = .ok (.tuple #[x.key, x.val]) w := by
  have hf : es.find? (·.born == x.born) = some x := by rw [← Array.find?_toList]; exact find_born x es.toList hn hx
  simp only [Instr.entry, getObj, Sem.run_bind, Sem.run, h1, h2, Result.andThen, hb, bne_self_eq_false, Bool.false_eq_true, if_false, hf]
  rfl
end
section
variable {c : Cx} {ops : Array Oper} {K : Act → World → Prop} {rest : List Oper} {e : Env} {h h' : SH}
theorem st_range {d : Nat} {T K' E ty : TypeId} {x : Operand} {pos : String} {after : Array Edge} {mb : Nat} {m : List (Int × Value)} (hx : e.ev? x = some (.map (some mb))) (hT : MpT c.P T K' E) (hs : Sel h (mpr mb m) h') (hd : d < c.n)
    (hnx : ∀ ib, (m.map (·.1)).Nodup → St c ops K rest ((d, .pointer (some ⟨ib, 0, none⟩)) :: e) (mit mb ib m m none :: h')) :
    St c ops K (⟨some d, .range T x, ty, pos, after, none⟩ :: rest) e h :=
  st_any (by simp) fun a w hk hh hw => by
    have hh' := hh.sel hs
    obtain ⟨es, ck, h1, h2, hB⟩ := hh'.1
    have h1' : w.heap[mb]? = some (.map es ck) := h1
    have hlt : mb < w.heap.size := (Array.getElem?_eq_some_iff.1 h1').1
    have hr := run_range_map (P := c.P) w T K' E mb es ck hT.1 h1'
    simp only [execOp, hk.ev hx, Sem.run_bind, hr, Result.andThen_ok, Sem.run_pure]
    have hg := Grew.alloc w (.mapIter (some mb) ck #[] ck) rfl
    refine hnx w.heap.size hB.2.2 _ _ (hk.put _ hd) ⟨⟨by omega, es, ck, #[], ?_, h2, hB, ?_, ?_, fun p hp => by cases hp⟩, fun b hb hd' => ?_, ?_⟩ (hw.trans hg.toSame)
    · show (w.alloc _).heap[mb]? = _
      rw [alloc_old w _ mb (by omega)]; exact h1'
    · show (w.heap.push _)[w.heap.size]? = _
      simp
    · have hf : (es.toList.filter fun x : MapEntry => !(#[] : Array Nat).contains x.born) = es.toList := List.filter_eq_self.2 fun _ _ => by simp
      rw [hf, h2]
    · rcases hb with rfl | rfl
      · exact hh'.2.1 b rfl hd'
      · have := Holds.lt (w := w) hh'.2.2 hd'; omega
    · exact HoldsF.loc hh'.2.2 fun b hb => (hg.block b (Holds.lt (w := w) hh'.2.2 hb)).symm
theorem menc_cons (p : Int × Value) (l : List (Int × Value)) : menc (p :: l) = (.int .i64 p.1, p.2) :: menc l := rfl
theorem st_next {d : Nat} {ty : TypeId} {x : Operand} {pos : String} {after : Array Edge} {mb ib : Nat} {m left : List (Int × Value)} {last : Option (Int × Value)} (hx : e.ev? x = some (.pointer (some ⟨ib, 0, none⟩))) (hs : Sel h (mit mb ib m left last) h') (hd : d < c.n)
    (h0 : left = [] → St c ops K rest ((d, .tuple #[.bool false]) :: e) (mit mb ib m [] last :: h'))
    (h1 : ∀ k v left', left.Perm ((k, v) :: left') → St c ops K rest ((d, .tuple #[.bool true, .int .i64 k, v]) :: e) (mit mb ib m left' (some (k, v)) :: h')) :
    St c ops K (⟨some d, .next x false, ty, pos, after, none⟩ :: rest) e h :=
  st_any (by simp) fun a w hk hh hw => by
    have hh' := hh.sel hs
    obtain ⟨hne, es, ck, seen, g1, g2, hB, g4, g5, g6⟩ := hh'.1
    have g1' : w.heap[mb]? = some (.map es ck) := g1
    have g4' : w.heap[ib]? = some (.mapIter (some mb) ck seen ck) := g4
    have hlt : ib < w.heap.size := (Array.getElem?_eq_some_iff.1 g4').1
    rcases run_next_at (P := c.P) g1' g4' hB.1 ty with ⟨q1, q2⟩ | ⟨z, hz, n, q2⟩
    · simp only [execOp, hk.ev hx, Sem.run_bind, q2, Result.andThen_ok, Sem.run_pure]
      have hl : left = [] := by
        rw [q1] at g5
        have := g5.symm.eq_nil
        unfold menc at this
        simpa using this
      subst hl
      exact h0 rfl _ _ (hk.put _ hd) hh' hw
    · simp only [execOp, hk.ev hx, Sem.run_bind, q2, Result.andThen_ok, Sem.run_pure]
      have hz1 : z ∈ es.toList := (List.mem_filter.1 hz).1
      have hz2 : seen.contains z.born = false := by simpa using (List.mem_filter.1 hz).2
      have hzm : (z.key, z.val) ∈ menc left := g5.mem_iff.1 (List.mem_map.2 ⟨z, hz, rfl⟩)
      obtain ⟨⟨k, v⟩, hkv, hkv2⟩ := List.mem_map.1 hzm
      simp only [Prod.mk.injEq] at hkv2
      obtain ⟨hk1, hv1⟩ := hkv2
      obtain ⟨s, t, rfl⟩ := List.append_of_mem hkv
      have hp : (s ++ (k, v) :: t).Perm ((k, v) :: (s ++ t)) := List.perm_middle
      have hf := filt_one seen z hz2 es.toList hB.2.1 hz1
      have hrest : ((es.toList.filter fun x => !(seen.push z.born).contains x.born).map fun x => (x.key, x.val)).Perm (menc (s ++ t)) := by
        have h3 := (hf.map fun x : MapEntry => (x.key, x.val)).symm.trans (g5.trans (hp.map fun p : Int × Value => ((.int .i64 p.1 : Value), p.2)))
        rw [List.map_cons, List.map_cons, ← hk1, ← hv1] at h3
        exact h3.cons_inv
      rw [← hk1, ← hv1]
      have hsame : Same w { w with drawn := n, heap := w.heap.setIfInBounds ib (.mapIter (some mb) ck (seen.push z.born) ck) } := ⟨rfl, rfl, rfl, by simp, fz_one (b := ib) (fun o ho => by rw [g4'] at ho; cases ho; rfl) (fun o ho => by
        have : (w.heap.setIfInBounds ib (.mapIter (some mb) ck (seen.push z.born) ck))[ib]? = some o := ho
        simp [hlt] at this; rw [← this]; rfl) fun c hc => putObj_other w ib c _ hc⟩
      refine h1 k v (s ++ t) hp _ _ (hk.put _ hd) ⟨⟨hne, es, ck, seen.push z.born, ?_, g2, hB, ?_, hrest, fun p hp' => ?_⟩, hh'.2.1, ?_⟩ (hw.trans hsame)
      · show (w.heap.setIfInBounds ib _)[mb]? = _
        rw [Array.getElem?_setIfInBounds_ne (Ne.symm hne)]; exact g1'
      · show (w.heap.setIfInBounds ib _)[ib]? = _
        simp [hlt]
      · cases hp'
        exact ⟨z, hz1, by simp, hk1.symm, hv1.symm⟩
      · exact HoldsF.loc hh'.2.2 fun b hb => (putObj_other w ib b _ (fun q => hh'.2.1 b (.inr q) hb)).symm
theorem v_entry {ty : TypeId} {x : Operand} {mb ib : Nat} {m left : List (Int × Value)} {k : Int} {v : Value} (hx : e.ev? x = some (.pointer (some ⟨ib, 0, none⟩))) (hs : Sel h (mit mb ib m left (some (k, v))) h') :
    Vop c.P e h (.entry x) ty (.tuple #[.int .i64 k, v]) :=
  ⟨by simp, by simp, fun ρ w d pos after g hρ hh => by
    obtain ⟨_, es, ck, seen, g1, _, hB, g4, _, g6⟩ := (hh.sel hs).1
    obtain ⟨z, hz, hb, h1, h2⟩ := g6 _ rfl
    have := run_entry_at (P := c.P) (w := w) g1 g4 hz hb hB.2.1
    rw [h1, h2] at this
    simp [execOp, hρ x _ hx, this]⟩
end
section
variable {c : Cx} {x : Code} {Q : Exit → Act → World → Prop} {e : Env} {h h' : SH}
theorem cd_mitdone {mb ib : Nat} {m left : List (Int × Value)} {last : Option (Int × Value)} (s : Sel h (mit mb ib m left last) h') (hx : Cd c x Q e (mpr mb m :: h')) : Cd c x Q e h := fun a w hk hh hw => by
  have hh' := hh.sel s
  obtain ⟨_, es, ck, seen, g1, g2, hB, _⟩ := hh'.1
  exact hx a w hk ⟨⟨es, ck, g1, g2, hB⟩, fun b hb => hh'.2.1 b (.inl hb), hh'.2.2⟩ hw
end
theorem Ct.opened {P : Program} {k : FuncId} {args : Array Value} {hf t : SH} {O : Value → Prop} {E : TypeId} {sz n : Nat} {l : List Value} (h : Ct P k args hf fun u h' => O u ∧ h' = vec u E sz n l :: t) (hn : 0 < n) :
    Ct P k args hf fun u h' => ∃ b cp j, OpenRow u sz n l b cp j ∧ h' = pt b (cl (l ++ j) E) :: t :=
  fun hr w hw => (h hr w hw).mono fun e w' ⟨v, h', he, ⟨_, hh⟩, hH, hS⟩ => by
    subst hh
    rcases Holds.openRow hH with ⟨_, h0, _⟩ | ⟨b, cp, j, ho, hH'⟩
    · omega
    · exact ⟨v, _, he, ⟨b, cp, j, ho, rfl⟩, hH', hS⟩
end Go.Ck
namespace Go.Proofs.Ytmhmpjgkkpbnnaa
open Go.Ck Fx Go.Hm Go.Hm.AM
attribute [local irreducible] St Cd Xt Nx DrL LsW
theorem cloneI_o {R : Res} {v : Value} {l : List Int} (hv : RowI R v l) (hl : l.length ≤ 1000000) (h0 : 0 < l.length) : Ct Try.prog 76 #[v] [R] fun u h' => ∃ b cp j, OpenRow u 1 l.length (ints l) b cp j ∧ h' = [pt b (cl (ints l ++ j) 3), R] :=
  Ct.opened (O := fun _ => True) ((clone_ct hv hl).mono fun _ _ h => ⟨trivial, h⟩) h0
theorem cloneB_o {R : Res} {v : Value} {l : List Bool} (hv : RowB R v l) (hl : l.length ≤ 1000000) (h0 : 0 < l.length) : Ct Try.prog 46 #[v] [R] fun u h' => ∃ b cp j, OpenRow u 1 l.length (bools l) b cp j ∧ h' = [pt b (cl (bools l ++ j) 4), R] :=
  Ct.opened (O := fun u => u.oneCell' = true) (cloneB_ct hv hl) h0
theorem rowI_wb (l : SpL) (s : Sp) : RowI (wb l s) (.slice (some ⟨l.wb, 0, none⟩) s.ws.length (s.ws.length + l.wj.length)) s.ws :=
  ⟨_, _, rfl, .inr ⟨l.wb, 0, rfl, fun j hj => by
    rw [Nat.zero_add]
    have := rd_ints (b := l.wb) (j := l.wj) (T := 3) hj
    rwa [getD_lt hj] at this⟩⟩
theorem rowB_tb (l : SpL) (s : Sp) : RowB (tb l s) (.slice (some ⟨l.tb, 0, none⟩) s.st.length (s.st.length + l.tj.length)) s.st :=
  ⟨_, _, rfl, .inr ⟨l.tb, 0, rfl, fun j hj => by
    rw [Nat.zero_add]
    have := rd_bools (b := l.tb) (j := l.tj) (T := 4) hj
    rwa [getD_lt hj] at this⟩⟩
set_option maxRecDepth 100000 in
theorem copySp_c {l : SpL} {s : Sp} (ok : s.Ok) (h0 : 0 < s.ws.length) (h0' : 0 < s.st.length) : Ct Try.prog 75 #[.pointer (some ⟨l.sb, 0, none⟩)] [sb l s, wb l s, tb l s] fun u h' =>
    ∃ l' : SpL, u = .pointer (some ⟨l'.sb, 0, none⟩) ∧ h' = [sb l' s, wb l' s, tb l' s, sb l s, wb l s, tb l s] := by
  have h1 := ok.us; have h2 := ok.fr; have h3 := ok.ws; have h4 := ok.st
  refine ct_of (n := 27) Try.func75 rfl rfl (len rfl) fun hr w0 => ?_
  simp only [List.cons_append, List.nil_append]
  refine cd_seq (cd_region (st_v (v_assign rfl) (st_nil (nx_then (cd_seq (cd_draw (ork [(0, 2), (1, 2), (2, 2), (3, 2), (4, 1), (6, 2), (7, 2), (8, 2), (9, 2), (10, 1), (11, 2), (12, 2), (13, 2), (14, 2), (15, 1), (17, 2), (18, 2), (19, 2), (20, 1), (5, 0), (16, 2), (21, 0), (22, 2), (23, 0), (24, 2)] .nil) (fun i => !(Nat.beq i 23)) [sb l s] mixed (by kernel_rfl) ?_))))))
  refine dp_v rfl (v_move rfl) (dp_v rfl (v_nilCheck rfl) (dp_v rfl (v_fieldAddr rfl fa117_0 rfl) (dp_v rfl (v_fieldAddr rfl fa115_0 rfl) (dr_v rfl (v_ld rfl ld34) ?_))))
  refine dp_v rfl (v_move rfl) (dp_v rfl (v_nilCheck rfl) (dp_v rfl (v_fieldAddr rfl fa117_0 rfl) (dp_v rfl (v_fieldAddr rfl fa115_1 rfl) (dr_v rfl (v_ld rfl ld3) ?_))))
  refine dp_v rfl (v_move rfl) (dp_v rfl (v_nilCheck rfl) (dp_v rfl (v_fieldAddr rfl fa117_0 rfl) (dp_v rfl (v_fieldAddr rfl fa115_2 rfl) (dr_v rfl (v_ld rfl ld3) ?_))))
  refine dp_v rfl (v_move rfl) (dp_v rfl (v_nilCheck rfl) (dp_v rfl (v_fieldAddr rfl fa117_1 rfl) (dr_v rfl (v_ld rfl ld73) ?_)))
  refine dr_eff rfl (st_cl rfl rfl en76 rfl ((cloneI_o (rowI_wb l s) (by omega) h0)) ?_)
  rintro v' h' ⟨b7, cp7, j7, ⟨rfl, a2, a3, a4, a5⟩, rfl⟩
  obtain rfl : cp7 = s.ws.length + j7.length := by rw [List.length_append, ints_length] at a5; omega
  simp only [List.cons_append, List.nil_append]
  refine dr_nx ?_
  refine dp_v rfl (v_build (cells := [.slice (some ⟨b7, 0, none⟩) s.ws.length (s.ws.length + j7.length), .int .i64 s.fr, .int .i64 s.us]) rfl (fun _ => by kernel_rfl)) ?_
  refine dr_eff rfl (st_cl rfl rfl en46 rfl ((cloneB_o (rowB_tb l s) (by omega) h0')) ?_)
  rintro v' h' ⟨b8, cp8, j8, ⟨rfl, c2, c3, c4, c5⟩, rfl⟩
  obtain rfl : cp8 = s.st.length + j8.length := by rw [List.length_append, bools_length] at c5; omega
  simp only [List.cons_append, List.nil_append]
  refine dr_nx ?_
  refine dp_v rfl (v_build (cells := [.slice (some ⟨b7, 0, none⟩) s.ws.length (s.ws.length + j7.length), .int .i64 s.fr, .int .i64 s.us, .slice (some ⟨b8, 0, none⟩) s.st.length (s.st.length + j8.length)]) rfl (fun _ => by kernel_rfl)) ?_
  refine dr_eff rfl (st_bx rfl rfl fun b26 => dr_nx ?_)
  refine dp_v rfl (v_assign rfl) (dr_nil (nx_kp [2] rfl (nx_then (cd_ret ?_))))
  exact xt_rt rfl ⟨⟨b26, b7, b8, j7, j8⟩, rfl, rfl⟩ (by (repeat (refine Sub.sel (by repeat (first | exact Sel.here | apply Sel.there)) ?_)); (repeat apply Sub.cons); first | exact Sub.refl _ | exact Sub.nil _)
set_option maxRecDepth 100000 in
theorem cloneK_c {v : Value} {n : Nat} {l : List Value} (hn : n ≤ 1000000) (hl : l.length = n * 2) (h1 : ∀ u ∈ l, u.oneCell' = true) : Ct Try.prog 77 #[v] [vec v 131 2 n l] fun u h' => u.oneCell' = true ∧ h' = [vec u 131 2 n l, vec v 131 2 n l] := by
  refine ct_of (n := 8) Try.func77 rfl rfl (len rfl) fun hr w0 => ?_
  refine cd_vform (v := v) (E := 131) (sz := 2) (n := n) (l := l) (by repeat (first | exact Sel.here | apply Sel.there)) fun hf => ?_
  rcases hf with ⟨rfl, rfl, rfl⟩ | ⟨b, cp, rfl⟩
  · skip
    refine cd_seq (cd_region (st_v (v_assign rfl) (st_nil (nx_then (cd_seq (cd_seq (cd_region (st_v (v_move rfl) (st_v (v_eql_slice_nil rfl rfl Try.underlying98) (st_nil (nx_kp [0, 2, 4] rfl (nx_then (cd_cond rfl (fun hc => ?_) (fun hc => ?_))))))))))))))
    · skip
      refine cd_seq (cd_region (st_val (v_assign rfl) (ltn rfl) (st_nil (nx_then (cd_ret (xt_vecnil 131 2 ?_))))))
      repeat (refine xt_ret_then ?_)
      exact xt_rt rfl ⟨rfl, rfl⟩ (by (repeat (refine Sub.sel (by repeat (first | exact Sel.here | apply Sel.there)) ?_)); (repeat apply Sub.cons); first | exact Sub.refl _ | exact Sub.nil _)
    · exact absurd hc (by simp)
  · skip
    refine cd_seq (cd_region (st_v (v_assign rfl) (st_nil (nx_then (cd_seq (cd_seq (cd_region (st_v (v_move rfl) (st_v (v_eql_slice_nil rfl rfl Try.underlying98) (st_nil (nx_kp [0, 2, 4] rfl (nx_then (cd_false rfl ?_)))))))))))))
    refine cd_skip (xt_then (cd_seq (cd_region (st_buildSlice0 Try.underlying98 inf131 (ltn rfl) fun b5 => ?_))))
    refine st_v (v_move rfl) ?_
    by_cases h0 : n = 0
    · skip
      subst h0
      obtain rfl : l = [] := List.eq_nil_of_length_eq_zero (by omega)
      refine st_append0 rfl rfl Try.underlying98 inf131 rfl (ltn rfl) (by repeat (first | exact Sel.here | apply Sel.there)) (by omega) (by omega) (ltn rfl) fun u hu hu1 => ?_
      refine st_v (v_assign rfl) (st_nil (nx_kp [2] rfl (nx_then (cd_ret ?_))))
      exact xt_rt rfl ⟨hu1, rfl⟩ (by (repeat (refine Sub.sel (by repeat (first | exact Sel.here | apply Sel.there)) ?_)); (repeat apply Sub.cons); first | exact Sub.refl _ | exact Sub.nil _)
    · skip
      refine st_append (news := l) rfl rfl Try.underlying98 inf131 rfl (ltn rfl) (by repeat (first | exact Sel.here | apply Sel.there)) hl (fun j u hu => by repeat (first | exact at_here (rd_vec rfl (by rw [Nat.zero_add]; exact hu)) | apply at_there)) h1 (by omega) (by omega) (ltn rfl) fun u hu hu1 => ?_
      refine st_v (v_assign rfl) (st_nil (nx_kp [2] rfl (nx_then (cd_ret ?_))))
      rw [Nat.zero_add, List.nil_append]
      exact xt_rt rfl ⟨hu1, rfl⟩ (by (repeat (refine Sub.sel (by repeat (first | exact Sel.here | apply Sel.there)) ?_)); (repeat apply Sub.cons); first | exact Sub.refl _ | exact Sub.nil _)
/-- A memory, but for its shapes. -/
def cpSH (L : MemL) (μ : Mem) : SH := [mb L μ, sb L.y μ.y, wb L.y μ.y, tb L.y μ.y, sb L.n μ.n, wb L.n μ.n, tb L.n μ.n, sb L.o μ.o, wb L.o μ.o, tb L.o μ.o, knR L μ, mpr L.mvb (mvv μ.mv)]
theorem mupd_new : ∀ (m : List (Int × Value)) (k : Int) (v : Value), k ∉ m.map (·.1) → mupd m k v = m ++ [(k, v)]
  | [], _, _, _ => rfl
  | p :: t, k, v, h => by
    rw [List.map_cons, List.mem_cons, not_or] at h
    unfold mupd
    rw [if_neg (Ne.symm h.1), mupd_new t k v h.2]; rfl
theorem perm_map_ex {α β : Type} (f : α → β) : ∀ (l : List β) (x : List α), l.Perm (x.map f) → ∃ y : List α, y.Perm x ∧ y.map f = l
  | [], x, h => by
    have : x = [] := by simpa using h.symm.eq_nil
    subst this; exact ⟨[], .refl _, rfl⟩
  | a :: t, x, h => by
    obtain ⟨b, hb, rfl⟩ := List.mem_map.1 (h.mem_iff.1 (List.mem_cons_self ..))
    obtain ⟨s, r, rfl⟩ := List.append_of_mem hb
    have hp : (s ++ b :: r).Perm (b :: (s ++ r)) := List.perm_middle
    have h2 : (f b :: t).Perm (f b :: (s ++ r).map f) := h.trans (hp.map f)
    obtain ⟨y, hy, rfl⟩ := perm_map_ex f t (s ++ r) h2.cons_inv
    exact ⟨b :: y, (hy.cons b).trans hp.symm, rfl⟩
theorem ml_iff : ∀ (m : List (Int × Int)), (m.map (·.1)).Nodup → ∀ k v, ml m k = some v ↔ (k, v) ∈ m
  | [], _, k, v => by simp [ml]
  | p :: t, h, k, v => by
    rw [List.map_cons, List.nodup_cons] at h
    have ih := ml_iff t h.2 k v
    unfold ml at ih ⊢
    rw [List.find?_cons, List.mem_cons]
    by_cases hp : p.1 = k
    · rw [show (p.1 == k) = true by simpa using hp]
      simp only [Option.map_some, Option.some.injEq]
      constructor
      · intro e; left; exact Prod.ext hp.symm e.symm
      · rintro (e | e)
        · rw [← e]
        · exact absurd (List.mem_map.2 ⟨_, e, hp.symm⟩) h.1
    · rw [show (p.1 == k) = false by simpa using hp]
      rw [ih]
      constructor
      · exact .inr
      · rintro (e | e)
        · exact absurd (by rw [← e]) hp
        · exact e
theorem ml_perm {m d : List (Int × Int)} (hp : d.Perm m) (hn : (m.map (·.1)).Nodup) (k : Int) : ml d k = ml m k := by
  have hd : (d.map (·.1)).Nodup := (hp.map (·.1)).nodup_iff.2 hn
  apply Option.ext
  intro v
  rw [ml_iff d hd, ml_iff m hn, hp.mem_iff]
structure CpS where
  done : List (Int × Value)
  left : List (Int × Value)
  last : Option (Int × Value)
theorem kc_one (l : List (Int × Int)) : ∀ u ∈ kc l, u.oneCell' = true := fun u hu => by
  unfold kc at hu
  obtain ⟨x, _, hx⟩ := List.mem_flatMap.1 hu
  simp at hx
  rcases hx with rfl | rfl <;> rfl
theorem kc_len (l : List (Int × Int)) : (kc l).length = l.length * 2 := by
  induction l with
  | nil => rfl
  | cons x t ih => show ([_, _] ++ kc t).length = _; rw [List.length_append, ih, List.length_cons]; simp only [List.length_cons, List.length_nil]; omega
section
variable {L : MemL} {μ : Mem} {S : Res} {m : AM} {ly ln lf : List Int} {φ : Int → Option Nat} {A : Store}
set_option maxHeartbeats 4000000 in
set_option maxRecDepth 100000 in
theorem copy_c (I : MI L μ S m) (h : AM.Good m ly ln lf φ A) : Ct Try.prog 27 #[.pointer (some ⟨L.mb, 0, none⟩)] (memSH L μ S) fun u h' => ∃ L' μ', u = .pointer (some ⟨L'.mb, 0, none⟩) ∧ MI L' μ' S m ∧ h' = cpSH L' μ' ++ memSH L μ S := by
  have oy := I.r.oky h.g; have on := I.r.okn h.g
  obtain ⟨sa, scp, hvs, _⟩ := id I.shp
  have hkn := (I.kn h).1
  have zY := h.g.sz.Y0; have zH := h.g.sz.H0
  have e1 : (μ.y.ws.length : Int) = m.Y := I.r.y.ln
  have e2 : (μ.n.ws.length : Int) = m.H := I.r.n.ln
  have s1 := oy.st; have s2 := on.st
  have o1 : L.vs.oneCell' = true := by rw [hvs]; rfl
  unfold memSH knR
  refine ct_of (n := 56) Try.func27 rfl rfl (len rfl) fun hr w0 => ?_
  simp only [List.cons_append, List.nil_append]
  refine cd_seq (cd_region (st_v (v_assign rfl) (st_nil (nx_then (cd_seq (cd_seq (cd_region (st_v (v_move rfl) (st_clr rfl rfl en67 rfl (made_ct (L := L) (μ := μ)) ?_)))))))))
  refine st_v (v_not rfl) (st_nil (nx_kp [0, 2, 9] rfl (nx_then (cd_false rfl ?_))))
  refine cd_skip (xt_then (cd_seq (cd_region (st_v (v_move rfl) (st_v (v_nilCheck rfl) (st_vecshape (v := L.vk) (E := 131) (sz := 2) (n := μ.kn.length) (l := kc μ.kn) (by repeat (first | exact Sel.here | apply Sel.there)) fun ka kcp hvk hka => ?_))))))
  have o2 : L.vk.oneCell' = true := by rw [hvk]; rfl
  have oo := I.r.oko h.g
  have s3 := oo.st
  obtain ⟨uo, hro, _⟩ := I.r.o
  have e3 : (μ.o.ws.length : Int) = m.H := hro.ln
  refine st_v (v_loadW rfl ld100 rfl (by repeat (first | exact Sel.here | apply Sel.there))) ?_
  refine st_alc al100 fun b3 => ?_
  refine st_stoW rfl rfl sz100 rfl (by simp only [List.all_cons, List.all_nil, o1, o2]; rfl) ?_
  refine st_nil (nx_kp [0, 2, 3] rfl (nx_then (cd_seq (cd_region (st_v (v_assign rfl) (st_nil (nx_then (cd_seq (cd_draw (ork [(0, 2), (1, 2), (2, 2), (3, 2), (4, 1), (6, 2), (7, 2), (8, 2), (9, 2), (10, 1), (12, 2), (13, 2), (14, 2), (15, 2), (16, 1), (5, 0), (11, 0), (17, 0), (18, 2), (19, 0), (20, 2), (21, 0), (22, 2), (23, 0)] .nil) (fun i => !(Nat.beq i 17 || Nat.beq i 19 || Nat.beq i 21 || Nat.beq i 23)) [mb L μ] mixed (by kernel_rfl) ?_)))))))))
  refine dp_v rfl (v_move rfl) (dp_v rfl (v_move rfl) (dp_v rfl (v_nilCheck rfl) (dp_v rfl (v_fieldAddr rfl fa100_1 rfl) (dr_v rfl (v_ld rfl ld95) ?_))))
  refine dp_v rfl (v_move rfl) (dp_v rfl (v_move rfl) (dp_v rfl (v_nilCheck rfl) (dp_v rfl (v_fieldAddr rfl fa100_2 rfl) (dr_v rfl (v_ld rfl ld95) ?_))))
  refine dp_v rfl (v_move rfl) (dp_v rfl (v_move rfl) (dp_v rfl (v_nilCheck rfl) (dp_v rfl (v_fieldAddr rfl fa100_3 rfl) (dr_v rfl (v_ld rfl ld95) ?_))))
  refine dr_eff rfl (st_cl rfl rfl en75 rfl ((copySp_c (l := L.y) (s := μ.y) oy (by omega) (by omega))) ?_)
  rintro v' h' ⟨ly', rfl, rfl⟩
  simp only [List.cons_append, List.nil_append]
  refine dr_nx ?_
  refine dr_eff rfl (st_cl rfl rfl en75 rfl ((copySp_c (l := L.n) (s := μ.n) on (by omega) (by omega))) ?_)
  rintro v' h' ⟨ln', rfl, rfl⟩
  simp only [List.cons_append, List.nil_append]
  refine dr_nx ?_
  refine dr_eff rfl (st_cl rfl rfl en75 rfl ((copySp_c (l := L.o) (s := μ.o) oo (by omega) (by omega))) ?_)
  rintro v' h' ⟨lo', rfl, rfl⟩
  simp only [List.cons_append, List.nil_append]
  refine dr_nx ?_
  refine dp_v rfl (v_fieldAddr rfl fa100_1 rfl) (dr_eff rfl (st_sto rfl rfl sz95 (dr_nx ?_)))
  refine dp_v rfl (v_fieldAddr rfl fa100_2 rfl) (dr_eff rfl (st_sto rfl rfl sz95 (dr_nx ?_)))
  refine dp_v rfl (v_fieldAddr rfl fa100_3 rfl) (dr_eff rfl (st_sto rfl rfl sz95 (dr_nx ?_)))
  refine dr_nil (nx_kp [0, 2, 3] rfl (nx_then (cd_seq (cd_region (st_v (v_move rfl) (st_v (v_nilCheck rfl) (st_v (v_fieldAddr rfl fa100_4 rfl) (st_v (v_ld rfl ld98) ?_))))))))
  refine st_cl rfl rfl en77 rfl ((cloneK_c (v := L.vk) hkn (kc_len μ.kn) (kc_one μ.kn))) ?_
  rintro vk1 h' ⟨o3, rfl⟩
  simp only [List.cons_append, List.nil_append]
  refine st_v (v_fieldAddr rfl fa100_4 rfl) (st_sto rfl rfl sz98 ?_)
  refine st_nil (nx_kp [0, 2, 3] rfl (nx_then (cd_seq (cd_region (st_makeMap (ltn rfl) fun nm => ?_)))))
  refine st_v (v_fieldAddr rfl fa100_7 rfl) (st_sto rfl rfl sz97 ?_)
  refine st_nil (nx_kp [0, 2, 3] rfl (nx_then (cd_seq (cd_seq (cd_region (st_v (v_move rfl) (st_v (v_nilCheck rfl) (st_v (v_fieldAddr rfl fa100_7 rfl) (st_v (v_ld rfl ld97) ?_)))))))))
  refine st_range rfl mp97 (by repeat (first | exact Sel.here | apply Sel.there)) (ltn rfl) fun ib hnd => ?_
  refine st_nil (nx_kp [2, 3, 46] rfl (nx_then (cd_block (cd_loop (σ := CpS) (fun _ => [(3, .pointer (some ⟨b3, 0, none⟩)), (46, .pointer (some ⟨ib, 0, none⟩))]) (fun s => mit L.mvb ib (mvv μ.mv) s.left s.last :: mpr nm s.done :: pt b3 (cl [L.vs, .pointer (some ⟨ly'.sb, 0, none⟩), .pointer (some ⟨ln'.sb, 0, none⟩), .pointer (some ⟨lo'.sb, 0, none⟩), vk1, .bool μ.bu, .int .i64 μ.sc, .map (some nm), .int .i64 μ.le] 100) :: vec vk1 131 2 μ.kn.length (kc μ.kn) :: vec L.vk 131 2 μ.kn.length (kc μ.kn) :: sb lo' μ.o :: wb lo' μ.o :: tb lo' μ.o :: sb ln' μ.n :: wb ln' μ.n :: tb ln' μ.n :: sb ly' μ.y :: wb ly' μ.y :: tb ly' μ.y :: mb L μ :: sb L.y μ.y :: wb L.y μ.y :: tb L.y μ.y :: sb L.n μ.n :: wb L.n μ.n :: tb L.n μ.n :: sb L.o μ.o :: wb L.o μ.o :: tb L.o μ.o :: S :: hr) (fun s => (s.done ++ s.left).Perm (mvv μ.mv)) (fun s => s.left.length) ⟨[], mvv μ.mv, none⟩ (.refl _) ⟨rfl, rfl, trivial⟩ (by (repeat (refine Sub.sel (by repeat (first | exact Sel.here | apply Sel.there)) ?_)); (repeat apply Sub.cons); first | exact Sub.refl _ | exact Sub.nil _) ?_))))
  rintro ⟨done, left, last⟩ hpm
  dsimp only at hpm ⊢
  refine cd_seq (cd_region (st_next rfl (by repeat (first | exact Sel.here | apply Sel.there)) (ltn rfl) (fun hl0 => ?_) fun kk vv lf' hp2 => ?_))
  · skip
    subst hl0
    rw [List.append_nil] at hpm
    refine st_v (v_extract rfl rfl) (st_nil (nx_kp [3, 46, 48] rfl (nx_then (cd_seq (cd_false rfl ?_)))))
    refine cd_exit (xt_exit_then (xt_exit_then (xt_exit_block (xt_then (cd_seq (cd_mitdone (by repeat (first | exact Sel.here | apply Sel.there)) ?_))))))
    refine cd_ne (a := ly'.sb) (b := ln'.sb) (by repeat (first | exact Sel.here | apply Sel.there)) (by repeat (first | exact Sel.here | apply Sel.there)) fun hyn => ?_
    refine cd_ne (a := ly'.sb) (b := lo'.sb) (by repeat (first | exact Sel.here | apply Sel.there)) (by repeat (first | exact Sel.here | apply Sel.there)) fun hyo => ?_
    refine cd_ne (a := ln'.sb) (b := lo'.sb) (by repeat (first | exact Sel.here | apply Sel.there)) (by repeat (first | exact Sel.here | apply Sel.there)) fun hno => ?_
    obtain ⟨d, hd1, hd2⟩ := perm_map_ex (fun p : Int × Int => (p.1, (.int .i64 p.2 : Value))) done μ.mv hpm
    have hmv : mvv d = done := hd2
    have hnk : (μ.mv.map (·.1)).Nodup := by
      have : (mvv μ.mv).map (·.1) = μ.mv.map (·.1) := by unfold mvv; rw [List.map_map]; rfl
      rw [← this]; exact hnd
    have hml : ∀ t, ml d t = ml μ.mv t := fun t => ml_perm hd1 hnk t
    refine cd_region (st_v (v_assign rfl) (st_nil (nx_kp [2] rfl (nx_then (cd_ret (xt_rt rfl ⟨⟨b3, L.vs, vk1, nm, ly', ln', lo'⟩, { μ with mv := d }, rfl, ⟨⟨I.r.sh, I.r.y, I.r.n, I.r.o, I.r.kn, I.r.bu, I.r.sc, fun t ht => (hml t).trans (I.r.mv t ht), I.r.le, I.r.ob⟩, hyn, hyo, hno, I.shp⟩, rfl⟩ ?_))))))
    unfold cpSH knR
    dsimp only
    rw [hmv]
    simp only [List.cons_append, List.nil_append]
    exact (by (repeat (refine Sub.sel (by repeat (first | exact Sel.here | apply Sel.there)) ?_)); (repeat apply Sub.cons); first | exact Sub.refl _ | exact Sub.nil _)
  · skip
    refine st_v (v_extract rfl rfl) (st_nil (nx_kp [3, 46, 48] rfl (nx_then (cd_seq (cd_true rfl ?_)))))
    refine cd_skip (xt_then (cd_block (cd_seq (cd_region (st_v (v_entry rfl (by repeat (first | exact Sel.here | apply Sel.there))) ?_)))))
    refine st_v (v_extract rfl rfl) (st_v (v_extract rfl rfl) (st_v (v_assign rfl) (st_v (v_assign rfl) (st_nil (nx_kp [3, 5, 6, 46] rfl (nx_then (cd_region (st_v (v_fieldAddr rfl fa100_7 rfl) (st_v (v_ld rfl ld97) ?_)))))))))
    refine st_v (v_move rfl) (st_v (v_move rfl) (st_mapUpdate rfl rfl rfl mp97 (by repeat (first | exact Sel.here | apply Sel.there)) ?_))
    have h3 : (done ++ (kk, vv) :: lf').Perm (mvv μ.mv) := (hp2.append_left done).symm.trans hpm
    have h4 : ((done ++ (kk, vv) :: lf').map (·.1)).Nodup := (h3.map (·.1)).nodup_iff.2 hnd
    have hnk : kk ∉ done.map (·.1) := fun hm => by
      rw [List.map_append, List.map_cons] at h4
      exact (List.nodup_append.1 h4).2.2 kk hm kk (List.mem_cons_self ..) rfl
    rw [show mupd done kk #[Value.int .i64 kk, vv][1] = done ++ [(kk, vv)] from mupd_new done kk vv hnk]
    refine st_nil (nx_kp [3, 46] rfl (nx_xt (xt_normal_block (xt_ag (⟨done ++ [(kk, vv)], lf', some (kk, vv)⟩ : CpS) (by dsimp only; rw [List.append_assoc]; exact h3) (by dsimp only; have := hp2.length_eq; rw [List.length_cons] at this; omega) (by repeat (first | exact trivial | refine ⟨rfl, ?_⟩)) ?_))))
    dsimp only
    exact (by (repeat (refine Sub.sel (by repeat (first | exact Sel.here | apply Sel.there)) ?_)); (repeat apply Sub.cons); first | exact Sub.refl _ | exact Sub.nil _)
end
end Go.Proofs.Ytmhmpjgkkpbnnaa
namespace Go.Hm.AM
/-- A call of a method: a number, a list, an error, and the machine behind it. -/
def call (m : AM) (k a b c : Int) (roots : List Int) : Int × List Int × Int × AM :=
  if k = 0 then ((m.alloc a).1, [], (m.alloc a).2.1, (m.alloc a).2.2)
  else if k = 1 then ((m.shapeOf a).1, [], (m.shapeOf a).2, m)
  else if k = 2 then ((m.get a b).1, [], (m.get a b).2.1, (m.get a b).2.2)
  else if k = 3 then (0, [], (m.set a b c).1, (m.set a b c).2)
  else if k = 4 then (0, (m.minor roots).1, (m.minor roots).2.1, (m.minor roots).2.2)
  else if k = 5 then (0, (m.flip roots).1, (m.flip roots).2.1, (m.flip roots).2.2)
  else ((m.step a).1, [], (m.step a).2.1, (m.step a).2.2)
end Go.Hm.AM
namespace Go.Proofs.Ytmhmpjgkkpbnnaa
open Go.Ck Fx Go.Hm Go.Hm.AM
attribute [local irreducible] St Cd Xt Nx DrL LsW
section
theorem Fine.call {m : AM} (h : Fine m) (k a b c : Int) (roots : List Int) : Fine (m.call k a b c roots).2.2.2 := by
  unfold AM.call
  split; exact h.alloc a
  split; exact h
  split; exact h.get a b
  split; exact h.set a b c
  split; exact h.minor roots
  split; exact h.flip roots
  exact h.step a
variable {R : Res} {m : AM} {ly ln lf : List Int} {φ : Int → Option Nat} {A : Store} {v : Value} {roots : List Int} {S : Res}
/-- A call, as it is given. -/
structure CallV where
  k : Int
  a : Int
  b : Int
  c : Int
  roots : List Int
/-- v is a list of calls, which r holds. -/
def Calls (r : Res) (v : Value) (cs : List CallV) : Prop := ∃ a cp, v = .slice a cs.length cp ∧ (cs = [] ∨ ∃ b o, a = some ⟨b, o, none⟩ ∧ ∀ i (h : i < cs.length), ∃ u, RowI r u cs[i].roots ∧ Rds r b (o + i * 5) [.int .i64 cs[i].k, .int .i64 cs[i].a, .int .i64 cs[i].b, .int .i64 cs[i].c, u])
theorem Calls.at {r : Res} {v : Value} {cs : List CallV} (h : Calls r v cs) {i : Nat} (hi : i < cs.length) : ∃ b o cp u, v = .slice (some ⟨b, o, none⟩) cs.length cp ∧ RowI r u cs[i].roots ∧ Rds r b (o + i * 5) [.int .i64 cs[i].k, .int .i64 cs[i].a, .int .i64 cs[i].b, .int .i64 cs[i].c, u] := by
  obtain ⟨a, cp, hv, hn⟩ := h
  rcases hn with e | ⟨b, o, ha, hr⟩
  · rw [e] at hi; simp at hi
  obtain ⟨u, h1, h2⟩ := hr i hi
  exact ⟨b, o, cp, u, by rw [hv, ha], h1, h2⟩
def shortC (x : CallV) : Bool := !((decide (20 < (x.roots.length : Int)) && decide ((x.roots.length : Int) ≤ 200)) || decide (210 < (x.roots.length : Int)))
def shortp (cs : List CallV) : Bool := cs.all shortC && decide ((cs.length : Int) ≤ 60)
set_option maxRecDepth 100000 in
theorem short_ct {cs : List CallV} (h : Calls R v cs) (hl : cs.length ≤ maxLen) : Reads Try.prog 13 #[v] [R] (.bool (shortp cs)) := by
  obtain ⟨a, cp, hv, _⟩ := id h
  unfold maxLen at hl
  unfold shortp
  refine ct_of (n := 38) Try.func13 rfl rfl (len rfl) fun hr w0 => ?_
  refine cd_seq (cd_region (st_v (v_assign rfl) (st_nil (nx_then (cd_seq (cd_seq (cd_region (st_v (v_assign rfl) (st_nil (nx_then (cd_block (cd_loop (σ := Nat) (fun i => [(0, v), (3, .int .i64 (i : Nat))]) (fun _ => R :: hr) (fun i => i ≤ cs.length ∧ (cs.take i).all shortC = true) (fun i => cs.length - i) 0 ⟨Nat.zero_le _, rfl⟩ ⟨rfl, rfl, trivial⟩ (Sub.refl _) ?_))))))))))))
  rintro i ⟨hi, hne⟩
  refine cd_seq (cd_seq (cd_region (st_v (v_move rfl) (st_v (v_move rfl) (st_v (v_len (congrArg some hv) Try.underlying23) (st_v (v_lss rfl rfl) (st_nil (nx_kp [0, 3, 7] rfl (nx_then (cd_cond rfl (fun hd => ?_) (fun hd => ?_)))))))))))
  · skip
    have hlt : i < cs.length := by simpa using hd
    obtain ⟨b, o, cp', u, hv', hu, hrds⟩ := h.at hlt
    obtain ⟨ua, ucp, hue, _⟩ := id hu
    subst hue
    have hrd : Rd R ⟨b, o + i * 5 + 4, none⟩ (.slice ua cs[i].roots.length ucp) := hrds 4 (by simp)
    refine cd_skip (xt_then (cd_seq (cd_block (cd_seq (cd_region (st_v (v_move rfl) (st_v (v_move rfl) (st_v (v_indexAddr (congrArg some hv') rfl sl23 rfl hlt rfl) (st_v (v_fieldAddr rfl fa38_4 rfl) (st_v (v_ld rfl ld34) ?_))))))))))
    refine st_v (v_len rfl Try.underlying34) (st_v (v_gtr rfl rfl) (st_v (v_move rfl) (st_cut (k := 16) (d := 25) (v := .bool (decide (20 < (cs[i].roots.length : Int)) && decide ((cs[i].roots.length : Int) ≤ 200))) (fun hcut => bool_want (b := decide (20 < (cs[i].roots.length : Int))) true (fun hg => ?_) (fun hg => ?_)) ?_)))
    · refine st_sk rfl rfl hg ?_
      refine st_sk rfl rfl hg ?_
      refine st_sk rfl rfl hg ?_
      refine st_sk rfl rfl hg ?_
      refine st_sk rfl rfl hg ?_
      refine st_sk rfl rfl hg ?_
      refine st_sk rfl rfl hg ?_
      refine st_v (v_pick_false (bool_ev rfl hg) rfl) ?_
      exact hcut _ (ssub_head (by first | rfl | (rw [hg]; rfl) | simp_all) (ssub_skip rfl (ssub_skip rfl (ssub_skip rfl (ssub_skip rfl (ssub_skip rfl (ssub_skip rfl (ssub_skip rfl (ssub_refl)))))))))
    · skip
      refine st_vg rfl (bool_get rfl hg) (v_move rfl) (st_vg rfl (bool_get rfl hg) (v_move rfl) (st_vg rfl (bool_get rfl hg) (v_indexAddr (congrArg some hv') rfl sl23 rfl hlt rfl) (st_vg rfl (bool_get rfl hg) (v_fieldAddr rfl fa38_4 rfl) (st_vg rfl (bool_get rfl hg) (v_ld rfl ld34) ?_))))
      refine st_vg rfl (bool_get rfl hg) (v_len rfl Try.underlying34) (st_vg rfl (bool_get rfl hg) (v_leq rfl rfl) (st_v (v_pick_true (bool_ev rfl hg) rfl) ?_))
      exact hcut _ (ssub_head (by first | rfl | (rw [hg]; rfl) | simp_all) (ssub_skip rfl (ssub_skip rfl (ssub_skip rfl (ssub_skip rfl (ssub_skip rfl (ssub_skip rfl (ssub_skip rfl (ssub_refl)))))))))
    refine st_v (v_move rfl) (st_cut (k := 25) (d := 34) (v := .bool ((decide (20 < (cs[i].roots.length : Int)) && decide ((cs[i].roots.length : Int) ≤ 200)) || decide (210 < (cs[i].roots.length : Int)))) (fun hcut => bool_want (b := (decide (20 < (cs[i].roots.length : Int)) && decide ((cs[i].roots.length : Int) ≤ 200))) false (fun hg => ?_) (fun hg => ?_)) ?_)
    · refine st_sk rfl rfl hg ?_
      refine st_sk rfl rfl hg ?_
      refine st_sk rfl rfl hg ?_
      refine st_sk rfl rfl hg ?_
      refine st_sk rfl rfl hg ?_
      refine st_sk rfl rfl hg ?_
      refine st_sk rfl rfl hg ?_
      refine st_v (v_pick_true (bool_ev rfl hg) rfl) ?_
      exact hcut _ (ssub_head (by first | rfl | (rw [hg]; rfl) | simp_all) (ssub_skip rfl (ssub_skip rfl (ssub_skip rfl (ssub_skip rfl (ssub_skip rfl (ssub_skip rfl (ssub_skip rfl (ssub_refl)))))))))
    · skip
      refine st_vg rfl (bool_get rfl hg) (v_move rfl) (st_vg rfl (bool_get rfl hg) (v_move rfl) (st_vg rfl (bool_get rfl hg) (v_indexAddr (congrArg some hv') rfl sl23 rfl hlt rfl) (st_vg rfl (bool_get rfl hg) (v_fieldAddr rfl fa38_4 rfl) (st_vg rfl (bool_get rfl hg) (v_ld rfl ld34) ?_))))
      refine st_vg rfl (bool_get rfl hg) (v_len rfl Try.underlying34) (st_vg rfl (bool_get rfl hg) (v_gtr rfl rfl) (st_v (v_pick_false (bool_ev rfl hg) rfl) ?_))
      exact hcut _ (ssub_head (by first | rfl | (rw [hg]; rfl) | simp_all) (ssub_skip rfl (ssub_skip rfl (ssub_skip rfl (ssub_skip rfl (ssub_skip rfl (ssub_skip rfl (ssub_skip rfl (ssub_refl)))))))))
    refine st_nil (nx_kp [0, 3, 34] rfl (nx_then (cd_cond rfl (fun he => ?_) (fun he => ?_))))
    · skip
      have hf : cs.all shortC = false := by
        rw [Bool.eq_false_iff]; intro hall
        have := List.all_eq_true.1 hall _ (List.getElem_mem hlt)
        unfold shortC at this; rw [he] at this; cases this
      rw [hf, Bool.false_and]
      refine cd_seq (cd_region (st_v (v_assign rfl) (st_nil (nx_kp [0, 2, 3] rfl (nx_then (cd_ret (xt_ret_block (xt_ret_then (xt_ret_then (xt_ret_block (xt_ret_then ?_)))))))))))
      exact xt_rt rfl ⟨rfl, rfl⟩
    · skip
      refine cd_skip (xt_normal_block (xt_then (cd_region (st_v (v_move rfl) (st_v (v_add rfl rfl (by unfold I64 at *; omega)) (st_v (v_assign rfl) (st_nil (nx_kp [0, 3] rfl (nx_xt ?_)))))))))
      refine xt_ag (i + 1) ⟨hlt, by rw [List.take_succ_eq_append_getElem hlt, List.all_append, hne, Bool.true_and]; simp only [List.all_cons, List.all_nil, Bool.and_true]; unfold shortC; rw [he]; rfl⟩ (by omega)
  · skip
    have hge : cs.length ≤ i := by simpa using hd
    rw [List.take_of_length_le hge] at hne
    rw [hne, Bool.true_and]
    refine cd_exit (xt_exit_then (xt_exit_then (xt_exit_block (xt_then (cd_seq (cd_region (st_v (v_move rfl) (st_v (v_len (congrArg some hv) Try.underlying23) (st_v (v_leq rfl rfl) (st_v (v_assign rfl) (st_nil (nx_kp [2] rfl (nx_then (cd_ret ?_))))))))))))))
    exact xt_rt rfl ⟨rfl, rfl⟩
set_option maxHeartbeats 2000000 in
set_option maxRecDepth 100000 in
theorem called_ct {L : MemL} {μ : Mem} {k a b c : Int} (I : MI L μ S m) (h : AM.Good m ly ln lf φ A) (hv : RowI R v roots) (hrl : roots.length ≤ 1000000) (ha : I64 a) :
    Ct Try.prog 17 #[.pointer (some ⟨L.mb, 0, none⟩), .agg #[.int .i64 k, .int .i64 a, .int .i64 b, .int .i64 c, v]] (memSH L μ S ++ [R]) fun u h' => ∃ sl L' μ', u = .tuple #[.int .i64 (m.call (kindOf k) a b c roots).1, sl, .int .i64 (m.call (kindOf k) a b c roots).2.2.1] ∧
      MI L' μ' S (m.call (kindOf k) a b c roots).2.2.2 ∧ L'.mb = L.mb ∧ h' = vec sl 3 1 (m.call (kindOf k) a b c roots).2.1.length (ints (m.call (kindOf k) a b c roots).2.1) :: (memSH L' μ' S ++ [R]) := by
  unfold memSH
  simp only [List.cons_append, List.nil_append]
  refine ct_of (n := 79) Try.func17 rfl rfl (len rfl) fun hr w0 => ?_
  refine cd_seq (cd_region (st_bx rfl rfl fun b3 => ?_))
  refine st_v (v_assign rfl) (st_v (v_assign rfl) (st_v (v_assign rfl) (st_nil (nx_kp [0, 3, 4, 5, 6] rfl (nx_then (cd_seq (cd_region (st_v (v_assign rfl) (st_nil (nx_then (cd_seq (cd_region (st_v (v_assign rfl) (st_nil (nx_then (cd_seq (cd_region ?_)))))))))))))))))
  refine st_v (v_assign rfl) (st_nil (nx_then (cd_seq (cd_seq (cd_region (st_v (v_loadW rfl ld38 rfl (by repeat (first | exact Sel.here | apply Sel.there))) ?_))))))
  refine st_cl rfl rfl en49 rfl (kind_ct) ?_
  rintro v' h' ⟨rfl, rfl⟩
  simp only [List.cons_append, List.nil_append]
  refine st_nil (nx_kp [0, 3, 4, 5, 6, 7, 8, 9, 11] rfl (nx_then (cd_block (cd_seq (cd_region (st_v (v_eql rfl rfl) (st_v (v_assign rfl) (st_nil (nx_kp [0, 3, 4, 5, 6, 7, 8, 9, 11, 19] rfl (nx_then (cd_cond rfl (fun c0 => ?_) (fun c0 => ?_))))))))))))
  · skip
    have hk : kindOf k = 0 := by simpa using c0
    rw [show m.call (kindOf k) a b c roots = ((m.alloc a).1, [], (m.alloc a).2.1, (m.alloc a).2.2) by rw [hk]; rfl]
    refine cd_region (st_v (v_move rfl) (st_v (v_fieldAddr rfl fa38_1 rfl) (st_v (v_ld rfl ld3) ?_)))
    refine st_cl rfl rfl en33 rfl (alloc_c I h a) ?_
    rintro v' h' ⟨μ', rfl, I', rfl⟩
    simp only [memSH, List.cons_append, List.nil_append]
    refine st_v (v_move rfl) (st_v (v_extract rfl rfl) (st_v (v_extract rfl rfl) (st_v (v_assign rfl) (st_v (v_assign rfl) (st_nil (nx_kp [4, 5, 6, 7, 8, 9] rfl (nx_xt (xt_normal_block (xt_then (cd_seq (cd_region (st_v (v_move rfl) (st_v (v_move rfl) (st_v (v_move rfl) (st_v (v_assign rfl) ?_)))))))))))))))
    refine st_v (v_assign rfl) (st_v (v_assign rfl) (st_nil (nx_kp [4, 5, 6] rfl (nx_then (cd_ret (xt_vecnil 3 1 (xt_rt rfl ⟨.slice none 0 0, L, μ', rfl, I', rfl, rfl⟩ (by simp only [memSH, List.cons_append, List.nil_append]; exact (by repeat (first | exact Sub.refl _ | exact Sub.nil _ | refine Sub.sel (by repeat (first | exact Sel.here | apply Sel.there)) ?_ | apply Sub.cons))))))))))
  · skip
    refine cd_seq (cd_region (st_v (v_eql rfl rfl) (st_v (v_assign rfl) (st_nil (nx_kp [0, 3, 4, 5, 6, 7, 8, 9, 11, 28] rfl (nx_then (cd_cond rfl (fun c1 => ?_) (fun c1 => ?_))))))))
    · skip
      have hk : kindOf k = 1 := by simpa using c1
      rw [show m.call (kindOf k) a b c roots = ((m.shapeOf a).1, [], (m.shapeOf a).2, m) by rw [hk]; rfl]
      refine cd_region (st_v (v_move rfl) (st_v (v_fieldAddr rfl fa38_1 rfl) (st_v (v_ld rfl ld3) ?_)))
      refine st_cl rfl rfl en42 rfl (shape_c I h a) ?_
      rintro v' h' ⟨rfl, rfl⟩
      simp only [memSH, List.cons_append, List.nil_append]
      refine st_v (v_move rfl) (st_v (v_extract rfl rfl) (st_v (v_extract rfl rfl) (st_v (v_assign rfl) (st_v (v_assign rfl) (st_nil (nx_kp [4, 5, 6, 7, 8, 9] rfl (nx_xt (xt_normal_block (xt_then (cd_seq (cd_region (st_v (v_move rfl) (st_v (v_move rfl) (st_v (v_move rfl) (st_v (v_assign rfl) ?_)))))))))))))))
      refine st_v (v_assign rfl) (st_v (v_assign rfl) (st_nil (nx_kp [4, 5, 6] rfl (nx_then (cd_ret (xt_vecnil 3 1 (xt_rt rfl ⟨.slice none 0 0, L, μ, rfl, I, rfl, rfl⟩ (by simp only [memSH, List.cons_append, List.nil_append]; exact (by repeat (first | exact Sub.refl _ | exact Sub.nil _ | refine Sub.sel (by repeat (first | exact Sel.here | apply Sel.there)) ?_ | apply Sub.cons))))))))))
    · skip
      refine cd_seq (cd_region (st_v (v_eql rfl rfl) (st_v (v_assign rfl) (st_nil (nx_kp [0, 3, 4, 5, 6, 7, 8, 9, 11, 37] rfl (nx_then (cd_cond rfl (fun c2 => ?_) (fun c2 => ?_))))))))
      · skip
        have hk : kindOf k = 2 := by simpa using c2
        rw [show m.call (kindOf k) a b c roots = ((m.get a b).1, [], (m.get a b).2.1, (m.get a b).2.2) by rw [hk]; rfl]
        refine cd_region (st_v (v_move rfl) (st_v (v_fieldAddr rfl fa38_1 rfl) (st_v (v_ld rfl ld3) ?_)))
        refine st_v (v_fieldAddr rfl fa38_2 rfl) (st_v (v_ld rfl ld3) ?_)
        refine st_cl rfl rfl en41 rfl (get_c I h a b) ?_
        rintro v' h' ⟨μ', rfl, I', rfl⟩
        simp only [memSH, List.cons_append, List.nil_append]
        refine st_v (v_move rfl) (st_v (v_extract rfl rfl) (st_v (v_extract rfl rfl) (st_v (v_assign rfl) (st_v (v_assign rfl) (st_nil (nx_kp [4, 5, 6, 7, 8, 9] rfl (nx_xt (xt_normal_block (xt_then (cd_seq (cd_region (st_v (v_move rfl) (st_v (v_move rfl) (st_v (v_move rfl) (st_v (v_assign rfl) ?_)))))))))))))))
        refine st_v (v_assign rfl) (st_v (v_assign rfl) (st_nil (nx_kp [4, 5, 6] rfl (nx_then (cd_ret (xt_vecnil 3 1 (xt_rt rfl ⟨.slice none 0 0, L, μ', rfl, I', rfl, rfl⟩ (by simp only [memSH, List.cons_append, List.nil_append]; exact (by repeat (first | exact Sub.refl _ | exact Sub.nil _ | refine Sub.sel (by repeat (first | exact Sel.here | apply Sel.there)) ?_ | apply Sub.cons))))))))))
      · skip
        refine cd_seq (cd_region (st_v (v_eql rfl rfl) (st_v (v_assign rfl) (st_nil (nx_kp [0, 3, 4, 5, 6, 7, 8, 9, 11, 48] rfl (nx_then (cd_cond rfl (fun c3 => ?_) (fun c3 => ?_))))))))
        · skip
          have hk : kindOf k = 3 := by simpa using c3
          rw [show m.call (kindOf k) a b c roots = (0, [], (m.set a b c).1, (m.set a b c).2) by rw [hk]; rfl]
          refine cd_region (st_v (v_move rfl) (st_v (v_fieldAddr rfl fa38_1 rfl) (st_v (v_ld rfl ld3) ?_)))
          refine st_v (v_fieldAddr rfl fa38_2 rfl) (st_v (v_ld rfl ld3) ?_)
          refine st_v (v_fieldAddr rfl fa38_3 rfl) (st_v (v_ld rfl ld3) ?_)
          refine st_cl rfl rfl en40 rfl (set_c I h a b c) ?_
          rintro v' h' ⟨L', μ', rfl, I', hL, rfl⟩
          simp only [memSH, List.cons_append, List.nil_append]
          refine st_v (v_assign rfl) (st_nil (nx_kp [4, 5, 6, 7, 8, 9] rfl (nx_xt (xt_normal_block (xt_then (cd_seq (cd_region (st_v (v_move rfl) (st_v (v_move rfl) (st_v (v_move rfl) (st_v (v_assign rfl) (st_v (v_assign rfl) (st_v (v_assign rfl) (st_nil (nx_kp [4, 5, 6] rfl (nx_then (cd_ret ?_)))))))))))))))))
          refine xt_vecnil 3 1 (xt_rt rfl ⟨.slice none 0 0, L', μ', rfl, I', hL, rfl⟩ (by simp only [memSH, List.cons_append, List.nil_append]; exact (by repeat (first | exact Sub.refl _ | exact Sub.nil _ | refine Sub.sel (by repeat (first | exact Sel.here | apply Sel.there)) ?_ | apply Sub.cons))))
        · skip
          refine cd_seq (cd_region (st_v (v_eql rfl rfl) (st_v (v_assign rfl) (st_nil (nx_kp [0, 3, 4, 5, 6, 7, 8, 9, 11, 58] rfl (nx_then (cd_cond rfl (fun c4 => ?_) (fun c4 => ?_))))))))
          · skip
            have hk : kindOf k = 4 := by simpa using c4
            rw [show m.call (kindOf k) a b c roots = (0, (m.minor roots).1, (m.minor roots).2.1, (m.minor roots).2.2) by rw [hk]; rfl]
            refine cd_region (st_v (v_move rfl) (st_v (v_fieldAddr rfl fa38_4 rfl) (st_v (v_ld rfl ld34) ?_)))
            refine st_cl rfl rfl en34 rfl (minor_c I h hv hrl) ?_
            rintro v' h' ⟨sl, L', μ', rfl, I', hL, rfl⟩
            simp only [memSH, List.cons_append, List.nil_append]
            refine st_v (v_move rfl) (st_v (v_extract rfl rfl) (st_v (v_extract rfl rfl) (st_v (v_assign rfl) (st_v (v_assign rfl) (st_nil (nx_kp [4, 5, 6, 7, 8, 9] rfl (nx_xt (xt_normal_block (xt_then (cd_seq (cd_region (st_v (v_move rfl) (st_v (v_move rfl) (st_v (v_move rfl) (st_v (v_assign rfl) ?_)))))))))))))))
            refine st_v (v_assign rfl) (st_v (v_assign rfl) (st_nil (nx_kp [4, 5, 6] rfl (nx_then (cd_ret (xt_rt rfl ⟨sl, L', μ', rfl, I', hL, rfl⟩ (by simp only [memSH, List.cons_append, List.nil_append]; exact (by repeat (first | exact Sub.refl _ | exact Sub.nil _ | refine Sub.sel (by repeat (first | exact Sel.here | apply Sel.there)) ?_ | apply Sub.cons)))))))))
          · skip
            refine cd_seq (cd_region (st_v (v_eql rfl rfl) (st_v (v_assign rfl) (st_nil (nx_kp [0, 3, 4, 5, 6, 7, 8, 9, 67] rfl (nx_then (cd_cond rfl (fun c5 => ?_) (fun c5 => ?_))))))))
            · skip
              have hk : kindOf k = 5 := by simpa using c5
              rw [show m.call (kindOf k) a b c roots = (0, (m.flip roots).1, (m.flip roots).2.1, (m.flip roots).2.2) by rw [hk]; rfl]
              refine cd_region (st_v (v_move rfl) (st_v (v_fieldAddr rfl fa38_4 rfl) (st_v (v_ld rfl ld34) ?_)))
              refine st_cl rfl rfl en43 rfl (flip_c I h hv hrl) ?_
              rintro v' h' ⟨sl, L', μ', rfl, I', hL, rfl⟩
              simp only [memSH, List.cons_append, List.nil_append]
              refine st_v (v_move rfl) (st_v (v_extract rfl rfl) (st_v (v_extract rfl rfl) (st_v (v_assign rfl) (st_v (v_assign rfl) (st_nil (nx_kp [4, 5, 6, 7, 8, 9] rfl (nx_xt (xt_normal_block (xt_then (cd_seq (cd_region (st_v (v_move rfl) (st_v (v_move rfl) (st_v (v_move rfl) (st_v (v_assign rfl) ?_)))))))))))))))
              refine st_v (v_assign rfl) (st_v (v_assign rfl) (st_nil (nx_kp [4, 5, 6] rfl (nx_then (cd_ret (xt_rt rfl ⟨sl, L', μ', rfl, I', hL, rfl⟩ (by simp only [memSH, List.cons_append, List.nil_append]; exact (by repeat (first | exact Sub.refl _ | exact Sub.nil _ | refine Sub.sel (by repeat (first | exact Sel.here | apply Sel.there)) ?_ | apply Sub.cons)))))))))
            · skip
              refine cd_region (st_v (v_move rfl) (st_v (v_fieldAddr rfl fa38_1 rfl) (st_v (v_ld rfl ld3) ?_)))
              have hk : m.call (kindOf k) a b c roots = ((m.step a).1, [], (m.step a).2.1, (m.step a).2.2) := by
                simp only [beq_eq_false_iff_ne, ne_eq] at c0 c1 c2 c3 c4 c5
                unfold AM.call
                rw [if_neg c0, if_neg c1, if_neg c2, if_neg c3, if_neg c4, if_neg c5]
              rw [hk]
              refine st_cl rfl rfl en31 rfl (step_c I h a ha) ?_
              rintro v' h' ⟨L', μ', rfl, I', hL, rfl⟩
              simp only [memSH, List.cons_append, List.nil_append]
              refine st_v (v_move rfl) (st_v (v_extract rfl rfl) (st_v (v_extract rfl rfl) (st_v (v_assign rfl) (st_v (v_assign rfl) (st_nil (nx_kp [4, 5, 6, 7, 8, 9] rfl (nx_xt (xt_normal_block (xt_then (cd_seq (cd_region (st_v (v_move rfl) (st_v (v_move rfl) (st_v (v_move rfl) (st_v (v_assign rfl) ?_)))))))))))))))
              refine st_v (v_assign rfl) (st_v (v_assign rfl) (st_nil (nx_kp [4, 5, 6] rfl (nx_then (cd_ret (xt_vecnil 3 1 (xt_rt rfl ⟨.slice none 0 0, L', μ', rfl, I', hL, rfl⟩ (by simp only [memSH, List.cons_append, List.nil_append]; exact (by repeat (first | exact Sub.refl _ | exact Sub.nil _ | refine Sub.sel (by repeat (first | exact Sel.here | apply Sel.there)) ?_ | apply Sub.cons))))))))))
end
section
theorem alloc_sh (m : AM) (s : Int) : (m.alloc s).2.2.sh = m.sh := by unfold AM.alloc; split; rfl; simp only; split <;> rfl
theorem fwdL_sh (y : Bool) : ∀ (l : List Int) (m : AM), (AM.fwdL y l m).2.sh = m.sh
  | [], _ => rfl
  | v :: t, m => (fwdL_sh y t _).trans (fwd_sh' (m := m) y v)
theorem fwdP_sh (y : Bool) : ∀ (l : List Int) (m : AM), (AM.fwdP y l m).sh = m.sh
  | [], _ => rfl
  | p :: t, m => (fwdP_sh y t _).trans (fwd_sh' (m := m) y (m.word p))
theorem look_sh (y : Bool) : ∀ (k : Nat) (a : Int) (m : AM), (AM.look y k a m).sh = m.sh
  | 0, _, _ => rfl
  | k + 1, a, m => by
    show (if _ then _ else _ : AM).sh = _
    split
    · exact (look_sh y k _ _).trans (fwdP_sh y _ _)
    · rfl
theorem minor_sh (m : AM) (roots : List Int) : (m.minor roots).2.2.sh = m.sh := by
  unfold AM.minor
  split
  · rfl
  · exact (look_sh true _ _ _).trans ((fwdP_sh true _ _).trans (fwdL_sh true roots m))
theorem flip_sh (m : AM) (roots : List Int) : (m.flip roots).2.2.sh = m.sh := by
  unfold AM.flip
  split
  · rfl
  · simp only
    split
    · exact minor_sh m roots
    · exact (fwdL_sh false _ _).trans (minor_sh m roots)
theorem call_sh (m : AM) (k a b c : Int) (roots : List Int) : (m.call k a b c roots).2.2.2.sh = m.sh := by
  unfold AM.call
  split; exact alloc_sh m a
  split; rfl
  split; exact get_sh (m := m) a b
  split; exact set_sh (m := m) a b c
  split; exact minor_sh m roots
  split; exact flip_sh m roots
  exact step_sh (m := m) a
theorem minor_len (m : AM) (roots : List Int) : (m.minor roots).1.length ≤ roots.length := by
  unfold AM.minor
  split
  · exact Nat.zero_le _
  · exact Nat.le_of_eq (fwdL_len true roots m)
theorem flip_len (m : AM) (roots : List Int) : (m.flip roots).1.length ≤ roots.length := by
  unfold AM.flip
  split
  · exact Nat.zero_le _
  · simp only
    split
    · exact Nat.zero_le _
    · exact Nat.le_trans (Nat.le_of_eq (fwdL_len false _ _)) (minor_len m roots)
theorem call_len (m : AM) (k a b c : Int) (roots : List Int) : (m.call k a b c roots).2.1.length ≤ roots.length := by
  unfold AM.call
  split; exact Nat.zero_le _
  split; exact Nat.zero_le _
  split; exact Nat.zero_le _
  split; exact Nat.zero_le _
  split; exact minor_len m roots
  split; exact flip_len m roots
  exact Nat.zero_le _
end
end Go.Proofs.Ytmhmpjgkkpbnnaa
namespace Go.Proofs.Ytmhmpjgkkpbnnaa
open Go Go.RowKit Go.ChangeShapes Go.WideShapes Go.Ck
def callTy : Ty := .struct [.int .i64, .int .i64, .int .i64, .int .i64, .slice (.int .i64)]
def callOf (x : callTy.D) : CallV := ⟨x.1, x.2.1, x.2.2.1, x.2.2.2.1, x.2.2.2.2.1⟩
theorem calls_of {r : Res} {v : Value} {y : (Ty.slice callTy).D} (h : Rep r (.slice callTy) [v] y) : Calls r v ((show List callTy.D from y).map callOf) ∧ ((show List callTy.D from y).map callOf).length ≤ maxLen ∧ ∀ x ∈ (show List callTy.D from y).map callOf, I64 x.a := by
  unfold Rep at h
  obtain ⟨a, cap, h1, hl, hm, _, h2⟩ := h
  have one : ∀ (us : List Value) (x : callTy.D), Rep r callTy us x → ∃ u, RowI r u (callOf x).roots ∧ us = [.int .i64 (callOf x).k, .int .i64 (callOf x).a, .int .i64 (callOf x).b, .int .i64 (callOf x).c, u] ∧ I64 (callOf x).a := fun us x hx => by
    obtain ⟨x1, x2, x3, x4, x5, x6⟩ := x
    simp only [callTy, Rep, Reps] at hx
    obtain ⟨u1, us1, e1, l1, r1, u2, us2, e2, l2, r2, u3, us3, e3, l3, r3, u4, us4, e4, l4, r4, u5, us5, e5, l5, r5, r6⟩ := hx
    obtain ⟨rfl, _⟩ := r1
    obtain ⟨rfl, w2⟩ := r2
    obtain ⟨rfl, _⟩ := r3
    obtain ⟨rfl, _⟩ := r4
    obtain ⟨u, hu⟩ : ∃ u, u5 = [u] := by
      match u5, l5 with
      | [u], _ => exact ⟨u, rfl⟩
    subst hu r6 e5 e4 e3 e2
    have hr5 : Rep r (.slice (.int .i64)) [u] x5 := by simp only [Rep]; exact r5
    refine ⟨u, rowI_of hr5, by rw [e1]; rfl, wf_I64' w2⟩
  refine ⟨⟨a, cap, by rw [List.length_map]; exact (List.cons.inj h1).1, h2.imp (fun e => by rw [show (show List callTy.D from y) = [] from e]; rfl) ?_⟩, by rw [List.length_map]; exact Nat.le_trans hl hm, fun x hx => ?_⟩
  · rintro ⟨b, o, h3, h4⟩
    refine ⟨b, o, h3, fun i hi => ?_⟩
    have hi' : i < (show List callTy.D from y).length := by rw [List.length_map] at hi; exact hi
    obtain ⟨us, h5, h6, h7⟩ := h4 i _ (List.getElem?_eq_getElem hi')
    obtain ⟨u, h8, h9, _⟩ := one us _ h7
    rw [List.getElem_map]
    exact ⟨u, h8, by rw [← h9]; exact h6⟩
  · obtain ⟨z, hz, rfl⟩ := List.mem_map.1 hx
    rcases h2 with h0 | ⟨b, o, h3, h4⟩
    · rw [show (show List callTy.D from y) = [] from h0] at hz; cases hz
    · obtain ⟨i, hi, rfl⟩ := List.getElem_of_mem hz
      obtain ⟨us, h5, h6, h7⟩ := h4 i _ (List.getElem?_eq_getElem hi)
      obtain ⟨u, _, _, h10⟩ := one us _ h7
      exact h10
end Go.Proofs.Ytmhmpjgkkpbnnaa
