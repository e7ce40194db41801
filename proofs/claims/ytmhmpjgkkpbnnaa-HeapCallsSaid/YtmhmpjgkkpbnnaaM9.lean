/-
  The chapter's example is as it must be: sanity. No condition.
  HeapNil: a nil memory has the errors, and the zero values, that it must have. No condition: for every call.
  The reference's memory where it lies; its small functions: where halves begin, what is young, old or current, the shape of an object. Conditions: what the heap holds, sizes that are small, addresses within the memory.
  The reference's memory: shape, size, field, rooted, Alloc, Shape, RoomOf. Conditions: what the heap holds, that the machine is in order.
  The reference's memory: move, forward, Get. Conditions: what the heap holds, that the machine is in order.
  The reference's memory: Get, Set. Conditions: what the heap holds, that the machine is in order.
  Arrays of numbers loaded and held against each other; the reference's Set. Conditions: what the heap holds, that the machine is in order.
  The reference's memory: remember, Set. Conditions: what the heap holds, that the machine is in order.
  The reference's memory: add, clear. Conditions: what the heap holds, that sizes are small.
-/
import Derived.Test.YtmhmpjgkkpbnnaaM8
import Derived.Test.YtmhmpjgkkpbnnaaM6
import Derived.Test.YtmhmpjgkkpbnnaaM2
import Derived.ChangeKeysEq
namespace Go.Ck
open Go
section
variable {c : Cx} {ops : Array Oper} {K : Act → World → Prop} {rest : List Oper} {e : Env} {h : SH}
/-- An operation with an effect, at a guard that says yes. -/
theorem st_guard {d : Option Nat} {op : Op} {ty : TypeId} {pos : String} {after : Array Edge} {g gd : Nat} {want : Bool} (hd : ∀ k, op ≠ .defer k) (hg : ((ops[g]?).bind (·.dst)) = some gd) (hgv : e.get? gd = some (.bool want))
    (hs : St c ops K (⟨d, op, ty, pos, after, none⟩ :: rest) e h) : St c ops K (⟨d, op, ty, pos, after, some (g, want)⟩ :: rest) e h := fun a w hk hh hw => by
  have h1 := hs a w hk hh hw
  unfold LsW at h1 ⊢
  rw [if_pos (by simp [Region.wanted])] at h1
  rw [if_pos (by simp [Region.wanted, yields_guard hg hgv hk])]
  unfold OpW OpV at h1 ⊢
  rw [Oper.semAt_eq _ _ _ hd] at h1 ⊢
  exact h1
end
end Go.Ck
namespace Go.Proofs.Ytmhmpjgkkpbnnaa
open Go.Ck Fx Go.Hm Go.Hm.AM
attribute [local irreducible] St Cd Xt Nx DrL LsW
theorem eqi54 : EqI Try.prog 54 3 := EqI.of Try.underlying54 (by kernel_rfl) (by kernel_rfl) (by kernel_rfl) rfl
theorem rowI_pt {b : Nat} {l : List Int} : RowI (pt b (cl (ints l) 3)) (.slice (some ⟨b, 0, none⟩) l.length l.length) l := ⟨_, _, rfl, .inr ⟨b, 0, rfl, fun j hj => rd_cl (by simp [ints, hj])⟩⟩
set_option maxRecDepth 100000 in
theorem sameInts2_ct {R1 R2 : Res} {v1 v2 : Value} {l1 l2 : List Int} (h1 : RowI R1 v1 l1) (h2 : RowI R2 v2 l2) (hl : l1.length ≤ 1000000) : Reads Try.prog 21 #[v1, v2] [R1, R2] (.bool (l1 == l2)) :=
  Reads.unstar (sameInts_ct (RowI.star .here h1) (RowI.star (.there .here) h2) hl)
theorem rowI_vec {v : Value} {n : Nat} {l : List Int} {a : Option Addr} {cp : Nat} (hv : v = .slice a n cp) (ha : 0 < n → ∃ b, a = some ⟨b, 0, none⟩) (hn : l.length = n) : RowI (vec v 3 1 n (ints l)) v l := by
  subst hn
  refine ⟨a, cp, hv, ?_⟩
  by_cases h0 : l.length = 0
  · exact .inl (List.eq_nil_of_length_eq_zero h0)
  · obtain ⟨b, rfl⟩ := ha (by omega)
    exact .inr ⟨b, 0, rfl, fun j hj => by rw [Nat.zero_add]; exact rd_vec hv (by simp [ints, hj])⟩
set_option maxHeartbeats 8000000 in
set_option maxRecDepth 100000 in
theorem sanity_c : Ct Try.prog 14 #[] [] fun v h' => v = .bool true ∧ h' = [] := by
  refine ct_of (n := 209) Try.func14 rfl rfl (len rfl) fun hr w0 => ?_
  simp only [List.nil_append]
  refine cd_seq (cd_region (st_v (v_assign rfl) (st_nil (nx_then (cd_seq (cd_region (st_cl rfl rfl en39 rfl (shapes_ct) ?_)))))))
  rintro v' h' ⟨R, hR, rfl⟩
  simp only [List.cons_append, List.nil_append]
  refine st_cl rfl rfl en15 rfl (new_c hR (by decide)) ?_
  rintro v' h' hu
  rcases hu with ⟨h1, _⟩ | ⟨_, L, μ0, S, rfl, I0, rfl⟩
  · exact absurd (by decide) h1
  have I0 : MI L μ0 S sm0 := I0
  simp only [memSH, List.cons_append, List.nil_append]
  refine st_v (v_move rfl) (st_v (v_extract rfl rfl) (st_v (v_extract rfl rfl) (st_v (v_assign rfl) (st_v (v_assign rfl) (st_nil (nx_kp [0, 1, 2] rfl (nx_then (cd_seq (cd_seq (cd_region (st_v (v_move rfl) (st_v (v_neq rfl rfl) (st_v (v_move rfl) (st_vg rfl rfl (v_move rfl) (st_vg rfl rfl (v_eql_ptr_nil rfl rfl pt27) ?_)))))))))))))))
  refine st_v (v_pick_false rfl rfl) (st_nil (nx_kp [0, 1, 38] rfl (nx_then (cd_false rfl ?_))))
  refine cd_skip (xt_then (cd_seq (cd_region (st_v (v_move rfl) ?_))))
  obtain ⟨_, _, _, _, _, g0⟩ := sf0
  obtain ⟨_, _, _, _, _, g1⟩ := sf0.alloc 0
  obtain ⟨_, _, _, _, _, g2⟩ := (sf0.alloc 0).alloc 0
  obtain ⟨_, _, _, _, _, g3⟩ := sf3
  refine st_cl rfl rfl en33 rfl (alloc_c I0 g0 0) ?_
  rintro v' h' ⟨μ1, rfl, I1, rfl⟩
  have I1 : MI L μ1 S sm1 := I1
  rw [se1.1, se1.2]
  simp only [memSH, List.cons_append, List.nil_append]
  refine st_v (v_move rfl) (st_v (v_extract rfl rfl) (st_v (v_extract rfl rfl) (st_v (v_assign rfl) (st_v (v_assign rfl) (st_nil (nx_kp [0, 1, 3, 4] rfl (nx_then (cd_seq (cd_region (st_v (v_move rfl) (st_cl rfl rfl en33 rfl (alloc_c I1 g1 0) ?_)))))))))))
  rintro v' h' ⟨μ2, rfl, I2, rfl⟩
  have I2 : MI L μ2 S sm2 := I2
  rw [se2.1, se2.2]
  simp only [memSH, List.cons_append, List.nil_append]
  refine st_v (v_move rfl) (st_v (v_extract rfl rfl) (st_v (v_extract rfl rfl) (st_v (v_assign rfl) (st_v (v_assign rfl) (st_nil (nx_kp [0, 1, 3, 4, 5, 6] rfl (nx_then (cd_seq (cd_region (st_v (v_move rfl) (st_cl rfl rfl en33 rfl (alloc_c I2 g2 0) ?_)))))))))))
  rintro v' h' ⟨μ3, rfl, I3, rfl⟩
  have I3 : MI L μ3 S sm3 := I3
  rw [se3.1, se3.2]
  simp only [memSH, List.cons_append, List.nil_append]
  refine st_v (v_move rfl) (st_v (v_extract rfl rfl) (st_v (v_extract rfl rfl) (st_v (v_assign rfl) (st_v (v_assign rfl) (st_nil (nx_kp [0, 1, 3, 4, 5, 6, 7, 8] rfl (nx_then (cd_seq (cd_region (st_v (v_move rfl) (st_cl rfl rfl en33 rfl (alloc_c I3 g3 0) ?_)))))))))))
  rintro v' h' ⟨μ4, rfl, I4, rfl⟩
  have I4 : MI L μ4 S sm3 := by have e : (sm3.alloc 0).2.2 = sm3 := (alloc_err (by rw [se4.2]; decide)).1
                                rw [← e]; exact I4
  rw [se4.1, se4.2]
  simp only [memSH, List.cons_append, List.nil_append]
  refine st_v (v_move rfl) (st_v (v_extract rfl rfl) (st_v (v_extract rfl rfl) (st_v (v_assign rfl) (st_v (v_assign rfl) (st_nil (nx_kp [0, 1, 3, 4, 5, 6, 7, 8, 10] rfl (nx_then (cd_seq (cd_region (st_v (v_move rfl) (st_cl rfl rfl en40 rfl (set_c I4 g3 1 1 4) ?_)))))))))))
  rintro v' h' ⟨L5, μ5, rfl, I5, hL5, rfl⟩
  have I5 : MI L5 μ5 S sm5 := I5
  rw [se5, ← hL5]
  simp only [memSH, List.cons_append, List.nil_append]
  obtain ⟨_, _, _, _, _, g5⟩ := sf5
  refine st_v (v_assign rfl) (st_nil (nx_kp [0, 1, 3, 4, 5, 6, 7, 8, 10, 11] rfl (nx_then (cd_seq (cd_region (st_v (v_move rfl) (st_buildSlice (cells := [.int .i64 4, .int .i64 1]) rfl Try.underlying34 inf3 rfl rfl (by kernel_rfl) (ltn rfl) fun b63 => ?_)))))))
  refine st_cl rfl rfl en34 rfl (minor_c I5 g5 (rowI_pt (b := b63) (l := [4, 1])) (by decide)) ?_
  rintro v' h' ⟨sl6, L6, μ6, rfl, I6, hL6, rfl⟩
  have I6 : MI L6 μ6 S sm6 := I6
  rw [se6.1, se6.2.1, ← hL6]
  simp only [memSH, List.cons_append, List.nil_append]
  refine st_v (v_move rfl) (st_v (v_extract rfl rfl) (st_v (v_extract rfl rfl) (st_v (v_assign rfl) (st_v (v_assign rfl) (st_nil (nx_kp [0, 1, 3, 4, 5, 6, 7, 8, 10, 11, 12, 13] rfl (nx_then (cd_seq (cd_seq (cd_vecshape (v := sl6) (E := 3) (sz := 1) (n := 2) (l := ints [11, 14]) (by repeat (first | exact Sel.here | apply Sel.there)) fun sa6 sc6 hs6 ha6 => ?_))))))))))
  refine cd_region (st_v (v_move rfl) (st_v (v_neq rfl rfl) (st_v (v_move rfl) (st_vg rfl rfl (v_move rfl) (st_vg rfl rfl (v_neq rfl rfl) (st_v (v_pick_false rfl rfl) (st_v (v_move rfl) (st_vg rfl rfl (v_move rfl) (st_vg rfl rfl (v_neq rfl rfl) (st_v (v_pick_false rfl rfl) (st_v (v_move rfl) (st_vg rfl rfl (v_move rfl) (st_vg rfl rfl (v_neq rfl rfl) ?_)))))))))))))
  refine st_v (v_pick_false rfl rfl) (st_v (v_move rfl) (st_vg rfl rfl (v_move rfl) (st_vg rfl rfl (v_neq rfl rfl) (st_v (v_pick_false rfl rfl) (st_v (v_move rfl) (st_vg rfl rfl (v_move rfl) (st_vg rfl rfl (v_neq rfl rfl) (st_v (v_pick_false rfl rfl) (st_v (v_move rfl) (st_vg rfl rfl (v_move rfl) (st_vg rfl rfl (v_neq rfl rfl) (st_v (v_pick_false rfl rfl) (st_v (v_move rfl) ?_)))))))))))))
  refine st_vg rfl rfl (v_move rfl) (st_vg rfl rfl (v_neq rfl rfl) (st_v (v_pick_false rfl rfl) (st_v (v_move rfl) (st_vg rfl rfl (v_move rfl) (st_vg rfl rfl (v_neq rfl rfl) (st_v (v_pick_false rfl rfl) (st_v (v_move rfl) (st_vg rfl rfl (v_move rfl) (st_guard (by simp) rfl rfl (st_buildSlice (cells := [.int .i64 11, .int .i64 14]) rfl Try.underlying34 inf3 rfl rfl (by kernel_rfl) (ltn rfl) fun b103 => ?_))))))))))
  refine st_clrg rfl rfl rfl rfl en21 rfl (sameInts2_ct (l1 := [11, 14]) (l2 := [11, 14]) (rowI_vec hs6 ha6 rfl) (rowI_pt (b := b103) (l := [11, 14])) (by decide)) ?_
  rw [show (([11, 14] : List Int) == [11, 14]) = true by decide]
  refine st_vg rfl rfl (v_not rfl) (st_v (v_pick_false rfl rfl) (st_nil (nx_kp [0, 1, 12, 106] rfl (nx_then (cd_false rfl ?_)))))
  refine cd_skip (xt_then (cd_seq (cd_region (st_v (v_move rfl) ?_))))
  obtain ⟨_, _, _, _, _, g6⟩ := sf6
  refine st_clr rfl rfl en24 rfl (room_c I6) ?_
  rw [se6r]
  refine st_v (v_build (cells := ints [0, 6, 0]) rfl (fun _ => by kernel_rfl)) ?_
  refine st_v (v_eql_ints (xs := [0, 6, 0]) (ys := [0, 6, 0]) eqi54 rfl rfl rfl rfl) ?_
  rw [show (([0, 6, 0] : List Int) == [0, 6, 0]) = true by decide]
  refine st_v (v_assign rfl) (st_nil (nx_kp [0, 1, 12, 14] rfl (nx_then (cd_seq (cd_region (st_v (v_move rfl) (st_cl rfl rfl en41 rfl (get_c I6 g6 14 1) ?_)))))))
  rintro v' h' ⟨μ7, rfl, I7, rfl⟩
  have I7 : MI L6 μ7 S sm7 := I7
  rw [se7.1, se7.2]
  simp only [memSH, List.cons_append, List.nil_append]
  obtain ⟨_, _, _, _, _, g7⟩ := sf7
  refine st_v (v_move rfl) (st_v (v_extract rfl rfl) (st_v (v_extract rfl rfl) (st_v (v_assign rfl) (st_v (v_assign rfl) (st_nil (nx_kp [0, 1, 12, 14, 15, 16] rfl (nx_then (cd_seq (cd_region (st_v (v_move rfl) (st_clr rfl rfl en42 rfl (shape_c I7 g7 4) ?_)))))))))))
  rw [se7s]
  refine st_v (v_move rfl) (st_v (v_extract rfl rfl) (st_v (v_extract rfl rfl) (st_v (v_assign rfl) (st_v (v_assign rfl) (st_nil (nx_kp [0, 1, 12, 14, 15, 16, 18] rfl (nx_then (cd_seq (cd_region (st_v (v_move rfl) (st_buildSlice (cells := [.int .i64 14]) rfl Try.underlying34 inf3 rfl rfl (by kernel_rfl) (ltn rfl) fun b123 => ?_)))))))))))
  refine st_cl rfl rfl en43 rfl (flip_c I7 g7 (rowI_pt (b := b123) (l := [14])) (by decide)) ?_
  rintro v' h' ⟨sl8, L8, μ8, rfl, I8, hL8, rfl⟩
  have I8 : MI L8 μ8 S sm8 := I8
  rw [se8.1, se8.2.1, ← hL8]
  simp only [memSH, List.cons_append, List.nil_append]
  obtain ⟨_, _, _, _, _, g8⟩ := sf8
  refine st_v (v_move rfl) (st_v (v_extract rfl rfl) (st_v (v_extract rfl rfl) (st_v (v_assign rfl) (st_v (v_assign rfl) (st_nil (nx_kp [0, 1, 12, 14, 15, 16, 18, 19] rfl (nx_then (cd_seq (cd_region (st_v (v_move rfl) (st_clr rfl rfl en24 rfl (room_c I8) ?_)))))))))))
  rw [se8r]
  refine st_v (v_build (cells := ints [0, 3, 3]) rfl (fun _ => by kernel_rfl)) ?_
  refine st_v (v_eql_ints (xs := [0, 3, 3]) (ys := [0, 3, 3]) eqi54 rfl rfl rfl rfl) ?_
  rw [show (([0, 3, 3] : List Int) == [0, 3, 3]) = true by decide]
  refine st_v (v_assign rfl) (st_nil (nx_kp [0, 1, 12, 14, 15, 16, 18, 19, 20] rfl (nx_then (cd_seq (cd_region (st_v (v_move rfl) (st_cl rfl rfl en41 rfl (get_c I8 g8 51 1) ?_)))))))
  rintro v' h' ⟨μ9, rfl, I9, rfl⟩
  have I9 : MI L8 μ9 S sm9 := I9
  rw [se9.1, se9.2]
  simp only [memSH, List.cons_append, List.nil_append]
  obtain ⟨_, _, _, _, _, g9⟩ := sf9
  refine st_v (v_move rfl) (st_v (v_extract rfl rfl) (st_v (v_extract rfl rfl) (st_v (v_assign rfl) (st_v (v_assign rfl) (st_nil (nx_kp [0, 1, 12, 14, 15, 16, 18, 19, 20, 21, 22] rfl (nx_then (cd_seq (cd_region (st_v (v_move rfl) (st_clr rfl rfl en24 rfl (room_c I9) ?_)))))))))))
  rw [se9r.1]
  refine st_v (v_build (cells := ints [0, 6, 0]) rfl (fun _ => by kernel_rfl)) ?_
  refine st_v (v_eql_ints (xs := [0, 6, 0]) (ys := [0, 6, 0]) eqi54 rfl rfl rfl rfl) ?_
  rw [show (([0, 6, 0] : List Int) == [0, 6, 0]) = true by decide]
  refine st_v (v_assign rfl) (st_nil (nx_kp [0, 1, 12, 14, 15, 16, 18, 19, 20, 21, 22, 23] rfl (nx_then (cd_seq (cd_region (st_v (v_move rfl) (st_cl rfl rfl en31 rfl (step_c I9 g9 3 (by unfold I64; omega)) ?_)))))))
  rintro v' h' ⟨L10, μ10, rfl, I10, hL10, rfl⟩
  have I10 : MI L10 μ10 S sm10 := I10
  rw [se10.1, se10.2.1, ← hL10]
  simp only [memSH, List.cons_append, List.nil_append]
  obtain ⟨_, _, _, _, _, g10⟩ := sf10
  refine st_v (v_move rfl) (st_v (v_extract rfl rfl) (st_v (v_extract rfl rfl) (st_v (v_assign rfl) (st_v (v_assign rfl) (st_nil (nx_kp [0, 1, 12, 14, 15, 16, 18, 19, 20, 21, 22, 23, 24, 25] rfl (nx_then (cd_seq (cd_region (st_v (v_move rfl) (st_cl rfl rfl en31 rfl (step_c I10 g10 3 (by unfold I64; omega)) ?_)))))))))))
  rintro v' h' ⟨L11, μ11, rfl, I11, hL11, rfl⟩
  have I11 : MI L11 μ11 S sm11 := I11
  rw [se11.1, se11.2.1, ← hL11]
  simp only [memSH, List.cons_append, List.nil_append]
  obtain ⟨_, _, _, _, _, g11⟩ := sf11
  refine st_v (v_move rfl) (st_v (v_extract rfl rfl) (st_v (v_extract rfl rfl) (st_v (v_assign rfl) (st_v (v_assign rfl) (st_nil (nx_kp [0, 1, 12, 14, 15, 16, 18, 19, 20, 21, 22, 23, 24, 25, 26, 27] rfl (nx_then (cd_seq (cd_seq (cd_region (st_v (v_move rfl) (st_v (v_neq rfl rfl) (st_v (v_move rfl) (st_vg rfl rfl (v_move rfl) (st_vg rfl rfl (v_neq rfl rfl) ?_)))))))))))))))
  refine st_v (v_pick_false rfl rfl) (st_v (v_move rfl) (st_vg rfl rfl (v_move rfl) (st_vg rfl rfl (v_neq rfl rfl) (st_v (v_pick_false rfl rfl) (st_v (v_move rfl) (st_vg rfl rfl (v_move rfl) (st_vg rfl rfl (v_neq rfl rfl) (st_v (v_pick_false rfl rfl) (st_v (v_move rfl) (st_vg rfl rfl (v_move rfl) (st_vg rfl rfl (v_neq rfl rfl) (st_v (v_pick_false rfl rfl) (st_v (v_move rfl) ?_)))))))))))))
  refine st_vg rfl rfl (v_move rfl) (st_vg rfl rfl (v_neq rfl rfl) (st_v (v_pick_false rfl rfl) (st_v (v_move rfl) (st_vg rfl rfl (v_move rfl) (st_vg rfl rfl (v_neq rfl rfl) (st_v (v_pick_false rfl rfl) (st_v (v_move rfl) (st_vg rfl rfl (v_move rfl) (st_vg rfl rfl (v_neq rfl rfl) (st_v (v_pick_false rfl rfl) (st_v (v_move rfl) (st_vg rfl rfl (v_move rfl) (st_vg rfl rfl (v_neq rfl rfl) ?_)))))))))))))
  refine st_v (v_pick_false rfl rfl) (st_v (v_move rfl) (st_vg rfl rfl (v_move rfl) (st_vg rfl rfl (v_neq rfl rfl) (st_v (v_pick_false rfl rfl) (st_v (v_move rfl) (st_vg rfl rfl (v_move rfl) (st_clrg rfl rfl rfl rfl en23 rfl (busy_c I11) ?_)))))))
  rw [se11.2.2]
  refine st_v (v_pick_false rfl rfl) (st_nil (nx_kp [0, 1, 12, 14, 20, 23, 191] rfl (nx_then (cd_false rfl ?_))))
  refine cd_skip (xt_then (cd_seq (cd_vecshape (v := sl8) (E := 3) (sz := 1) (n := 1) (l := ints [51]) (by repeat (first | exact Sel.here | apply Sel.there)) fun sa8 sc8 hs8 ha8 => ?_)))
  refine cd_region (st_v (v_move rfl) (st_v (v_move rfl) (st_vg rfl rfl (v_move rfl) (st_v (v_pick_true rfl rfl) (st_v (v_move rfl) (st_vg rfl rfl (v_move rfl) (st_v (v_pick_true rfl rfl) (st_v (v_move rfl) (st_vg rfl rfl (v_move rfl) (st_guard (by simp) rfl rfl (st_buildSlice (cells := [.int .i64 51]) rfl Try.underlying34 inf3 rfl rfl (by kernel_rfl) (ltn rfl) fun b201 => ?_)))))))))))
  refine st_clrg rfl rfl rfl rfl en21 rfl (sameInts2_ct (l1 := [51]) (l2 := [51]) (rowI_vec hs8 ha8 rfl) (rowI_pt (b := b201) (l := [51])) (by decide)) ?_
  rw [show (([51] : List Int) == [51]) = true by decide]
  refine st_v (v_pick_true rfl rfl) (st_v (v_move rfl) (st_vg rfl rfl (v_move rfl) (st_clrg rfl rfl rfl rfl en26 rfl (check_c I11 g11) ?_)))
  refine st_vg rfl rfl (v_eql rfl rfl) (st_v (v_pick_true rfl rfl) (st_v (v_assign rfl) (st_nil (nx_kp [0] rfl (nx_then (cd_ret ?_))))))
  exact xt_rt rfl ⟨rfl, rfl⟩
end Go.Proofs.Ytmhmpjgkkpbnnaa
namespace Go.Ck
open Go
section
variable {P : Program} {e : Env} {h h' : SH} {ty : TypeId}
theorem v_rem {t t' : TypeId} {x y : Operand} {k : IntKind} {a b : Int} (hx : e.ev? x = some (.int k a)) (hy : e.ev? y = some (.int k b)) (hb : b ≠ 0) (hw : k.wrap (a.tmod b) = a.tmod b) : Vop P e h (.binOp .rem t x y t') ty (.int k (a.tmod b)) :=
  ⟨by simp, by simp, fun ρ w d pos after g hρ _ => by simp [execOp, hρ x _ hx, hρ y _ hy, eqGuard_rem, binOp_rem, Op.intDiv, hb, hw]⟩
end
end Go.Ck
namespace Go.Proofs.Ytmhmpjgkkpbnnaa
open Go.Ck Fx Go.Hm Go.Hm.AM
attribute [local irreducible] St Cd Xt Nx DrL LsW
def kindOf (n : Int) : Int := ((n.tmod 7) + 7).tmod 7
theorem tmod7 (n : Int) : -7 < n.tmod 7 ∧ n.tmod 7 < 7 := by
  have := Int.tmod_lt_of_pos n (b := 7) (by decide)
  have := Int.lt_tmod_of_pos n (b := 7) (by decide)
  omega
theorem kindOf_bd (n : Int) : 0 ≤ kindOf n ∧ kindOf n < 7 := by
  have h1 := tmod7 n
  unfold kindOf
  have h2 := Int.tmod_lt_of_pos (n.tmod 7 + 7) (b := 7) (by decide)
  have h3 := Int.tmod_nonneg (a := n.tmod 7 + 7) 7 (by omega)
  omega
set_option maxRecDepth 100000 in
theorem kind_ct {a b c d : Int} {v : Value} : Ct Try.prog 49 #[.agg #[.int .i64 a, .int .i64 b, .int .i64 c, .int .i64 d, v]] [] fun u h' => u = .int .i64 (kindOf a) ∧ h' = [] := by
  have h1 := tmod7 a
  have h2 := kindOf_bd a
  refine ct_of (n := 8) Try.func49 rfl rfl (len rfl) fun hr w0 => ?_
  simp only [List.nil_append]
  refine cd_seq (cd_region (st_bx rfl rfl fun b1 => ?_))
  refine st_v (v_assign rfl) (st_nil (nx_kp [1, 2] rfl (nx_then (cd_seq (cd_region (st_v (v_fieldAddr rfl fa38_0 rfl) (st_v (v_ld rfl ld3) ?_)))))))
  refine st_v (v_rem rfl rfl (by decide) (I64.wrap (by unfold I64; omega))) ?_
  refine st_v (v_add rfl rfl (by unfold I64 at *; omega)) (st_v (v_rem rfl rfl (by decide) (I64.wrap (by unfold I64; exact ⟨by unfold kindOf at h2; omega, by unfold kindOf at h2; omega⟩))) ?_)
  refine st_v (v_assign rfl) (st_nil (nx_kp [2] rfl (nx_then (cd_ret ?_))))
  exact xt_rt rfl ⟨rfl, rfl⟩
set_option maxRecDepth 100000 in
theorem called_nil_ct {a b c d : Int} {v : Value} (hd : I64 b) : Ct Try.prog 17 #[.pointer none, .agg #[.int .i64 a, .int .i64 b, .int .i64 c, .int .i64 d, v]] [] fun u h' => u = .tuple #[.int .i64 0, .slice none 0 0, .int .i64 12] ∧ h' = [] := by
  refine ct_of (n := 79) Try.func17 rfl rfl (len rfl) fun hr w0 => ?_
  simp only [List.nil_append]
  refine cd_seq (cd_region (st_bx rfl rfl fun b3 => ?_))
  refine st_v (v_assign rfl) (st_v (v_assign rfl) (st_v (v_assign rfl) (st_nil (nx_kp [0, 3, 4, 5, 6] rfl (nx_then (cd_seq (cd_region (st_v (v_assign rfl) (st_nil (nx_then (cd_seq (cd_region (st_v (v_assign rfl) (st_nil (nx_then (cd_seq (cd_region ?_)))))))))))))))))
  refine st_v (v_assign rfl) (st_nil (nx_then (cd_seq (cd_seq (cd_region (st_v (v_loadW rfl ld38 rfl (by repeat (first | exact Sel.here | apply Sel.there))) ?_))))))
  refine st_cl rfl rfl en49 rfl (kind_ct) ?_
  rintro v' h' ⟨rfl, rfl⟩
  simp only [List.nil_append]
  refine st_nil (nx_kp [0, 3, 4, 5, 6, 7, 8, 9, 11] rfl (nx_then (cd_block (cd_seq (cd_region (st_v (v_eql rfl rfl) (st_v (v_assign rfl) (st_nil (nx_kp [0, 3, 4, 5, 6, 7, 8, 9, 11, 19] rfl (nx_then (cd_cond rfl (fun c0 => ?_) (fun c0 => ?_))))))))))))
  · skip
    refine cd_region (st_v (v_move rfl) (st_v (v_fieldAddr rfl fa38_1 rfl) (st_v (v_ld rfl ld3) ?_)))
    refine st_cl rfl rfl en33 rfl (nil_alloc_ct) ?_
    rintro v' h' ⟨rfl, rfl⟩
    simp only [List.nil_append]
    refine st_v (v_move rfl) (st_v (v_extract rfl rfl) (st_v (v_extract rfl rfl) (st_v (v_assign rfl) (st_v (v_assign rfl) (st_nil (nx_kp [4, 5, 6, 7, 8, 9] rfl (nx_xt (xt_normal_block (xt_then (cd_seq (cd_region (st_v (v_move rfl) (st_v (v_move rfl) (st_v (v_move rfl) (st_v (v_assign rfl) ?_)))))))))))))))
    refine st_v (v_assign rfl) (st_v (v_assign rfl) (st_nil (nx_kp [4, 5, 6] rfl (nx_then (cd_ret ?_)))))
    exact xt_rt rfl ⟨rfl, rfl⟩
  · skip
    refine cd_seq (cd_region (st_v (v_eql rfl rfl) (st_v (v_assign rfl) (st_nil (nx_kp [0, 3, 4, 5, 6, 7, 8, 9, 11, 28] rfl (nx_then (cd_cond rfl (fun c1 => ?_) (fun c1 => ?_))))))))
    · skip
      refine cd_region (st_v (v_move rfl) (st_v (v_fieldAddr rfl fa38_1 rfl) (st_v (v_ld rfl ld3) ?_)))
      refine st_clr rfl rfl en42 rfl (nil_shape_ct) ?_
      refine st_v (v_move rfl) (st_v (v_extract rfl rfl) (st_v (v_extract rfl rfl) (st_v (v_assign rfl) (st_v (v_assign rfl) (st_nil (nx_kp [4, 5, 6, 7, 8, 9] rfl (nx_xt (xt_normal_block (xt_then (cd_seq (cd_region (st_v (v_move rfl) (st_v (v_move rfl) (st_v (v_move rfl) (st_v (v_assign rfl) ?_)))))))))))))))
      refine st_v (v_assign rfl) (st_v (v_assign rfl) (st_nil (nx_kp [4, 5, 6] rfl (nx_then (cd_ret ?_)))))
      exact xt_rt rfl ⟨rfl, rfl⟩
    · skip
      refine cd_seq (cd_region (st_v (v_eql rfl rfl) (st_v (v_assign rfl) (st_nil (nx_kp [0, 3, 4, 5, 6, 7, 8, 9, 11, 37] rfl (nx_then (cd_cond rfl (fun c2 => ?_) (fun c2 => ?_))))))))
      · skip
        refine cd_region (st_v (v_move rfl) (st_v (v_fieldAddr rfl fa38_1 rfl) (st_v (v_ld rfl ld3) ?_)))
        refine st_v (v_fieldAddr rfl fa38_2 rfl) (st_v (v_ld rfl ld3) ?_)
        refine st_cl rfl rfl en41 rfl (nil_get_ct) ?_
        rintro v' h' ⟨rfl, rfl⟩
        simp only [List.nil_append]
        refine st_v (v_move rfl) (st_v (v_extract rfl rfl) (st_v (v_extract rfl rfl) (st_v (v_assign rfl) (st_v (v_assign rfl) (st_nil (nx_kp [4, 5, 6, 7, 8, 9] rfl (nx_xt (xt_normal_block (xt_then (cd_seq (cd_region (st_v (v_move rfl) (st_v (v_move rfl) (st_v (v_move rfl) (st_v (v_assign rfl) ?_)))))))))))))))
        refine st_v (v_assign rfl) (st_v (v_assign rfl) (st_nil (nx_kp [4, 5, 6] rfl (nx_then (cd_ret ?_)))))
        exact xt_rt rfl ⟨rfl, rfl⟩
      · skip
        refine cd_seq (cd_region (st_v (v_eql rfl rfl) (st_v (v_assign rfl) (st_nil (nx_kp [0, 3, 4, 5, 6, 7, 8, 9, 11, 48] rfl (nx_then (cd_cond rfl (fun c3 => ?_) (fun c3 => ?_))))))))
        · skip
          refine cd_region (st_v (v_move rfl) (st_v (v_fieldAddr rfl fa38_1 rfl) (st_v (v_ld rfl ld3) ?_)))
          refine st_v (v_fieldAddr rfl fa38_2 rfl) (st_v (v_ld rfl ld3) ?_)
          refine st_v (v_fieldAddr rfl fa38_3 rfl) (st_v (v_ld rfl ld3) ?_)
          refine st_cl rfl rfl en40 rfl (nil_set_ct) ?_
          rintro v' h' ⟨rfl, rfl⟩
          simp only [List.nil_append]
          refine st_v (v_assign rfl) (st_nil (nx_kp [4, 5, 6, 7, 8, 9] rfl (nx_xt (xt_normal_block (xt_then (cd_seq (cd_region (st_v (v_move rfl) (st_v (v_move rfl) (st_v (v_move rfl) (st_v (v_assign rfl) (st_v (v_assign rfl) (st_v (v_assign rfl) (st_nil (nx_kp [4, 5, 6] rfl (nx_then (cd_ret ?_)))))))))))))))))
          exact xt_rt rfl ⟨rfl, rfl⟩
        · skip
          refine cd_seq (cd_region (st_v (v_eql rfl rfl) (st_v (v_assign rfl) (st_nil (nx_kp [0, 3, 4, 5, 6, 7, 8, 9, 11, 58] rfl (nx_then (cd_cond rfl (fun c4 => ?_) (fun c4 => ?_))))))))
          · skip
            refine cd_region (st_v (v_move rfl) (st_v (v_fieldAddr rfl fa38_4 rfl) (st_v (v_ld rfl ld34) ?_)))
            refine st_cl rfl rfl en34 rfl (nil_Minor_ct) ?_
            rintro v' h' ⟨rfl, rfl⟩
            simp only [List.nil_append]
            refine st_v (v_move rfl) (st_v (v_extract rfl rfl) (st_v (v_extract rfl rfl) (st_v (v_assign rfl) (st_v (v_assign rfl) (st_nil (nx_kp [4, 5, 6, 7, 8, 9] rfl (nx_xt (xt_normal_block (xt_then (cd_seq (cd_region (st_v (v_move rfl) (st_v (v_move rfl) (st_v (v_move rfl) (st_v (v_assign rfl) ?_)))))))))))))))
            refine st_v (v_assign rfl) (st_v (v_assign rfl) (st_nil (nx_kp [4, 5, 6] rfl (nx_then (cd_ret ?_)))))
            exact xt_rt rfl ⟨rfl, rfl⟩
          · skip
            refine cd_seq (cd_region (st_v (v_eql rfl rfl) (st_v (v_assign rfl) (st_nil (nx_kp [0, 3, 4, 5, 6, 7, 8, 9, 67] rfl (nx_then (cd_cond rfl (fun c5 => ?_) (fun c5 => ?_))))))))
            · skip
              refine cd_region (st_v (v_move rfl) (st_v (v_fieldAddr rfl fa38_4 rfl) (st_v (v_ld rfl ld34) ?_)))
              refine st_cl rfl rfl en43 rfl (nil_flip_ct) ?_
              rintro v' h' ⟨rfl, rfl⟩
              simp only [List.nil_append]
              refine st_v (v_move rfl) (st_v (v_extract rfl rfl) (st_v (v_extract rfl rfl) (st_v (v_assign rfl) (st_v (v_assign rfl) (st_nil (nx_kp [4, 5, 6, 7, 8, 9] rfl (nx_xt (xt_normal_block (xt_then (cd_seq (cd_region (st_v (v_move rfl) (st_v (v_move rfl) (st_v (v_move rfl) (st_v (v_assign rfl) ?_)))))))))))))))
              refine st_v (v_assign rfl) (st_v (v_assign rfl) (st_nil (nx_kp [4, 5, 6] rfl (nx_then (cd_ret ?_)))))
              exact xt_rt rfl ⟨rfl, rfl⟩
            · skip
              refine cd_region (st_v (v_move rfl) (st_v (v_fieldAddr rfl fa38_1 rfl) (st_v (v_ld rfl ld3) ?_)))
              refine st_cl rfl rfl en31 rfl (nil_step_ct) ?_
              rintro v' h' ⟨rfl, rfl⟩
              simp only [List.nil_append]
              refine st_v (v_move rfl) (st_v (v_extract rfl rfl) (st_v (v_extract rfl rfl) (st_v (v_assign rfl) (st_v (v_assign rfl) (st_nil (nx_kp [4, 5, 6, 7, 8, 9] rfl (nx_xt (xt_normal_block (xt_then (cd_seq (cd_region (st_v (v_move rfl) (st_v (v_move rfl) (st_v (v_move rfl) (st_v (v_assign rfl) ?_)))))))))))))))
              refine st_v (v_assign rfl) (st_v (v_assign rfl) (st_nil (nx_kp [4, 5, 6] rfl (nx_then (cd_ret ?_)))))
              exact xt_rt rfl ⟨rfl, rfl⟩
theorem rowI_nil (R : Res) : RowI R (.slice none 0 0) [] := ⟨none, 0, rfl, .inl rfl⟩
set_option maxRecDepth 100000 in
theorem samePics_nil_ct : Ct Try.prog 22 #[.agg #[.slice none 0 0, .slice none 0 0, .slice none 0 0], .agg #[.slice none 0 0, .slice none 0 0, .slice none 0 0]] [] fun v h' => v = .bool true ∧ h' = [] := by
  refine ct_of (n := 54) Try.func22 rfl rfl (len rfl) fun hr w0 => ?_
  simp only [List.nil_append]
  refine cd_seq (cd_region (st_bx rfl rfl fun b2 => ?_))
  refine st_bx rfl rfl fun b3 => ?_
  refine st_v (v_assign rfl) (st_nil (nx_kp [2, 3, 4] rfl (nx_then (cd_seq (cd_region (st_v (v_fieldAddr rfl fa42_0 rfl) (st_v (v_ld rfl ld34) ?_)))))))
  refine st_v (v_fieldAddr rfl fa42_0 rfl) (st_v (v_ld rfl ld34) ?_)
  refine st_clr rfl rfl en21 rfl (sameInts_ct (R := pt b2 (cl [.slice none 0 0, .slice none 0 0, .slice none 0 0] 42)) (rowI_nil _) (rowI_nil _) (Nat.zero_le _)) ?_
  rw [show (([] : List Int) == []) = true from rfl]
  refine st_v (v_assign rfl) (st_nil (nx_kp [2, 3, 4, 5] rfl (nx_then (cd_seq (cd_region (st_v (v_fieldAddr rfl fa42_2 rfl) (st_v (v_ld rfl ld34) ?_)))))))
  refine st_v (v_fieldAddr rfl fa42_2 rfl) (st_v (v_ld rfl ld34) ?_)
  refine st_clr rfl rfl en21 rfl (sameInts_ct (R := pt b2 (cl [.slice none 0 0, .slice none 0 0, .slice none 0 0] 42)) (rowI_nil _) (rowI_nil _) (Nat.zero_le _)) ?_
  rw [show (([] : List Int) == []) = true from rfl]
  refine st_v (v_assign rfl) (st_nil (nx_kp [2, 3, 4, 5, 6] rfl (nx_then (cd_seq (cd_seq (cd_region (st_v (v_move rfl) (st_v (v_not rfl) (st_v (v_move rfl) (st_vg rfl rfl (v_move rfl) (st_vg rfl rfl (v_not rfl) (st_v (v_pick_false rfl rfl) (st_v (v_move rfl) (st_vg rfl rfl (v_fieldAddr rfl fa42_1 rfl) (st_vg rfl rfl (v_ld rfl ld40) ?_)))))))))))))))
  refine st_vg rfl rfl (v_len rfl Try.underlying40) (st_vg rfl rfl (v_fieldAddr rfl fa42_1 rfl) (st_vg rfl rfl (v_ld rfl ld40) ?_))
  refine st_vg rfl rfl (v_len rfl Try.underlying40) (st_vg rfl rfl (v_neq rfl rfl) (st_v (v_pick_false rfl rfl) (st_nil (nx_kp [2, 3, 4, 33] rfl (nx_then (cd_false rfl ?_))))))
  refine cd_skip (xt_then (cd_seq (cd_seq (cd_region (st_v (v_assign rfl) (st_nil (nx_kp [2, 3, 4, 7] rfl (nx_then (cd_block (cd_lp (σ := Unit) (fun _ => [(2, .pointer (some ⟨b2, 0, none⟩)), (3, .pointer (some ⟨b3, 0, none⟩)), (7, .int .i64 0)]) (fun _ => pt b2 (cl [.slice none 0 0, .slice none 0 0, .slice none 0 0] 42) :: hr) (fun _ => True) (fun _ => 0) () trivial ?_))))))))))
  rintro ⟨⟩ _
  refine cd_seq (cd_seq (cd_region (st_v (v_move rfl) (st_v (v_fieldAddr rfl fa42_1 rfl) (st_v (v_ld rfl ld40) ?_)))))
  refine st_v (v_len rfl Try.underlying40) (st_v (v_lss rfl rfl) (st_nil (nx_kp [2, 3, 7, 38] rfl (nx_then (cd_false rfl ?_)))))
  refine cd_exit (xt_exit_then (xt_exit_then (xt_exit_block (xt_then (cd_seq (cd_region (st_v (v_assign rfl) (st_nil (nx_kp [4] rfl (nx_then (cd_ret ?_)))))))))))
  exact xt_rt rfl ⟨rfl, rfl⟩
set_option maxHeartbeats 4000000 in
set_option maxRecDepth 100000 in
theorem heapNil_c {a b c d : Int} {v : Value} (hb : I64 b) : Ct Try.prog 4 #[.agg #[.int .i64 a, .int .i64 b, .int .i64 c, .int .i64 d, v]] [] fun u h' => u = .bool true ∧ h' = [] := by
  refine ct_of (n := 69) Try.func4 rfl rfl (len rfl) fun hr w0 => ?_
  simp only [List.nil_append]
  refine cd_seq (cd_region (st_bx rfl rfl fun b1 => ?_))
  refine st_v (v_assign rfl) (st_nil (nx_kp [1, 2] rfl (nx_then (cd_seq (cd_region (st_v (v_assign rfl) (st_nil (nx_then (cd_seq (cd_region (st_v (v_move rfl) (st_v (v_loadW rfl ld38 rfl (by repeat (first | exact Sel.here | apply Sel.there))) ?_))))))))))))
  refine st_cl rfl rfl en17 rfl (called_nil_ct hb) ?_
  rintro v' h' ⟨rfl, rfl⟩
  simp only [List.nil_append]
  refine st_v (v_move rfl) (st_v (v_extract rfl rfl) (st_v (v_extract rfl rfl) (st_v (v_extract rfl rfl) (st_v (v_assign rfl) (st_v (v_assign rfl) (st_v (v_assign rfl) (st_nil (nx_kp [1, 2, 3, 4, 5, 6] rfl (nx_then (cd_seq (cd_region (st_v (v_move rfl) (st_v (v_fieldAddr rfl fa38_4 rfl) (st_v (v_ld rfl ld34) ?_))))))))))))))
  refine st_clr rfl rfl en19 rfl (nil_picture_ct) ?_
  refine st_v (v_move rfl) (st_v (v_extract rfl rfl) (st_v (v_extract rfl rfl) (st_alc al42 fun b7 => ?_)))
  refine st_stoW rfl rfl sz42 rfl rfl ?_
  refine st_v (v_assign rfl) (st_nil (nx_kp [2, 3, 4, 5, 6, 7, 8] rfl (nx_then (cd_seq (cd_region (st_v (v_loadW rfl ld42 rfl (by repeat (first | exact Sel.here | apply Sel.there))) ?_))))))
  refine st_v (v_build (cells := [.slice none 0 0, .slice none 0 0, .slice none 0 0]) rfl (fun _ => by kernel_rfl)) ?_
  refine st_cl rfl rfl en22 rfl (samePics_nil_ct) ?_
  rintro v' h' ⟨rfl, rfl⟩
  simp only [List.nil_append]
  refine st_v (v_assign rfl) (st_nil (nx_kp [2, 3, 4, 5, 6, 8, 9] rfl (nx_then (cd_seq (cd_region (st_cl rfl rfl en14 rfl (sanity_c) ?_))))))
  rintro v' h' ⟨rfl, rfl⟩
  simp only [List.nil_append]
  refine st_v (v_move rfl) (st_vg rfl rfl (v_move rfl) (st_vg rfl rfl (v_eql rfl rfl) (st_v (v_pick_true rfl rfl) (st_v (v_move rfl) (st_vg rfl rfl (v_move rfl) (st_vg rfl rfl (v_len rfl Try.underlying34) (st_vg rfl rfl (v_eql rfl rfl) (st_v (v_pick_true rfl rfl) (st_v (v_move rfl) (st_vg rfl rfl (v_move rfl) (st_vg rfl rfl (v_eql rfl rfl) (st_v (v_pick_true rfl rfl) (st_v (v_move rfl) ?_)))))))))))))
  refine st_vg rfl rfl (v_move rfl) (st_vg rfl rfl (v_eql rfl rfl) (st_v (v_pick_true rfl rfl) (st_v (v_move rfl) (st_vg rfl rfl (v_move rfl) (st_v (v_pick_true rfl rfl) (st_v (v_move rfl) (st_vg rfl rfl (v_move rfl) (st_clrg rfl rfl rfl rfl en23 rfl (nil_busy_ct) ?_))))))))
  refine st_vg rfl rfl (v_not rfl) (st_v (v_pick_true rfl rfl) (st_v (v_move rfl) (st_vg rfl rfl (v_move rfl) (st_clrg rfl rfl rfl rfl en24 rfl (nil_room_ct) ?_))))
  refine st_vg rfl rfl (v_build (cells := ints [0, 0, 0]) rfl (fun _ => by kernel_rfl)) ?_
  refine st_vg rfl rfl (v_eql_ints (xs := [0, 0, 0]) (ys := [0, 0, 0]) eqi54 rfl rfl rfl rfl) ?_
  rw [show (([0, 0, 0] : List Int) == [0, 0, 0]) = true by decide]
  refine st_v (v_pick_true rfl rfl) (st_v (v_move rfl) (st_vg rfl rfl (v_move rfl) (st_clrg rfl rfl rfl rfl en26 rfl (nil_check_ct) ?_)))
  refine st_vg rfl rfl (v_eql rfl rfl) (st_v (v_pick_true rfl rfl) (st_v (v_move rfl) (st_vg rfl rfl (v_move rfl) (st_clrg rfl rfl rfl rfl en27 rfl (nil_copy_ct) ?_))))
  refine st_vg rfl rfl (v_eql_ptr_nil rfl rfl pt27) (st_v (v_pick_true rfl rfl) (st_v (v_assign rfl) (st_nil (nx_kp [2] rfl (nx_then (cd_ret ?_))))))
  exact xt_rt rfl ⟨rfl, rfl⟩
end Go.Proofs.Ytmhmpjgkkpbnnaa
namespace Go.Proofs.Ytmhmpjgkkpbnnaa
open Go.Ck Fx Go.Hm Go.Hm.AM
attribute [local irreducible] St Cd Xt Nx DrL LsW

/-- Where the reference's memory lies. -/
structure RL where
  hb : Nat
  wb : Nat
  eb : Nat
  ob : Nat
  vs : Value
  vk : Value
def rn (m : AM) : Nat := (m.Y + 2 * m.H + 1).toNat
def rcl (L : RL) (m : AM) : List Value := [L.vs, .int .i64 m.H, .int .i64 m.Y, .slice (some ⟨L.wb, 0, none⟩) (rn m) (rn m), .slice (some ⟨L.eb, 0, none⟩) (rn m) (rn m), .slice (some ⟨L.ob, 0, none⟩) (rn m) (rn m),
  .int .i64 m.new, .int .i64 m.old, .bool m.up, .bool m.busy, .int .i64 m.scan, .int .i64 m.left, L.vk]
def hR (L : RL) (m : AM) : Res := pt L.hb (cl (rcl L m) 52)
def arr (n : Nat) (f : Int → Int) : List Value := ints ((List.range n).map fun i : Nat => f (i : Int))
theorem arr_len (n : Nat) (f : Int → Int) : (arr n f).length = n := by simp [arr, ints]
theorem arr_get {n k : Nat} {f : Int → Int} (h : k < n) : (arr n f)[k]? = some (.int .i64 (f k)) := by simp [arr, ints, h]
theorem arr_set {n k : Nat} {f : Int → Int} {v : Int} : (arr n f).set k (.int .i64 v) = arr n (fup f k v) := by
  refine List.ext_getElem? fun i => ?_
  rw [List.getElem?_set, arr_len]
  by_cases hi : i < n
  · rw [arr_get hi, arr_get hi]
    by_cases hk : k = i
    · subst hk; simp [hi, fup_same]
    · rw [if_neg hk, fup_other (by omega)]
  · rw [List.getElem?_eq_none (l := arr n f) (by rw [arr_len]; omega), List.getElem?_eq_none (l := arr n (fup f k v)) (by rw [arr_len]; omega)]
    by_cases hk : k = i <;> simp [hk, hi]
def aR (b : Nat) (m : AM) (f : Int → Int) : Res := pt b (cl (arr (rn m) f) 3)
def kR (L : RL) (m : AM) : Res := vec L.vk 161 2 m.rem.length (kc m.rem)
def wR (L : RL) (m : AM) : Res := aR L.wb m m.word
def eR (L : RL) (m : AM) : Res := aR L.eb m m.head
def oR (L : RL) (m : AM) : Res := aR L.ob m m.moved
theorem a_rd {b : Nat} {m : AM} {f : Int → Int} {t : Int} (h0 : 0 ≤ t) (h1 : t < m.Y + 2 * m.H + 1) : Rd (aR b m f) ⟨b, t.toNat, none⟩ (.int .i64 (f t)) :=
  rd_cl (by rw [arr_get (by unfold rn; omega)]; congr 2; congr 1; omega)
section
variable {L : RL} {m : AM} {S : Res} {t : Int}
set_option maxRecDepth 100000 in
theorem in_ct {a lo hi : Int} : Reads Try.prog 90 #[.int .i64 a, .int .i64 lo, .int .i64 hi] [] (.bool (decide (lo ≤ a) && decide (a ≤ hi))) := by
  refine ct_of (n := 15) Try.func90 rfl rfl (len rfl) fun hr w0 => ?_
  simp only [List.nil_append]
  refine cd_seq (cd_region (st_v (v_assign rfl) (st_nil (nx_then (cd_seq (cd_region (st_v (v_move rfl) (st_v (v_move rfl) (st_v (v_geq rfl rfl) (st_v (v_move rfl) ?_))))))))))
  cases hc : decide (lo ≤ a)
  · skip
    refine st_sk rfl rfl rfl ?_
    refine st_sk rfl rfl rfl ?_
    refine st_sk rfl rfl rfl ?_
    refine st_v (v_pick_false rfl rfl) (st_v (v_assign rfl) (st_nil (nx_kp [6] rfl (nx_then (cd_ret ?_)))))
    exact xt_rt rfl ⟨rfl, rfl⟩
  · skip
    refine st_vg rfl rfl (v_move rfl) (st_vg rfl rfl (v_move rfl) (st_vg rfl rfl (v_leq rfl rfl) (st_v (v_pick_true rfl rfl) (st_v (v_assign rfl) (st_nil (nx_kp [6] rfl (nx_then (cd_ret ?_))))))))
    exact xt_rt rfl ⟨rfl, rfl⟩
set_option maxRecDepth 100000 in
theorem former_ct (z : Sz m) : Reads Try.prog 104 #[.pointer (some ⟨L.hb, 0, none⟩)] [hR L m] (.int .i64 m.former) := by
  have h1 := z.Y0; have h2 := z.Y1; have h3 := z.H0; have h4 := z.H1
  unfold AM.former
  refine ct_of (n := 22) Try.func104 rfl rfl (len rfl) fun hr w0 => ?_
  refine cd_seq (cd_region (st_v (v_assign rfl) (st_nil (nx_then (cd_seq (cd_seq (cd_region (st_v (v_move rfl) (st_v (v_nilCheck rfl) (st_v (v_fieldAddr rfl fa52_8 rfl) (st_v (v_ld rfl ld4) ?_)))))))))))
  refine st_nil (nx_kp [0, 2, 6] rfl (nx_then (cd_cond rfl (fun hc => ?_) (fun hc => ?_))))
  · skip
    rw [hc, if_pos rfl]
    refine cd_seq (cd_region (st_v (v_move rfl) (st_v (v_nilCheck rfl) (st_v (v_fieldAddr rfl fa52_2 rfl) (st_v (v_ld rfl ld3) ?_)))))
    refine st_v (v_add rfl rfl (by unfold I64 at *; omega)) (st_v (v_assign rfl) (st_nil (nx_kp [0, 2] rfl (nx_then (cd_ret (xt_ret_then ?_))))))
    exact xt_rt rfl ⟨rfl, rfl⟩
  · skip
    rw [hc, if_neg (by simp)]
    refine cd_skip (xt_then (cd_seq (cd_drawh (ork [(0, 2), (1, 2), (2, 2), (3, 1), (4, 2), (5, 2), (6, 2), (7, 1), (8, 2), (9, 2), (10, 2)] .nil) (fun _ => true) mixed (by kernel_rfl) ?_)))
    refine dp_v rfl (v_move rfl) (dp_v rfl (v_nilCheck rfl) (dp_v rfl (v_fieldAddr rfl fa52_2 rfl) (dr_v rfl (v_ld rfl ld3) ?_)))
    refine dp_v rfl (v_move rfl) (dp_v rfl (v_nilCheck rfl) (dp_v rfl (v_fieldAddr rfl fa52_1 rfl) (dr_v rfl (v_ld rfl ld3) ?_)))
    refine dp_v rfl (v_add rfl rfl (by unfold I64 at *; omega)) (dp_v rfl (v_add rfl rfl (by unfold I64 at *; omega)) (dp_v rfl (v_assign rfl) (dr_nil (nx_kp [2] rfl (nx_then (cd_ret ?_))))))
    exact xt_rt rfl ⟨rfl, rfl⟩
set_option maxRecDepth 100000 in
theorem base_ct (z : Sz m) : Reads Try.prog 48 #[.pointer (some ⟨L.hb, 0, none⟩)] [hR L m] (.int .i64 m.base) := by
  have h1 := z.Y0; have h2 := z.Y1; have h3 := z.H0; have h4 := z.H1
  unfold AM.base
  refine ct_of (n := 22) Try.func48 rfl rfl (len rfl) fun hr w0 => ?_
  refine cd_seq (cd_region (st_v (v_assign rfl) (st_nil (nx_then (cd_seq (cd_seq (cd_region (st_v (v_move rfl) (st_v (v_nilCheck rfl) (st_v (v_fieldAddr rfl fa52_8 rfl) (st_v (v_ld rfl ld4) ?_)))))))))))
  refine st_nil (nx_kp [0, 2, 6] rfl (nx_then (cd_cond rfl (fun hc => ?_) (fun hc => ?_))))
  · skip
    rw [hc, if_pos rfl]
    refine cd_seq (cd_drawh (ork [(0, 2), (1, 2), (2, 2), (3, 1), (4, 2), (5, 2), (6, 2), (7, 1), (8, 2), (9, 2), (10, 2)] .nil) (fun _ => true) mixed (by kernel_rfl) ?_)
    refine dp_v rfl (v_move rfl) (dp_v rfl (v_nilCheck rfl) (dp_v rfl (v_fieldAddr rfl fa52_2 rfl) (dr_v rfl (v_ld rfl ld3) ?_)))
    refine dp_v rfl (v_move rfl) (dp_v rfl (v_nilCheck rfl) (dp_v rfl (v_fieldAddr rfl fa52_1 rfl) (dr_v rfl (v_ld rfl ld3) ?_)))
    refine dp_v rfl (v_add rfl rfl (by unfold I64 at *; omega)) (dp_v rfl (v_add rfl rfl (by unfold I64 at *; omega)) (dp_v rfl (v_assign rfl) (dr_nil (nx_kp [0, 2] rfl (nx_then (cd_ret (xt_ret_then ?_)))))))
    exact xt_rt rfl ⟨rfl, rfl⟩
  · skip
    rw [hc, if_neg (by simp)]
    refine cd_skip (xt_then (cd_seq (cd_region (st_v (v_move rfl) (st_v (v_nilCheck rfl) (st_v (v_fieldAddr rfl fa52_2 rfl) (st_v (v_ld rfl ld3) ?_)))))))
    refine st_v (v_add rfl rfl (by unfold I64 at *; omega)) (st_v (v_assign rfl) (st_nil (nx_kp [2] rfl (nx_then (cd_ret ?_)))))
    exact xt_rt rfl ⟨rfl, rfl⟩
set_option maxRecDepth 100000 in
theorem isFormer_ct (z : Sz m) : Reads Try.prog 107 #[.pointer (some ⟨L.hb, 0, none⟩), .int .i64 t] [hR L m] (.bool (m.isF t)) := by
  have h1 := z.Y0; have h2 := z.Y1; have h3 := z.H0; have h4 := z.H1
  have h5 := m.base_former
  unfold AM.isF
  refine ct_of (n := 17) Try.func107 rfl rfl (len rfl) fun hr w0 => ?_
  refine cd_seq (cd_region (st_v (v_assign rfl) (st_nil (nx_then (cd_seq (cd_drawh (ork [(0, 2), (1, 2), (2, 1), (3, 2), (4, 1), (5, 2), (6, 2), (7, 2), (8, 1), (9, 2), (10, 2), (11, 1), (12, 2)] .nil) (fun _ => true) mixed (by kernel_rfl) ?_))))))
  refine dp_v rfl (v_move rfl) (dp_v rfl (v_move rfl) (dr_clr rfl rfl rfl en104 rfl (former_ct z) ?_))
  refine dp_v rfl (v_move rfl) (dr_clr rfl rfl rfl en104 rfl (former_ct z) ?_)
  refine dp_v rfl (v_move rfl) (dp_v rfl (v_nilCheck rfl) (dp_v rfl (v_fieldAddr rfl fa52_1 rfl) (dr_v rfl (v_ld rfl ld3) ?_)))
  refine dp_v rfl (v_add rfl rfl (by unfold I64 at *; omega)) (dp_v rfl (v_sub rfl rfl (by unfold I64 at *; omega)) (dr_clr rfl rfl rfl en90 rfl (in_ct) ?_))
  refine dp_v rfl (v_assign rfl) (dr_nil (nx_kp [4] rfl (nx_then (cd_ret ?_))))
  exact xt_rt rfl ⟨rfl, rfl⟩
set_option maxRecDepth 100000 in
theorem isOld_ct (z : Sz m) : Reads Try.prog 98 #[.pointer (some ⟨L.hb, 0, none⟩), .int .i64 t] [hR L m] (.bool (m.isO t)) := by
  have h1 := z.Y0; have h2 := z.Y1; have h3 := z.H0; have h4 := z.H1
  have h5 := m.base_former
  unfold AM.isO
  refine ct_of (n := 17) Try.func98 rfl rfl (len rfl) fun hr w0 => ?_
  refine cd_seq (cd_region (st_v (v_assign rfl) (st_nil (nx_then (cd_seq (cd_drawh (ork [(0, 2), (1, 2), (2, 1), (3, 2), (4, 1), (5, 2), (6, 2), (7, 2), (8, 1), (9, 2), (10, 2), (11, 1), (12, 2)] .nil) (fun _ => true) mixed (by kernel_rfl) ?_))))))
  refine dp_v rfl (v_move rfl) (dp_v rfl (v_move rfl) (dr_clr rfl rfl rfl en48 rfl (base_ct z) ?_))
  refine dp_v rfl (v_move rfl) (dr_clr rfl rfl rfl en48 rfl (base_ct z) ?_)
  refine dp_v rfl (v_move rfl) (dp_v rfl (v_nilCheck rfl) (dp_v rfl (v_fieldAddr rfl fa52_1 rfl) (dr_v rfl (v_ld rfl ld3) ?_)))
  refine dp_v rfl (v_add rfl rfl (by unfold I64 at *; omega)) (dp_v rfl (v_sub rfl rfl (by unfold I64 at *; omega)) (dr_clr rfl rfl rfl en90 rfl (in_ct) ?_))
  refine dp_v rfl (v_assign rfl) (dr_nil (nx_kp [4] rfl (nx_then (cd_ret ?_))))
  exact xt_rt rfl ⟨rfl, rfl⟩
set_option maxRecDepth 100000 in
theorem isYoung_ct : Reads Try.prog 99 #[.pointer (some ⟨L.hb, 0, none⟩), .int .i64 t] [hR L m] (.bool (m.isY t)) := by
  unfold AM.isY
  refine ct_of (n := 11) Try.func99 rfl rfl (len rfl) fun hr w0 => ?_
  refine cd_seq (cd_region (st_v (v_assign rfl) (st_nil (nx_then (cd_seq (cd_region (st_v (v_move rfl) (st_v (v_move rfl) (st_v (v_nilCheck rfl) (st_v (v_fieldAddr rfl fa52_2 rfl) (st_v (v_ld rfl ld3) ?_)))))))))))
  refine st_clr rfl rfl en90 rfl (in_ct) ?_
  refine st_v (v_assign rfl) (st_nil (nx_kp [4] rfl (nx_then (cd_ret ?_))))
  exact xt_rt rfl ⟨rfl, rfl⟩
theorem cur_bd {m : AM} {t : Int} (z : Sz m) (h : (m.isY t || m.isO t) = true) : 0 ≤ t ∧ t < m.Y + 2 * m.H + 1 := by
  have h1 := z.Y0; have h3 := z.H0
  have h5 := m.base_former
  simp only [Bool.or_eq_true, isY_iff', isO_iff] at h
  omega
set_option maxRecDepth 100000 in
theorem rcurrent_ct (z : Sz m) : Reads Try.prog 95 #[.pointer (some ⟨L.hb, 0, none⟩), .int .i64 t] [hR L m, eR L m] (.bool (m.cur t)) := by
  unfold AM.cur
  refine ct_of (n := 23) Try.func95 rfl rfl (len rfl) fun hr w0 => ?_
  refine cd_seq (cd_region (st_v (v_assign rfl) (st_nil (nx_then (cd_seq (cd_region (st_v (v_move rfl) (st_v (v_move rfl) (st_clr rfl rfl en99 rfl (isYoung_ct) ?_)))))))))
  refine st_v (v_move rfl) ?_
  cases hy : m.isY t
  · skip
    refine st_vg rfl rfl (v_move rfl) (st_vg rfl rfl (v_move rfl) (st_clrg rfl rfl rfl rfl en98 rfl (isOld_ct z) ?_))
    refine st_v (v_pick_false rfl rfl) (st_v (v_move rfl) ?_)
    cases ho : m.isO t
    · skip
      refine st_sk rfl rfl rfl ?_
      refine st_sk rfl rfl rfl ?_
      refine st_sk rfl rfl rfl ?_
      refine st_sk rfl rfl rfl ?_
      refine st_sk rfl rfl rfl ?_
      refine st_sk rfl rfl rfl ?_
      refine st_sk rfl rfl rfl ?_
      refine st_sk rfl rfl rfl ?_
      refine st_v (v_pick_false rfl rfl) (st_v (v_assign rfl) (st_nil (nx_kp [4] rfl (nx_then (cd_ret ?_)))))
      exact xt_rt rfl ⟨rfl, rfl⟩
    · skip
      obtain ⟨hb0, hb1⟩ := cur_bd z (show (m.isY t || m.isO t) = true by rw [hy, ho]; rfl)
      have hrd : Rd (eR L m) ⟨L.eb, t.toNat, none⟩ (.int .i64 (m.head t)) := a_rd hb0 hb1
      refine st_vg rfl rfl (v_move rfl) (st_vg rfl rfl (v_nilCheck rfl) (st_vg rfl rfl (v_fieldAddr rfl fa52_4 rfl) (st_vg rfl rfl (v_ld rfl ld34) ?_)))
      refine st_vg rfl rfl (v_move rfl) (st_vg rfl rfl (v_idx t.toNat rfl rfl sl34 (by omega) (by unfold rn; omega)) ?_)
      refine st_vg rfl rfl (v_ld rfl ld3) ?_
      refine st_vg rfl rfl (v_gtr rfl rfl) (st_v (v_pick_true rfl rfl) (st_v (v_assign rfl) (st_nil (nx_kp [4] rfl (nx_then (cd_ret ?_))))))
      exact xt_rt rfl ⟨rfl, rfl⟩
  · skip
    obtain ⟨hb0, hb1⟩ := cur_bd z (show (m.isY t || m.isO t) = true by rw [hy]; rfl)
    have hrd : Rd (eR L m) ⟨L.eb, t.toNat, none⟩ (.int .i64 (m.head t)) := a_rd hb0 hb1
    refine st_sk rfl rfl rfl ?_
    refine st_sk rfl rfl rfl ?_
    refine st_sk rfl rfl rfl ?_
    refine st_v (v_pick_true rfl rfl) (st_v (v_move rfl) (st_vg rfl rfl (v_move rfl) (st_vg rfl rfl (v_nilCheck rfl) (st_vg rfl rfl (v_fieldAddr rfl fa52_4 rfl) (st_vg rfl rfl (v_ld rfl ld34) ?_)))))
    refine st_vg rfl rfl (v_move rfl) (st_vg rfl rfl (v_idx t.toNat rfl rfl sl34 (by omega) (by unfold rn; omega)) ?_)
    refine st_vg rfl rfl (v_ld rfl ld3) ?_
    refine st_vg rfl rfl (v_gtr rfl rfl) (st_v (v_pick_true rfl rfl) (st_v (v_assign rfl) (st_nil (nx_kp [4] rfl (nx_then (cd_ret ?_))))))
    exact xt_rt rfl ⟨rfl, rfl⟩
end
end Go.Proofs.Ytmhmpjgkkpbnnaa
namespace Go.Proofs.Ytmhmpjgkkpbnnaa
open Go.Ck Fx Go.Hm Go.Hm.AM
attribute [local irreducible] St Cd Xt Nx DrL LsW

theorem arr_set' {n : Nat} {t : Int} {f : Int → Int} {v : Int} (h : 0 ≤ t) : (arr n f).set t.toNat (.int .i64 v) = arr n (fup f t v) := by
  rw [arr_set, Int.toNat_of_nonneg h]
/-- The reference's memory. -/
structure RI (L : RL) (S : Res) (m : AM) : Prop where
  shp : Shp S L.vs m.sh
def rSH (L : RL) (m : AM) (S : Res) : SH := [hR L m, wR L m, eR L m, oR L m, kR L m, S]
section
variable {L : RL} {m : AM} {S R : Res} {t k : Int} {ly ln lf N rl rs : List Int} {sp : Int} {v : Value} {roots : List Int} {φ : Int → Option Nat} {A : Store}
/-- An object of the machine: its address is in the memory, and its shape is one of those that there are. -/
structure Ob (m : AM) (t : Int) : Prop where
  t0 : 0 ≤ t
  t1 : t < m.Y + 2 * m.H + 1
  h0 : 0 < m.head t
  h1 : m.head t ≤ m.sh.length
  h2 : t + m.size t ≤ m.Y + 2 * m.H + 1
theorem ob_y (h : Gd m ly ln lf N rl sp rs) {t : Int} (ht : t ∈ ly) : Ob m t := by
  have h1 := h.ybd ht; have h2 := h.yl; have h3 := h.sz.H0
  exact ⟨by omega, by omega, h.yhead ht, h.y.ok t ht, by omega⟩
theorem ob_n (h : Gd m ly ln lf N rl sp rs) {t : Int} (ht : t ∈ ln) : Ob m t := by
  have h1 := h.obd ht; have h2 := h.oldle; have h3 := h.sz.H0; have h4 := h.sz.Y0; have h5 := m.base_former
  exact ⟨by omega, by omega, h.ohead ht, h.o.ok t ht, by omega⟩
theorem ob_f (h : Gd m ly ln lf N rl sp rs) {t : Int} (ht : t ∈ lf) : Ob m t := by
  obtain ⟨fe, h6, h7⟩ := h.f
  have h1 := h.fbd ht; have h3 := h.sz.H0; have h4 := h.sz.Y0; have h5 := m.base_former
  exact ⟨by omega, by omega, h.fhead ht, h7.ok t ht, by omega⟩
theorem ob_cur (h : Gd m ly ln lf N rl sp rs) {t : Int} (hc : m.cur t = true) : Ob m t := by
  rcases h.cur_iff.1 hc with h1 | h1
  · exact ob_y h h1
  · exact ob_n h h1
theorem Ob.i (o : Ob m t) : (m.head t - 1).toNat < m.sh.length := by have := o.h0; have := o.h1; omega
theorem Ob.row (o : Ob m t) : m.row t = m.sh[(m.head t - 1).toNat]'o.i := by
  unfold AM.row; rw [List.getD_eq_getElem?_getD, List.getElem?_eq_getElem o.i]; rfl
theorem Ob.len (o : Ob m t) (z : Sz m) : (m.row t).length ≤ 100 := by rw [o.row]; exact z.w _ (List.getElem_mem _)
set_option maxRecDepth 100000 in
theorem rshape_ct (hS : Shp S L.vs m.sh) (z : Sz m) (o : Ob m t) : ∃ u, RowB S u (m.row t) ∧ Reads Try.prog 64 #[.pointer (some ⟨L.hb, 0, none⟩), .int .i64 t] [hR L m, eR L m, S] u := by
  have g1 := o.t0; have g2 := o.t1; have g3 := o.h0; have g4 := o.h1; have g5 := z.n; have g6 := o.i
  obtain ⟨b, q, cp, u, hv, hrd, hu⟩ := hS.row o.i
  refine ⟨u, by rw [o.row]; exact hu, ?_⟩
  have hrd1 : Rd (eR L m) ⟨L.eb, t.toNat, none⟩ (.int .i64 (m.head t)) := a_rd g1 g2
  obtain ⟨ua, ucp, hue, _⟩ := id hu
  subst hue
  refine ct_of (n := 19) Try.func64 rfl rfl (len rfl) fun hr w0 => ?_
  refine cd_seq (cd_region (st_v (v_assign rfl) (st_nil (nx_then (cd_seq (cd_drawh (ork [(0, 2), (1, 2), (2, 2), (3, 1), (4, 2), (5, 2), (6, 2), (7, 1), (8, 2), (9, 2), (10, 1), (11, 2), (12, 2), (13, 1), (14, 2)] .nil) (fun _ => true) mixed (by kernel_rfl) ?_))))))
  refine dp_v rfl (v_move rfl) (dp_v rfl (v_nilCheck rfl) (dp_v rfl (v_fieldAddr rfl fa52_0 rfl) (dr_v rfl (v_ld rfl ld22) ?_)))
  refine dp_v rfl (v_move rfl) (dp_v rfl (v_nilCheck rfl) (dp_v rfl (v_fieldAddr rfl fa52_4 rfl) (dr_v rfl (v_ld rfl ld34) ?_)))
  refine dp_v rfl (v_move rfl) (dp_v rfl (v_idx t.toNat rfl rfl sl34 (by omega) (by unfold rn; omega)) ?_)
  refine dr_v rfl (v_ld rfl ld3) ?_
  refine dp_v rfl (v_sub rfl rfl (by unfold I64 at *; omega)) (dp_v rfl (v_ixo (m.head t - 1).toNat (congrArg some hv) rfl sl22 (by omega) o.i) (dr_v rfl (v_ld rfl ld73) ?_))
  refine dp_v rfl (v_assign rfl) (dr_nil (nx_kp [4] rfl (nx_then (cd_ret ?_))))
  exact xt_rt rfl ⟨rfl, rfl⟩
set_option maxRecDepth 100000 in
theorem rsize_ct (hS : Shp S L.vs m.sh) (z : Sz m) (o : Ob m t) : Reads Try.prog 130 #[.pointer (some ⟨L.hb, 0, none⟩), .int .i64 t] [hR L m, eR L m, S] (.int .i64 (m.size t)) := by
  have g1 := o.len z
  unfold AM.size
  obtain ⟨u, hu, hct⟩ := rshape_ct hS z o
  obtain ⟨ua, ucp, hue, _⟩ := id hu
  subst hue
  refine ct_of (n := 10) Try.func130 rfl rfl (len rfl) fun hr w0 => ?_
  refine cd_seq (cd_region (st_v (v_assign rfl) (st_nil (nx_then (cd_seq (cd_region (st_v (v_move rfl) (st_v (v_move rfl) (st_clr rfl rfl en64 rfl (hct) ?_)))))))))
  refine st_v (v_len rfl Try.underlying73) (st_v (v_add rfl rfl (by unfold I64 at *; omega)) (st_v (v_assign rfl) (st_nil (nx_kp [4] rfl (nx_then (cd_ret ?_))))))
  exact xt_rt rfl ⟨rfl, rfl⟩
set_option maxRecDepth 100000 in
theorem rfield_ct (hS : Shp S L.vs m.sh) (h : Gd m ly ln lf N rl sp rs) : Reads Try.prog 96 #[.pointer (some ⟨L.hb, 0, none⟩), .int .i64 t, .int .i64 k] [hR L m, eR L m, S] (.int .i64 (m.fe t k)) := by
  have z := h.sz
  unfold AM.fe
  refine ct_of (n := 21) Try.func96 rfl rfl (len rfl) fun hr w0 => ?_
  refine cd_seq (cd_region (st_v (v_assign rfl) (st_nil (nx_then (cd_seq (cd_region (st_v (v_move rfl) (st_v (v_move rfl) (st_clr rfl rfl en95 rfl (rcurrent_ct z) ?_)))))))))
  refine st_v (v_assign rfl) (st_nil (nx_kp [0, 1, 2, 6, 7] rfl (nx_then (cd_seq (cd_seq (cd_region (st_v (v_move rfl) (st_v (v_not rfl) (st_nil (nx_kp [0, 1, 2, 6, 12] rfl (nx_then (cd_cond rfl (fun hc => ?_) (fun hc => ?_)))))))))))))
  · skip
    rw [if_pos hc]
    refine cd_seq (cd_region (st_v (v_assign rfl) (st_nil (nx_kp [0, 1, 2, 6] rfl (nx_then (cd_ret (xt_ret_then ?_)))))))
    exact xt_rt rfl ⟨rfl, rfl⟩
  · skip
    have hc' : m.cur t = true := by simpa using hc
    have o := ob_cur h hc'
    have g1 := o.len z
    obtain ⟨u, hu, hct⟩ := rshape_ct hS z o
    obtain ⟨ua, ucp, hue, _⟩ := id hu
    subst hue
    rw [if_neg (by rw [hc]; simp)]
    refine cd_skip (xt_then (cd_seq (cd_seq (cd_region (st_v (v_move rfl) (st_v (v_move rfl) (st_v (v_move rfl) (st_clr rfl rfl en64 rfl (hct) ?_))))))))
    refine st_v (v_len rfl Try.underlying73) (st_v (v_sub rfl rfl (by unfold I64 at *; omega)) (st_clr rfl rfl en90 rfl (in_ct) ?_))
    refine st_v (v_not rfl) (st_nil (nx_kp [6, 20] rfl (nx_then (cd_cond rfl (fun hd => ?_) (fun hd => ?_)))))
    · skip
      rw [if_pos (by simp at hd ⊢; omega)]
      refine cd_seq (cd_region (st_v (v_assign rfl) (st_nil (nx_kp [6] rfl (nx_then (cd_ret (xt_ret_then ?_)))))))
      exact xt_rt rfl ⟨rfl, rfl⟩
    · skip
      rw [if_neg (by simp at hd ⊢; omega)]
      refine cd_skip (xt_then (cd_seq (cd_region (st_v (v_assign rfl) (st_nil (nx_kp [6] rfl (nx_then (cd_ret ?_))))))))
      exact xt_rt rfl ⟨rfl, rfl⟩
set_option maxRecDepth 100000 in
theorem rshapeOf_ct (hS : Shp S L.vs m.sh) (h : Gd m ly ln lf N rl sp rs) : Reads Try.prog 51 #[.pointer (some ⟨L.hb, 0, none⟩), .int .i64 t] [hR L m, eR L m] (.tuple #[.int .i64 (m.shapeOf t).1, .int .i64 (m.shapeOf t).2]) := by
  have z := h.sz
  unfold AM.shapeOf
  refine ct_of (n := 20) Try.func51 rfl rfl (len rfl) fun hr w0 => ?_
  refine cd_seq (cd_region (st_v (v_assign rfl) (st_v (v_assign rfl) (st_nil (nx_then (cd_seq (cd_region (st_v (v_move rfl) (st_v (v_move rfl) (st_clr rfl rfl en95 rfl (rcurrent_ct z) ?_))))))))))
  refine st_v (v_assign rfl) (st_nil (nx_kp [0, 1, 4, 5, 6] rfl (nx_then (cd_seq (cd_seq (cd_region (st_v (v_move rfl) (st_v (v_not rfl) (st_nil (nx_kp [0, 1, 4, 5, 11] rfl (nx_then (cd_cond rfl (fun hc => ?_) (fun hc => ?_)))))))))))))
  · skip
    rw [if_neg (show ¬ m.cur t = true by simpa using hc)]
    refine cd_seq (cd_region (st_v (v_assign rfl) (st_v (v_assign rfl) (st_nil (nx_kp [0, 1, 4, 5] rfl (nx_then (cd_ret (xt_ret_then ?_))))))))
    exact xt_rt rfl ⟨rfl, rfl⟩
  · skip
    have hc' : m.cur t = true := by simpa using hc
    have o := ob_cur h hc'
    have g1 := o.t0; have g2 := o.t1; have g3 := o.h0; have g4 := o.h1; have g5 := z.n
    have hrd1 : Rd (eR L m) ⟨L.eb, t.toNat, none⟩ (.int .i64 (m.head t)) := a_rd g1 g2
    rw [if_pos hc']
    refine cd_skip (xt_then (cd_seq (cd_region (st_v (v_move rfl) (st_v (v_nilCheck rfl) (st_v (v_fieldAddr rfl fa52_4 rfl) (st_v (v_ld rfl ld34) ?_)))))))
    refine st_v (v_move rfl) (st_v (v_idx t.toNat rfl rfl sl34 (by omega) (by unfold rn; omega)) ?_)
    refine st_v (v_ld rfl ld3) ?_
    refine st_v (v_sub rfl rfl (by unfold I64 at *; omega)) (st_v (v_assign rfl) (st_v (v_assign rfl) (st_nil (nx_kp [4, 5] rfl (nx_then (cd_ret ?_))))))
    exact xt_rt rfl ⟨rfl, rfl⟩
set_option maxRecDepth 100000 in
theorem rroom_ct (h : Gd m ly ln lf N rl sp rs) : Reads Try.prog 25 #[.pointer (some ⟨L.hb, 0, none⟩)] [hR L m] (.agg #[.int .i64 m.room.1, .int .i64 m.room.2.1, .int .i64 m.room.2.2]) := by
  have z := h.sz
  have h1 := z.Y0; have h2 := z.Y1; have h3 := z.H0; have h4 := z.H1
  have h5 := m.base_former; have h6 := h.newle; have h7 := h.yl; have h8 := h.oldle
  unfold AM.room
  refine ct_of (n := 20) Try.func25 rfl rfl (len rfl) fun hr w0 => ?_
  refine cd_seq (cd_region (st_alc al54 fun b2 => ?_))
  refine st_nil (nx_then (cd_seq (cd_drawh (ork [(0, 2), (1, 2), (2, 2), (3, 1), (4, 2), (5, 2), (6, 2), (7, 2), (8, 1), (9, 2), (10, 1), (11, 2), (12, 2), (13, 2), (14, 2), (15, 1), (16, 2), (17, 0)] .nil) (fun i => !(Nat.beq i 17)) mixed (by kernel_rfl) ?_)))
  refine dp_v rfl (v_move rfl) (dp_v rfl (v_nilCheck rfl) (dp_v rfl (v_fieldAddr rfl fa52_6 rfl) (dr_v rfl (v_ld rfl ld3) ?_)))
  refine dp_v rfl (v_sub rfl rfl (by unfold I64 at *; omega)) (dp_v rfl (v_move rfl) (dp_v rfl (v_nilCheck rfl) (dp_v rfl (v_fieldAddr rfl fa52_7 rfl) (dr_v rfl (v_ld rfl ld3) ?_))))
  refine dp_v rfl (v_move rfl) (dr_clr rfl rfl rfl en48 rfl (base_ct z) ?_)
  refine dp_v rfl (v_sub rfl rfl (by unfold I64 at *; omega)) (dp_v rfl (v_move rfl) (dp_v rfl (v_nilCheck rfl) (dp_v rfl (v_fieldAddr rfl fa52_11 rfl) (dr_v rfl (v_ld rfl ld3) ?_))))
  refine dp_v rfl (v_build (cells := [.int .i64 (m.new - 1), .int .i64 (m.old - m.base), .int .i64 m.left]) rfl (fun _ => by kernel_rfl)) ?_
  refine dr_eff rfl (st_stoW rfl rfl sz54 rfl rfl (dr_nx ?_))
  refine dr_nil (nx_kp [2] rfl (nx_then (cd_ret ?_)))
  exact xt_retV (.cellN rfl ld54 rfl (by repeat (first | exact Sel.here | apply Sel.there)) .nil) ⟨rfl, rfl⟩ (by repeat (first | exact Sub.refl _ | exact Sub.nil _ | refine Sub.sel (by repeat (first | exact Sel.here | apply Sel.there)) ?_ | apply Sub.cons))
set_option maxRecDepth 100000 in
theorem rrooted_ct (h : Gd m ly ln lf N rl sp rs) (hv : RowI R v roots) (hrl : roots.length ≤ 1000000) : Reads Try.prog 62 #[.pointer (some ⟨L.hb, 0, none⟩), v] [hR L m, eR L m, R] (.int .i64 (m.rooted roots)) := by
  have z := h.sz
  obtain ⟨ra, rcp, hv1, _⟩ := id hv
  unfold AM.rooted
  refine ct_of (n := 31) Try.func62 rfl rfl (len rfl) fun hr w0 => ?_
  refine cd_seq (cd_region (st_v (v_assign rfl) (st_nil (nx_then (cd_seq (cd_seq (cd_region (st_v (v_move rfl) (st_v (v_len (congrArg some hv1) Try.underlying34) (st_v (v_gtr rfl rfl) (st_nil (nx_kp [0, 1, 4, 9] rfl (nx_then (cd_cond rfl (fun hc => ?_) (fun hc => ?_)))))))))))))))
  · skip
    rw [if_pos hc]
    refine cd_seq (cd_region (st_v (v_assign rfl) (st_nil (nx_kp [0, 1, 4] rfl (nx_then (cd_ret (xt_ret_then ?_)))))))
    exact xt_rt rfl ⟨rfl, rfl⟩
  · skip
    rw [if_neg (by rw [hc]; simp)]
    refine cd_skip (xt_then (cd_seq (cd_seq (cd_region (st_v (v_assign rfl) (st_nil (nx_kp [0, 1, 4, 5] rfl (nx_then (cd_block (cd_loop (σ := Nat) (fun i => [(0, .pointer (some ⟨L.hb, 0, none⟩)), (1, v), (5, .int .i64 (i : Nat))]) (fun _ => hR L m :: eR L m :: R :: hr) (fun i => i ≤ roots.length ∧ (roots.take i).any m.bad = false) (fun i => roots.length - i) 0 ⟨Nat.zero_le _, rfl⟩ ⟨rfl, rfl, rfl, trivial⟩ (Sub.refl _) ?_))))))))))
    rintro i ⟨hi, hall⟩
    refine cd_seq (cd_seq (cd_region (st_v (v_move rfl) (st_v (v_move rfl) (st_v (v_len (congrArg some hv1) Try.underlying34) (st_v (v_lss rfl rfl) (st_nil (nx_kp [0, 1, 5, 13] rfl (nx_then (cd_cond rfl (fun hd => ?_) (fun hd => ?_)))))))))))
    · skip
      have hlt : i < roots.length := by simpa using hd
      obtain ⟨b, q, cp', hv2, hrd⟩ := hv.at hlt
      have htk : (roots.take (i + 1)).any m.bad = m.bad roots[i] := by rw [List.take_succ_eq_append_getElem hlt, List.any_append, hall]; simp
      refine cd_skip (xt_then (cd_seq (cd_block (cd_seq (cd_region (st_v (v_move rfl) (st_v (v_move rfl) (st_v (v_move rfl) (st_v (v_ixo i (congrArg some hv2) rfl sl34 rfl hlt) (st_v (v_ld rfl ld3) ?_))))))))))
      refine st_clr rfl rfl en95 rfl (rcurrent_ct z) ?_
      refine st_v (v_assign rfl) (st_nil (nx_kp [0, 1, 5, 6] rfl (nx_then (cd_seq (cd_region (st_v (v_move rfl) (st_v (v_move rfl) (st_v (v_ixo i (congrArg some hv2) rfl sl34 rfl hlt) (st_v (v_ld rfl ld3) ?_)))))))))
      refine st_v (v_neq rfl rfl) (st_v (v_move rfl) ?_)
      cases hz : roots[i] != 0
      · skip
        refine st_sk rfl rfl rfl ?_
        refine st_sk rfl rfl rfl ?_
        refine st_v (v_pick_false rfl rfl) (st_nil (nx_kp [0, 1, 5, 30] rfl (nx_then (cd_false rfl ?_))))
        refine cd_skip (xt_normal_block (xt_then (cd_region (st_v (v_move rfl) (st_v (v_add rfl rfl (by unfold I64 at *; omega)) (st_v (v_assign rfl) (st_nil (nx_kp [0, 1, 5] rfl (nx_xt ?_)))))))))
        refine xt_ag (i + 1) ⟨hlt, by rw [htk]; unfold AM.bad; rw [hz]; rfl⟩ (by omega)
      · skip
        refine st_vg rfl rfl (v_move rfl) (st_vg rfl rfl (v_not rfl) (st_v (v_pick_true rfl rfl) (st_nil (nx_kp [0, 1, 5, 30] rfl (nx_then (cd_cond rfl (fun he => ?_) (fun he => ?_)))))))
        · skip
          refine cd_seq (cd_region (st_v (v_assign rfl) (st_nil (nx_kp [0, 1, 4, 5] rfl (nx_then (cd_ret (xt_ret_block (xt_ret_then (xt_ret_then (xt_ret_block (xt_ret_then ?_)))))))))))
          have hany : roots.any m.bad = true := List.any_eq_true.2 ⟨roots[i], List.getElem_mem hlt, by unfold AM.bad; rw [hz, he]; rfl⟩
          rw [if_pos hany]
          exact xt_rt rfl ⟨rfl, rfl⟩
        · skip
          refine cd_skip (xt_normal_block (xt_then (cd_region (st_v (v_move rfl) (st_v (v_add rfl rfl (by unfold I64 at *; omega)) (st_v (v_assign rfl) (st_nil (nx_kp [0, 1, 5] rfl (nx_xt ?_)))))))))
          refine xt_ag (i + 1) ⟨hlt, by rw [htk]; unfold AM.bad; rw [hz, he]; rfl⟩ (by omega)
    · skip
      refine cd_exit (xt_exit_then (xt_exit_then (xt_exit_block (xt_then (cd_seq (cd_region (st_v (v_assign rfl) (st_nil (nx_kp [4] rfl (nx_then (cd_ret ?_)))))))))))
      have hge : i = roots.length := by have : ¬ i < roots.length := by simpa using hd
                                        omega
      rw [hge, List.take_length] at hall
      rw [hall, if_neg (by simp)]
      exact xt_rt rfl ⟨rfl, rfl⟩
set_option maxRecDepth 100000 in
theorem ralloc_ct (hS : Shp S L.vs m.sh) (h : Gd m ly ln lf N rl sp rs) (s : Int) : Ct Try.prog 50 #[.pointer (some ⟨L.hb, 0, none⟩), .int .i64 s] (rSH L m S) fun v h' => v = .tuple #[.int .i64 (m.alloc s).1, .int .i64 (m.alloc s).2.1] ∧ h' = rSH L (m.alloc s).2.2 S := by
  have z := h.sz
  have h1 := z.Y0; have h2 := z.Y1; have h3 := z.H0; have h4 := z.H1
  have h6 := h.newle; have h7 := h.yl; have h8 := z.n
  have hal := arr_len (rn m) m.head; have hrn : rn m = (m.Y + 2 * m.H + 1).toNat := rfl
  obtain ⟨sa, scp, hvs, _⟩ := id hS
  unfold rSH AM.alloc
  refine ct_of (n := 57) Try.func50 rfl rfl (len rfl) fun hr w0 => ?_
  refine cd_seq (cd_region (st_v (v_assign rfl) (st_v (v_assign rfl) (st_nil (nx_then (cd_seq (cd_seq (cd_region (st_v (v_move rfl) (st_v (v_move rfl) (st_v (v_nilCheck rfl) (st_v (v_fieldAddr rfl fa52_0 rfl) (st_v (v_ld rfl ld22) ?_)))))))))))))
  refine st_v (v_len (congrArg some hvs) Try.underlying22) (st_v (v_sub rfl rfl (by unfold I64 at *; omega)) (st_clr rfl rfl en90 rfl (in_ct) ?_))
  refine st_v (v_not rfl) (st_nil (nx_kp [0, 1, 4, 5, 16] rfl (nx_then (cd_cond rfl (fun hc => ?_) (fun hc => ?_)))))
  · skip
    rw [if_pos (by simp at hc ⊢; omega)]
    refine cd_seq (cd_region (st_v (v_assign rfl) (st_v (v_assign rfl) (st_nil (nx_kp [0, 1, 4, 5] rfl (nx_then (cd_ret (xt_ret_then ?_))))))))
    exact xt_rt rfl ⟨rfl, rfl⟩
  · skip
    have hs : 0 ≤ s ∧ s < m.sh.length := by simp at hc; omega
    rw [if_neg (by simp; omega)]
    refine cd_skip (xt_then (cd_seq (cd_region (st_v (v_move rfl) (st_v (v_nilCheck rfl) (st_v (v_fieldAddr rfl fa52_0 rfl) (st_v (v_ld rfl ld22) ?_)))))))
    refine st_v (v_move rfl) ?_
    obtain ⟨b, q, cp, u, hv, hrd, hu⟩ := hS.row (show s.toNat < m.sh.length by omega)
    obtain ⟨ua, ucp, hue, _⟩ := id hu
    subst hue
    have hgd : m.sh.getD s.toNat [] = m.sh[s.toNat] := by rw [List.getD_eq_getElem?_getD, List.getElem?_eq_getElem]; rfl
    have hw := z.w _ (List.getElem_mem (show s.toNat < m.sh.length by omega))
    rw [hgd]
    dsimp only
    refine st_v (v_ixo s.toNat (congrArg some hv) rfl sl22 (by omega) (by omega)) (st_v (v_ld rfl ld73) ?_)
    refine st_v (v_len rfl Try.underlying73) (st_v (v_add rfl rfl (by unfold I64 at *; omega)) (st_v (v_assign rfl) (st_nil (nx_kp [0, 1, 4, 5, 6] rfl (nx_then (cd_seq (cd_seq (cd_drawh (ork [(0, 2), (1, 2), (2, 2), (3, 1), (4, 2), (5, 2), (6, 2), (7, 2), (8, 2), (9, 2), (10, 1), (11, 2)] .nil) (fun _ => true) mixed (by kernel_rfl) ?_))))))))
    refine dp_v rfl (v_move rfl) (dp_v rfl (v_nilCheck rfl) (dp_v rfl (v_fieldAddr rfl fa52_6 rfl) (dr_v rfl (v_ld rfl ld3) ?_)))
    refine dp_v rfl (v_move rfl) (dp_v rfl (v_add rfl rfl (by unfold I64 at *; omega)) (dp_v rfl (v_sub rfl rfl (by unfold I64 at *; omega)) (dp_v rfl (v_move rfl) (dp_v rfl (v_nilCheck rfl) (dp_v rfl (v_fieldAddr rfl fa52_2 rfl) (dr_v rfl (v_ld rfl ld3) ?_))))))
    refine dp_v rfl (v_gtr rfl rfl) (dr_nil (nx_kp [0, 1, 4, 5, 6, 37] rfl (nx_then (cd_cond rfl (fun hd => ?_) (fun hd => ?_)))))
    · skip
      rw [if_pos (by simp at hd ⊢; omega)]
      refine cd_seq (cd_region (st_v (v_assign rfl) (st_v (v_assign rfl) (st_nil (nx_kp [0, 1, 4, 5, 6] rfl (nx_then (cd_ret (xt_ret_then ?_))))))))
      exact xt_rt rfl ⟨rfl, rfl⟩
    · skip
      rw [if_neg (by simp at hd ⊢; omega)]
      simp at hd
      refine cd_skip (xt_then (cd_seq (cd_region (st_v (v_move rfl) (st_v (v_nilCheck rfl) (st_v (v_fieldAddr rfl fa52_6 rfl) (st_v (v_ld rfl ld3) ?_)))))))
      refine st_v (v_assign rfl) (st_nil (nx_kp [0, 1, 4, 5, 6, 7] rfl (nx_then (cd_seq (cd_region (st_v (v_move rfl) (st_v (v_nilCheck rfl) (st_v (v_fieldAddr rfl fa52_4 rfl) (st_v (v_ld rfl ld34) ?_)))))))))
      refine st_v (v_move rfl) (st_v (v_move rfl) (st_v (v_add rfl rfl (by unfold I64 at *; omega)) (st_v (v_idx m.new.toNat rfl rfl sl34 (by omega) (by unfold rn; omega)) ?_)))
      refine st_sto rfl rfl sz3 ?_
      refine st_nil (nx_kp [0, 4, 5, 6, 7] rfl (nx_then (cd_seq (cd_region (st_v (v_move rfl) (st_v (v_move rfl) (st_v (v_move rfl) (st_v (v_add rfl rfl (by unfold I64 at *; omega)) (st_v (v_nilCheck rfl) (st_v (v_fieldAddr rfl fa52_6 rfl) (st_sto rfl rfl sz3 ?_)))))))))))
      refine st_nil (nx_kp [4, 5, 7] rfl (nx_then (cd_seq (cd_region (st_v (v_move rfl) (st_v (v_assign rfl) (st_v (v_assign rfl) (st_nil (nx_kp [4, 5] rfl (nx_then (cd_ret ?_)))))))))))
      rw [arr_set' (by omega)]
      exact xt_rt rfl ⟨rfl, rfl⟩
end
end Go.Proofs.Ytmhmpjgkkpbnnaa
namespace Go.Proofs.Ytmhmpjgkkpbnnaa
open Go.Ck Fx Go.Hm Go.Hm.AM
attribute [local irreducible] St Cd Xt Nx DrL LsW
section
variable {L : RL} {m : AM} {S R : Res} {t k a : Int} {ly ln lf N rl rs : List Int} {sp : Int} {v : Value} {roots : List Int} {φ : Int → Option Nat} {A : Store}
/-- The words, where i of an object's are copied. -/
def mvw (m : AM) (a i : Int) : Int → Int := fun x => if decide (m.old ≤ x) && decide (x < m.old + i) then m.word (a + (x - m.old)) else m.word x
theorem mvw_zero : mvw m a 0 = m.word := by
  funext x; unfold mvw; rw [if_neg (by simp)]
theorem mvw_succ {i : Int} (hi : 0 ≤ i) (hap : a + i < m.old ∨ m.old + i ≤ a + i) : fup (mvw m a i) (m.old + i) (mvw m a i (a + i)) = mvw m a (i + 1) := by
  have h1 : mvw m a i (a + i) = m.word (a + i) := by unfold mvw; rw [if_neg (by simp; omega)]
  rw [h1]
  funext x
  by_cases hx : x = m.old + i
  · subst hx; rw [fup_same]; unfold mvw; rw [if_pos (by simp; omega)]; congr 1; omega
  · rw [fup_other hx]; unfold mvw
    by_cases hc : m.old ≤ x ∧ x < m.old + i
    · rw [if_pos (by simp; omega), if_pos (by simp; omega)]
    · rw [if_neg (by simp; omega), if_neg (by simp; omega)]
set_option maxRecDepth 100000 in
theorem rmove_ct (hS : Shp S L.vs m.sh) (h : Gd m ly ln lf N rl sp rs) (o : Ob m a) (hfit : m.old + m.size a ≤ m.base + m.H) (hap : a + m.size a ≤ m.old ∨ m.old + m.size a ≤ a) :
    Ct Try.prog 118 #[.pointer (some ⟨L.hb, 0, none⟩), .int .i64 a] (rSH L m S) fun v h' => v = .int .i64 (m.move a).1 ∧ h' = rSH L (m.move a).2 S := by
  have z := h.sz
  have h1 := z.Y0; have h2 := z.Y1; have h3 := z.H0; have h4 := z.H1
  have h6 := h.oldle; have h7 := m.base_former; have h8 := m.size_pos a
  have g1 := o.t0; have g2 := o.t1; have g5 := o.h2
  have hal := fun f => arr_len (rn m) f
  have hrn : rn m = (m.Y + 2 * m.H + 1).toNat := rfl
  unfold rSH AM.move
  refine ct_of (n := 76) Try.func118 rfl rfl (len rfl) fun hr w0 => ?_
  refine cd_seq (cd_region (st_v (v_assign rfl) (st_nil (nx_then (cd_seq (cd_region (st_v (v_move rfl) (st_v (v_move rfl) (st_clr rfl rfl en130 rfl (rsize_ct hS z o) ?_)))))))))
  refine st_v (v_assign rfl) (st_nil (nx_kp [0, 1, 4, 5] rfl (nx_then (cd_seq (cd_region (st_v (v_move rfl) (st_v (v_nilCheck rfl) (st_v (v_fieldAddr rfl fa52_7 rfl) (st_v (v_ld rfl ld3) ?_)))))))))
  refine st_v (v_assign rfl) (st_nil (nx_kp [0, 1, 4, 5, 6] rfl (nx_then (cd_seq (cd_seq (cd_region (st_v (v_assign rfl) (st_nil (nx_then (cd_block ?_))))))))))
  obtain ⟨n, hn⟩ : ∃ n : Nat, m.size a = n := ⟨(m.size a).toNat, by omega⟩
  refine cd_loop (σ := Nat) (fun i => [(0, .pointer (some ⟨L.hb, 0, none⟩)), (1, .int .i64 a), (5, .int .i64 (m.size a)), (6, .int .i64 m.old), (7, .int .i64 (i : Nat))]) (fun i => [hR L m, aR L.wb m (mvw m a i), eR L m, oR L m, kR L m, S] ++ hr) (fun i => i ≤ n) (fun i => n - i) 0 (Nat.zero_le _) ⟨rfl, rfl, rfl, rfl, rfl, trivial⟩ (by rw [show ((0 : Nat) : Int) = 0 from rfl, mvw_zero]; exact Sub.refl _) ?_
  rintro i hi
  dsimp only
  simp only [List.cons_append, List.nil_append]
  refine cd_seq (cd_seq (cd_region (st_v (v_move rfl) (st_v (v_move rfl) (st_v (v_lss rfl rfl) (st_nil (nx_kp [0, 1, 5, 6, 7, 17] rfl (nx_then (cd_cond rfl (fun hc => ?_) (fun hc => ?_))))))))))
  · skip
    have hlt : i < n := by simp [hn] at hc; omega
    have hrd : Rd (aR L.wb m (mvw m a i)) ⟨L.wb, (a + i).toNat, none⟩ (.int .i64 (mvw m a i (a + i))) := a_rd (by omega) (by omega)
    have hl2 := hal (mvw m a i)
    refine cd_skip (xt_then (cd_seq (cd_block (cd_drawh (ork [(0, 2), (1, 2), (2, 2), (3, 1), (4, 2), (5, 2), (6, 2), (7, 2), (8, 2), (9, 2), (10, 1), (11, 2), (12, 2), (13, 2), (14, 2), (15, 1), (16, 2), (17, 0)] .nil) (fun i => !(Nat.beq i 17)) mixed (by kernel_rfl) ?_))))
    refine dp_v rfl (v_move rfl) (dp_v rfl (v_nilCheck rfl) (dp_v rfl (v_fieldAddr rfl fa52_3 rfl) (dr_v rfl (v_ld rfl ld34) ?_)))
    refine dp_v rfl (v_move rfl) (dp_v rfl (v_move rfl) (dp_v rfl (v_add rfl rfl (by unfold I64 at *; omega)) (dp_v rfl (v_move rfl) (dp_v rfl (v_nilCheck rfl) (dp_v rfl (v_fieldAddr rfl fa52_3 rfl) (dr_v rfl (v_ld rfl ld34) ?_))))))
    refine dp_v rfl (v_move rfl) (dp_v rfl (v_move rfl) (dp_v rfl (v_add rfl rfl (by unfold I64 at *; omega)) (dp_v rfl (v_idx (a + i).toNat rfl rfl sl34 (by omega) (by omega)) (dr_v rfl (v_ld rfl ld3) ?_))))
    refine dp_v rfl (v_idx (m.old + i).toNat rfl rfl sl34 (by omega) (by omega)) (dr_eff rfl (st_sto rfl rfl sz3 (dr_nx ?_)))
    refine dr_nil (nx_kp [0, 1, 5, 6, 7] rfl (nx_xt (xt_normal_block (xt_then (cd_region (st_v (v_move rfl) (st_v (v_add rfl rfl (by unfold I64 at *; omega)) (st_v (v_assign rfl) (st_nil (nx_kp [0, 1, 5, 6, 7] rfl (nx_xt ?_)))))))))))
    rw [arr_set' (by omega), mvw_succ (by omega) (by omega)]
    refine xt_ag (i + 1) hlt (by omega)
  · skip
    have hge : i = n := by simp [hn] at hc; omega
    subst hge
    rw [show mvw m a (i : Int) = mvw m a (m.size a) by rw [hn]]
    have hrd : Rd (eR L m) ⟨L.eb, a.toNat, none⟩ (.int .i64 (m.head a)) := a_rd (by omega) (by omega)
    have hl2 := hal m.head
    have hl3 := hal m.moved
    refine cd_exit (xt_exit_then (xt_exit_then (xt_exit_block (xt_then (cd_seq (cd_drawh (ork [(0, 2), (1, 2), (2, 2), (3, 1), (4, 2), (5, 2), (6, 2), (7, 2), (8, 1), (9, 2), (10, 2), (11, 1), (12, 2), (13, 0)] .nil) (fun i => !(Nat.beq i 13)) mixed (by kernel_rfl) ?_))))))
    refine dp_v rfl (v_move rfl) (dp_v rfl (v_nilCheck rfl) (dp_v rfl (v_fieldAddr rfl fa52_4 rfl) (dr_v rfl (v_ld rfl ld34) ?_)))
    refine dp_v rfl (v_move rfl) (dp_v rfl (v_move rfl) (dp_v rfl (v_nilCheck rfl) (dp_v rfl (v_fieldAddr rfl fa52_4 rfl) (dr_v rfl (v_ld rfl ld34) ?_))))
    refine dp_v rfl (v_move rfl) (dp_v rfl (v_idx a.toNat rfl rfl sl34 (by omega) (by omega)) (dr_v rfl (v_ld rfl ld3) ?_))
    refine dp_v rfl (v_idx m.old.toNat rfl rfl sl34 (by omega) (by omega)) (dr_eff rfl (st_sto rfl rfl sz3 (dr_nx ?_)))
    refine dr_nil (nx_kp [0, 1, 5, 6] rfl (nx_then (cd_seq (cd_region (st_v (v_move rfl) (st_v (v_nilCheck rfl) (st_v (v_fieldAddr rfl fa52_5 rfl) (st_v (v_ld rfl ld34) ?_))))))))
    refine st_v (v_move rfl) (st_v (v_move rfl) ?_)
    rw [arr_set' (by omega)]
    refine st_v (v_idx a.toNat rfl rfl sl34 (by omega) (by omega)) (st_sto rfl rfl sz3 ?_)
    refine st_nil (nx_kp [0, 1, 5, 6] rfl (nx_then (cd_seq (cd_region (st_v (v_move rfl) (st_v (v_move rfl) (st_v (v_move rfl) (st_v (v_add rfl rfl (by unfold I64 at *; omega)) (st_v (v_nilCheck rfl) (st_v (v_fieldAddr rfl fa52_7 rfl) (st_sto rfl rfl sz3 ?_)))))))))))
    refine st_nil (nx_kp [0, 1, 5, 6] rfl (nx_then (cd_seq (cd_seq (cd_region (st_v (v_move rfl) (st_v (v_move rfl) ?_)))))))
    rw [arr_set' (by omega)]
    refine st_clr rfl rfl en107 rfl (isFormer_ct (m := { m with old := m.old + m.size a }) ⟨h1, h2, h3, h4, z.n, z.w⟩) ?_
    refine st_nil (nx_kp [0, 5, 6, 65] rfl (nx_then (cd_cond rfl (fun hf => ?_) (fun hf => ?_))))
    · skip
      rw [if_pos (show m.isF a = true from hf)]
      refine cd_region (st_v (v_move rfl) (st_v (v_move rfl) (st_v (v_nilCheck rfl) (st_v (v_fieldAddr rfl fa52_11 rfl) (st_v (v_ld rfl ld3) ?_)))))
      refine st_v (v_move rfl) (st_v (v_sub rfl rfl (by unfold I64 at *; omega)) (st_v (v_nilCheck rfl) (st_v (v_fieldAddr rfl fa52_11 rfl) (st_sto rfl rfl sz3 ?_))))
      refine st_nil (nx_kp [6] rfl (nx_then (cd_seq (cd_region (st_v (v_move rfl) (st_v (v_assign rfl) (st_nil (nx_kp [4] rfl (nx_then (cd_ret ?_))))))))))
      exact xt_rt rfl ⟨rfl, rfl⟩
    · skip
      rw [if_neg (show ¬ m.isF a = true by rw [show m.isF a = false from hf]; simp)]
      refine cd_skip (xt_then (cd_seq (cd_region (st_v (v_move rfl) (st_v (v_assign rfl) (st_nil (nx_kp [4] rfl (nx_then (cd_ret ?_)))))))))
      exact xt_rt rfl ⟨rfl, rfl⟩
/-- What a forwarded word must be. -/
def Ours (m : AM) (N rs lf : List Int) (y : Bool) (v : Int) : Prop := m.ours y v = true → if y then v ∈ N ∧ v ∈ rs else v ∈ lf
set_option maxRecDepth 100000 in
theorem rfwd_ct (hS : Shp S L.vs m.sh) (h : Gd m ly ln lf N rl sp rs) {y : Bool} {w : Int} (hv : Ours m N rs lf y w) :
    Ct Try.prog 97 #[.pointer (some ⟨L.hb, 0, none⟩), .int .i64 w, .bool y] (rSH L m S) fun u h' => u = .int .i64 (m.fwd y w).1 ∧ h' = rSH L (m.fwd y w).2 S := by
  have z := h.sz
  unfold Ours at hv
  unfold AM.fwd
  have hmem : m.ours y w = true → Ob m w ∧ (m.moved w = 0 → m.old + m.size w ≤ m.base + m.H ∧ (w + m.size w ≤ m.old ∨ m.old + m.size w ≤ w)) := fun ho => by
    have := hv ho
    cases y with
    | true =>
      simp only [if_true] at this
      refine ⟨ob_y h (h.NY w this.1), fun h0 => ?_⟩
      have hf := h.nfit this.2 h0
      exact ⟨hf, h.outside hf (.inl (h.NY w this.1))⟩
    | false =>
      simp only [Bool.false_eq_true, if_false] at this
      refine ⟨ob_f h this, fun h0 => ?_⟩
      have hf := h.hfit this h0
      exact ⟨hf, h.outside hf (.inr (.inr this))⟩
  have hpos := h.mpos w
  unfold rSH
  refine ct_of (n := 36) Try.func97 rfl rfl (len rfl) fun hr w0 => ?_
  refine cd_seq (cd_region (st_v (v_assign rfl) (st_nil (nx_then (cd_seq (cd_region (st_v (v_move rfl) (st_v (v_move rfl) (st_clr rfl rfl en107 rfl (isFormer_ct z) ?_)))))))))
  refine st_v (v_assign rfl) (st_nil (nx_kp [0, 1, 2, 6, 7] rfl (nx_then (cd_seq (cd_seq (cd_region (st_v (v_move rfl) (st_nil (nx_kp [0, 1, 6, 7, 11] rfl (nx_then ?_))))))))))
  cases y with
  | false =>
    refine cd_false rfl ?_
    refine cd_skip (xt_then (cd_seq (cd_seq (cd_region (st_v (v_move rfl) (st_v (v_not rfl) (st_nil (nx_kp [0, 1, 6, 16] rfl (nx_then (cd_cond rfl (fun hc => ?_) (fun hc => ?_)))))))))))
    · skip
      rw [if_neg (show ¬ m.ours false w = true by simpa [AM.ours] using hc)]
      refine cd_seq (cd_region (st_v (v_move rfl) (st_v (v_assign rfl) (st_nil (nx_kp [0, 1, 6] rfl (nx_then (cd_ret (xt_ret_then ?_))))))))
      exact xt_rt rfl ⟨rfl, rfl⟩
    · skip
      have ho : m.ours false w = true := by simpa [AM.ours] using hc
      obtain ⟨o, hfit⟩ := hmem ho
      have g1 := o.t0; have g2 := o.t1; have hrn : rn m = (m.Y + 2 * m.H + 1).toNat := rfl
      have hrd : Rd (oR L m) ⟨L.ob, w.toNat, none⟩ (.int .i64 (m.moved w)) := a_rd (by omega) (by omega)
      rw [if_pos ho]
      refine cd_skip (xt_then (cd_seq (cd_seq (cd_region (st_v (v_move rfl) (st_v (v_nilCheck rfl) (st_v (v_fieldAddr rfl fa52_5 rfl) (st_v (v_ld rfl ld34) ?_))))))))
      refine st_v (v_move rfl) (st_v (v_idx w.toNat rfl rfl sl34 (by omega) (by omega)) (st_v (v_ld rfl ld3) ?_))
      refine st_v (v_gtr rfl rfl) (st_nil (nx_kp [0, 1, 6, 25] rfl (nx_then (cd_cond rfl (fun hd => ?_) (fun hd => ?_)))))
      · skip
        rw [if_pos (by simpa using hd)]
        refine cd_seq (cd_region (st_v (v_move rfl) (st_v (v_nilCheck rfl) (st_v (v_fieldAddr rfl fa52_5 rfl) (st_v (v_ld rfl ld34) ?_)))))
        refine st_v (v_move rfl) (st_v (v_idx w.toNat rfl rfl sl34 (by omega) (by omega)) (st_v (v_ld rfl ld3) ?_))
        refine st_v (v_assign rfl) (st_nil (nx_kp [0, 1, 6] rfl (nx_then (cd_ret (xt_ret_then ?_)))))
        exact xt_rt rfl ⟨rfl, rfl⟩
      · skip
        have h0 : m.moved w = 0 := by by_cases h0 : m.moved w = 0
                                      · exact h0
                                      · have := hpos h0; simp at hd; omega
        rw [if_neg (by omega)]
        refine cd_skip (xt_then (cd_seq (cd_region (st_v (v_move rfl) (st_v (v_move rfl) (st_cl rfl rfl en118 rfl (rmove_ct hS h o (hfit h0).1 (hfit h0).2) ?_))))))
        rintro v' h' ⟨rfl, rfl⟩
        unfold rSH
        simp only [List.cons_append, List.nil_append]
        refine st_v (v_assign rfl) (st_nil (nx_kp [6] rfl (nx_then (cd_ret ?_))))
        exact xt_rt rfl ⟨rfl, rfl⟩
  | true =>
    refine cd_true rfl ?_
    refine cd_region (st_v (v_move rfl) (st_v (v_move rfl) (st_clr rfl rfl en99 rfl (isYoung_ct) ?_)))
    refine st_v (v_assign rfl) (st_nil (nx_kp [0, 1, 6, 7] rfl (nx_then (cd_seq (cd_seq (cd_region (st_v (v_move rfl) (st_v (v_not rfl) (st_nil (nx_kp [0, 1, 6, 16] rfl (nx_then (cd_cond rfl (fun hc => ?_) (fun hc => ?_)))))))))))))
    · skip
      rw [if_neg (show ¬ m.ours true w = true by simpa [AM.ours] using hc)]
      refine cd_seq (cd_region (st_v (v_move rfl) (st_v (v_assign rfl) (st_nil (nx_kp [0, 1, 6] rfl (nx_then (cd_ret (xt_ret_then ?_))))))))
      exact xt_rt rfl ⟨rfl, rfl⟩
    · skip
      have ho : m.ours true w = true := by simpa [AM.ours] using hc
      obtain ⟨o, hfit⟩ := hmem ho
      have g1 := o.t0; have g2 := o.t1; have hrn : rn m = (m.Y + 2 * m.H + 1).toNat := rfl
      have hrd : Rd (oR L m) ⟨L.ob, w.toNat, none⟩ (.int .i64 (m.moved w)) := a_rd (by omega) (by omega)
      rw [if_pos ho]
      refine cd_skip (xt_then (cd_seq (cd_seq (cd_region (st_v (v_move rfl) (st_v (v_nilCheck rfl) (st_v (v_fieldAddr rfl fa52_5 rfl) (st_v (v_ld rfl ld34) ?_))))))))
      refine st_v (v_move rfl) (st_v (v_idx w.toNat rfl rfl sl34 (by omega) (by omega)) (st_v (v_ld rfl ld3) ?_))
      refine st_v (v_gtr rfl rfl) (st_nil (nx_kp [0, 1, 6, 25] rfl (nx_then (cd_cond rfl (fun hd => ?_) (fun hd => ?_)))))
      · skip
        rw [if_pos (by simpa using hd)]
        refine cd_seq (cd_region (st_v (v_move rfl) (st_v (v_nilCheck rfl) (st_v (v_fieldAddr rfl fa52_5 rfl) (st_v (v_ld rfl ld34) ?_)))))
        refine st_v (v_move rfl) (st_v (v_idx w.toNat rfl rfl sl34 (by omega) (by omega)) (st_v (v_ld rfl ld3) ?_))
        refine st_v (v_assign rfl) (st_nil (nx_kp [0, 1, 6] rfl (nx_then (cd_ret (xt_ret_then ?_)))))
        exact xt_rt rfl ⟨rfl, rfl⟩
      · skip
        have h0 : m.moved w = 0 := by by_cases h0 : m.moved w = 0
                                      · exact h0
                                      · have := hpos h0; simp at hd; omega
        rw [if_neg (by omega)]
        refine cd_skip (xt_then (cd_seq (cd_region (st_v (v_move rfl) (st_v (v_move rfl) (st_cl rfl rfl en118 rfl (rmove_ct hS h o (hfit h0).1 (hfit h0).2) ?_))))))
        rintro v' h' ⟨rfl, rfl⟩
        unfold rSH
        simp only [List.cons_append, List.nil_append]
        refine st_v (v_assign rfl) (st_nil (nx_kp [6] rfl (nx_then (cd_ret ?_))))
        exact xt_rt rfl ⟨rfl, rfl⟩
end
end Go.Proofs.Ytmhmpjgkkpbnnaa
namespace Go.Proofs.Ytmhmpjgkkpbnnaa
open Go.Ck Fx Go.Hm Go.Hm.AM
attribute [local irreducible] St Cd Xt Nx DrL LsW
section
variable {L : RL} {m : AM} {S R : Res} {t k a : Int} {ly ln lf N rl rs : List Int} {sp : Int} {v : Value} {roots : List Int} {φ : Int → Option Nat} {A : Store}
theorem rn_fwd (m : AM) (y : Bool) (w : Int) : rn (m.fwd y w).2 = rn m := by unfold AM.fwd; split <;> (try split) <;> rfl
/-- A field of an object is forwarded as it must be. -/
theorem Good.ours_f (h : AM.Good m ly ln lf φ A) {t : Int} (ht : t ∈ ly ∨ t ∈ ln) {p : Int} (hp : p ∈ m.pl t) : Ours m ly [] lf false (m.word p) := fun ho => by
  have hF : m.isF (m.word p) = true := ho
  simp only [Bool.false_eq_true, if_false]
  rcases ht with ht | ht
  · rcases h.g.wy t ht _ hp with g | g | g
    · rw [h.g.isFn (.inl g)] at hF; cases hF
    · rw [h.g.isFn (.inr (.inl g))] at hF; cases hF
    · rw [h.g.isFn (.inr (.inr g))] at hF; cases hF
  · rcases h.g.wo t ht _ hp with g | g | g | g
    · rw [h.g.isFn (.inl g)] at hF; cases hF
    · rw [h.g.isFn (.inr (.inr g))] at hF; cases hF
    · rw [h.g.isFn (.inr (.inl g.1))] at hF; cases hF
    · exact g.1
theorem ob_of (h : Gd m ly ln lf N rl sp rs) (ht : t ∈ ly ∨ t ∈ ln) : Ob m t := ht.elim (ob_y h) (ob_n h)
set_option maxRecDepth 100000 in
theorem rget_ct (hS : Shp S L.vs m.sh) (h : AM.Good m ly ln lf φ A) (t k : Int) :
    Ct Try.prog 52 #[.pointer (some ⟨L.hb, 0, none⟩), .int .i64 t, .int .i64 k] (rSH L m S) fun u h' => u = .tuple #[.int .i64 (m.get t k).1, .int .i64 (m.get t k).2.1] ∧ h' = rSH L (m.get t k).2.2 S := by
  have z := h.g.sz
  have h1 := z.Y0; have h2 := z.Y1; have h3 := z.H0; have h4 := z.H1
  unfold rSH AM.get
  refine ct_of (n := 59) Try.func52 rfl rfl (len rfl) fun hr w0 => ?_
  refine cd_seq (cd_region (st_v (v_assign rfl) (st_v (v_assign rfl) (st_nil (nx_then (cd_seq (cd_region (st_v (v_move rfl) (st_v (v_move rfl) (st_v (v_move rfl) (st_clr rfl rfl en96 rfl (rfield_ct hS h.g) ?_)))))))))))
  refine st_v (v_assign rfl) (st_nil (nx_kp [0, 1, 2, 6, 7, 8] rfl (nx_then (cd_seq (cd_seq (cd_region (st_v (v_move rfl) (st_v (v_neq rfl rfl) (st_nil (nx_kp [0, 1, 2, 6, 7, 8, 14] rfl (nx_then (cd_cond rfl (fun hc => ?_) (fun hc => ?_)))))))))))))
  · skip
    rw [if_pos (show m.fe t k ≠ 0 by simpa using hc)]
    refine cd_seq (cd_region (st_v (v_move rfl) (st_v (v_assign rfl) (st_v (v_assign rfl) (st_nil (nx_kp [0, 1, 2, 6, 7] rfl (nx_then (cd_ret (xt_ret_then ?_)))))))))
    exact xt_rt rfl ⟨rfl, rfl⟩
  · skip
    have he : m.fe t k = 0 := by simpa using hc
    rw [if_neg (show ¬ m.fe t k ≠ 0 by rw [he]; simp)]
    obtain ⟨ht, j, hkj, hj⟩ := h.g.field he
    subst hkj
    have o := ob_of h.g ht
    have g1 := o.t0; have g2 := o.t1; have g5 := o.h2; have hlen := o.len z
    have hsz : m.size t = 1 + (m.row t).length := rfl
    have hrn : rn m = (m.Y + 2 * m.H + 1).toNat := rfl
    obtain ⟨u, hu, hct⟩ := rshape_ct hS z o
    obtain ⟨b, q, cp, hue, hrd⟩ := hu.at hj
    have href : (m.row t)[j] = m.ref t j := by unfold AM.ref; rw [Int.toNat_natCast, List.getD_eq_getElem?_getD, List.getElem?_eq_getElem hj]; rfl
    rw [href] at hrd
    have hrd1 : Rd (wR L m) ⟨L.wb, (t + 1 + j).toNat, none⟩ (.int .i64 (m.word (t + 1 + j))) := a_rd (by omega) (by omega)
    refine cd_skip (xt_then (cd_seq (cd_seq (cd_region (st_v (v_move rfl) (st_v (v_move rfl) (st_clr rfl rfl en64 rfl (hct) ?_)))))))
    refine st_v (v_move rfl) (st_v (v_ixo j (congrArg some hue) rfl sl73 rfl hj) (st_v (v_ld rfl ld4) ?_))
    refine st_v (v_move rfl) ?_
    cases hr : m.ref t j
    · skip
      rw [hr] at hrd
      refine st_sk rfl rfl rfl ?_
      refine st_sk rfl rfl rfl ?_
      refine st_sk rfl rfl rfl ?_
      refine st_sk rfl rfl rfl ?_
      refine st_v (v_pick_false rfl rfl) (st_nil (nx_kp [0, 1, 2, 6, 7, 27] rfl (nx_then (cd_false rfl ?_))))
      refine cd_skip (xt_then (cd_seq (cd_region (st_v (v_move rfl) (st_v (v_nilCheck rfl) (st_v (v_fieldAddr rfl fa52_3 rfl) (st_v (v_ld rfl ld34) ?_)))))))
      refine st_v (v_move rfl) (st_v (v_add rfl rfl (by unfold I64 at *; omega)) (st_v (v_move rfl) (st_v (v_add rfl rfl (by unfold I64 at *; omega)) (st_v (v_idx (t + 1 + j).toNat rfl rfl sl34 (by omega) (by omega)) (st_v (v_ld rfl ld3) ?_)))))
      refine st_v (v_assign rfl) (st_v (v_assign rfl) (st_nil (nx_kp [6, 7] rfl (nx_then (cd_ret ?_)))))
      exact xt_rt rfl ⟨rfl, rfl⟩
    · skip
      refine st_vg rfl rfl (v_move rfl) (st_vg rfl rfl (v_nilCheck rfl) (st_vg rfl rfl (v_fieldAddr rfl fa52_9 rfl) (st_vg rfl rfl (v_ld rfl ld4) ?_)))
      refine st_v (v_pick_true rfl rfl) (st_nil (nx_kp [0, 1, 2, 6, 7, 27] rfl (nx_then (cd_cond rfl (fun hb => ?_) (fun hb => ?_)))))
      · skip
        rw [hb]
        refine cd_drawh (ork [(0, 2), (1, 2), (2, 2), (4, 2), (5, 2), (6, 2), (7, 2), (8, 2), (9, 2), (10, 2), (11, 2), (12, 1), (13, 2), (14, 2), (15, 2), (16, 2), (17, 2), (18, 1)] (.two 3 (ork [(19, 0), (20, 2), (21, 0)] .nil) 19 (ork [(3, 0), (20, 2), (21, 0)] .nil))) (fun i => !(Nat.beq i 19 || Nat.beq i 21)) mixed (by kernel_rfl) ?_
        refine dp_v rfl (v_move rfl) (dp_v rfl (v_nilCheck rfl) (dp_v rfl (v_fieldAddr rfl fa52_3 rfl) (dp_v rfl (v_move rfl) (dp_v rfl (v_add rfl rfl (by unfold I64 at *; omega)) (dp_v rfl (v_move rfl) (dp_v rfl (v_add rfl rfl (by unfold I64 at *; omega)) (dp_v rfl (v_move rfl) (dp_v rfl (v_move rfl) (dp_v rfl (v_nilCheck rfl) (dp_v rfl (v_fieldAddr rfl fa52_3 rfl) (dr_v rfl (v_ld rfl ld34) ?_)))))))))))
        refine dp_v rfl (v_move rfl) (dp_v rfl (v_add rfl rfl (by unfold I64 at *; omega)) (dp_v rfl (v_move rfl) (dp_v rfl (v_add rfl rfl (by unfold I64 at *; omega)) (dp_v rfl (v_idx (t + 1 + j).toNat rfl rfl sl34 (by omega) (by omega)) (dr_v rfl (v_ld rfl ld3) ?_)))))
        refine dr_two rfl rfl ?_ ?_
        · skip
          refine st_v (v_ld rfl ld34) (dr_nx ?_)
          refine dr_eff rfl (st_cl rfl rfl en97 rfl (rfwd_ct hS h.g (Good.ours_f h ht (mem_pl.2 ⟨j, (ref_iff hj).1 hr, rfl⟩))) ?_)
          rintro v' h' ⟨rfl, rfl⟩
          unfold rSH
          simp only [List.cons_append, List.nil_append]
          have hrn1 := rn_fwd m false (m.word (t + 1 + j))
          have hal := arr_len (rn (m.fwd false (m.word (t + 1 + j))).2) (m.fwd false (m.word (t + 1 + j))).2.word
          refine dr_nx ?_
          refine dp_v rfl (v_idx (t + 1 + j).toNat rfl rfl sl34 (by omega) (by omega)) (dr_eff rfl (st_sto rfl rfl sz3 (dr_nx ?_)))
          refine dr_nil (nx_kp [0, 1, 2, 6, 7] rfl (nx_then (cd_seq (cd_region (st_v (v_move rfl) (st_v (v_nilCheck rfl) (st_v (v_fieldAddr rfl fa52_3 rfl) (st_v (v_ld rfl ld34) ?_))))))))
          refine st_v (v_move rfl) (st_v (v_add rfl rfl (by unfold I64 at *; omega)) (st_v (v_move rfl) (st_v (v_add rfl rfl (by unfold I64 at *; omega)) ?_)))
          rw [arr_set' (by omega)]
          have hrd2 : Rd (aR L.wb (m.fwd false (m.word (t + 1 + j))).2 (fup (m.fwd false (m.word (t + 1 + j))).2.word (t + 1 + j) (m.fwd false (m.word (t + 1 + j))).1)) ⟨L.wb, (t + 1 + j).toNat, none⟩ (.int .i64 (fup (m.fwd false (m.word (t + 1 + j))).2.word (t + 1 + j) (m.fwd false (m.word (t + 1 + j))).1 (t + 1 + j))) := by
            unfold aR; rw [hrn1]; exact a_rd (m := m) (by omega) (by omega)
          refine st_v (v_idx (t + 1 + j).toNat rfl rfl sl34 (by omega) (by omega)) (st_v (v_ld rfl ld3) ?_)
          refine st_v (v_assign rfl) (st_v (v_assign rfl) (st_nil (nx_kp [6, 7] rfl (nx_then (cd_ret ?_)))))
          exact xt_rt rfl ⟨rfl, rfl⟩
        · skip
          refine st_cl rfl rfl en97 rfl (rfwd_ct hS h.g (Good.ours_f h ht (mem_pl.2 ⟨j, (ref_iff hj).1 hr, rfl⟩))) ?_
          rintro v' h' ⟨rfl, rfl⟩
          unfold rSH
          simp only [List.cons_append, List.nil_append]
          have hrn1 := rn_fwd m false (m.word (t + 1 + j))
          have hal := arr_len (rn (m.fwd false (m.word (t + 1 + j))).2) (m.fwd false (m.word (t + 1 + j))).2.word
          refine dr_nx ?_
          refine dr_eff rfl (st_v (v_ld rfl ld34) (dr_nx ?_))
          refine dp_v rfl (v_idx (t + 1 + j).toNat rfl rfl sl34 (by omega) (by omega)) (dr_eff rfl (st_sto rfl rfl sz3 (dr_nx ?_)))
          refine dr_nil (nx_kp [0, 1, 2, 6, 7] rfl (nx_then (cd_seq (cd_region (st_v (v_move rfl) (st_v (v_nilCheck rfl) (st_v (v_fieldAddr rfl fa52_3 rfl) (st_v (v_ld rfl ld34) ?_))))))))
          refine st_v (v_move rfl) (st_v (v_add rfl rfl (by unfold I64 at *; omega)) (st_v (v_move rfl) (st_v (v_add rfl rfl (by unfold I64 at *; omega)) ?_)))
          rw [arr_set' (by omega)]
          have hrd2 : Rd (aR L.wb (m.fwd false (m.word (t + 1 + j))).2 (fup (m.fwd false (m.word (t + 1 + j))).2.word (t + 1 + j) (m.fwd false (m.word (t + 1 + j))).1)) ⟨L.wb, (t + 1 + j).toNat, none⟩ (.int .i64 (fup (m.fwd false (m.word (t + 1 + j))).2.word (t + 1 + j) (m.fwd false (m.word (t + 1 + j))).1 (t + 1 + j))) := by
            unfold aR; rw [hrn1]; exact a_rd (m := m) (by omega) (by omega)
          refine st_v (v_idx (t + 1 + j).toNat rfl rfl sl34 (by omega) (by omega)) (st_v (v_ld rfl ld3) ?_)
          refine st_v (v_assign rfl) (st_v (v_assign rfl) (st_nil (nx_kp [6, 7] rfl (nx_then (cd_ret ?_)))))
          exact xt_rt rfl ⟨rfl, rfl⟩
      · skip
        rw [hb]
        refine cd_skip (xt_then (cd_seq (cd_region (st_v (v_move rfl) (st_v (v_nilCheck rfl) (st_v (v_fieldAddr rfl fa52_3 rfl) (st_v (v_ld rfl ld34) ?_)))))))
        refine st_v (v_move rfl) (st_v (v_add rfl rfl (by unfold I64 at *; omega)) (st_v (v_move rfl) (st_v (v_add rfl rfl (by unfold I64 at *; omega)) (st_v (v_idx (t + 1 + j).toNat rfl rfl sl34 (by omega) (by omega)) (st_v (v_ld rfl ld3) ?_)))))
        refine st_v (v_assign rfl) (st_v (v_assign rfl) (st_nil (nx_kp [6, 7] rfl (nx_then (cd_ret ?_)))))
        exact xt_rt rfl ⟨rfl, rfl⟩
end
end Go.Proofs.Ytmhmpjgkkpbnnaa
namespace Go.Ck
open Go Go.RowKit
theorem LdN.ofArr {P : Program} {T E : TypeId} {n k : Nat} (h : P.underlying T = some (.array k E)) (hs : Sz P T n) : LdN P T n := fun w b o vs hl hv => by
  have hi : (isAgg T).run P w = .ok true w := by unfold isAgg; simp only [Sem.run_bind, run_underlying h, Result.andThen_ok]; rfl
  have key : ∀ (k : Nat) (m : Nat) (acc : Array Value), m + k = n → acc = (vs.take m).toArray → (loadCellsFrom ⟨b, o, none⟩ m k acc).run P w = .ok vs.toArray w := by
    intro k
    induction k with
    | zero =>
      intro m acc hm ha
      have : m = n := by omega
      subst this
      simp [loadCellsFrom, ha, List.take_of_length_le (Nat.le_of_eq hl)]
    | succ k ih =>
      intro m acc hm ha
      have hmn : m < n := by omega
      have hc := hv m hmn
      have hlt : m < vs.length := by omega
      rw [List.getElem?_eq_getElem hlt] at hc
      unfold loadCellsFrom
      simp only [Sem.run_bind, run_load, Addr.add_lit, hc, Result.andThen_ok]
      refine ih (m + 1) _ (by omega) ?_
      rw [ha, List.take_succ_eq_append_getElem hlt]
      simp
  unfold Instr.loadAt loadVar loadCells
  simp only [Instr.sureAddr, Sem.run_bind, Sem.run_pure, Result.andThen_ok, hi, if_true, hs w, key n 0 #[] (by omega) (by simp)]
theorem EqI.ofArr2 {P : Program} {T E : TypeId} {i : TypeInfo} (h1 : P.underlying T = some (.array 2 E)) (h2 : isI64 (P.underlying E) = true) (h3 : P.eqGuardType P.depth T = false) (hi : P.info? E = some i) (hc : P.cellsOf E = 1) : EqI P T 2 := by
  refine ⟨h3, fun xs ys w hx hy => ?_⟩
  have hu : P.underlying E = some (.int .i64) := by
    unfold isI64 at h2; split at h2
    · assumption
    · cases h2
  match xs, ys, hx, hy with
  | [a, b], [x, y], _, _ =>
    rw [run_equalIn_array (w := w) (d := 9999) (xs := (ints [a, b]).toArray) (ys := (ints [x, y]).toArray) h1 hi, hc]
    rw [show List.range 2 = [0, 1] from rfl]
    have q : ∀ (a b : Int) (w : World), (Op.equalIn 9999 E (.int .i64 a) (.int .i64 b)).run P w = .ok (a == b) w := fun a b w => run_equalIn_int w 9998 E .i64 .i64 a b hu
    have p0 := fun (a b : Int) (w : World) => run_part_int (T := E) h2 (xs := [a, b]) (i := 0) (x := a) rfl w
    have p1 := fun (a b : Int) (w : World) => run_part_int (T := E) h2 (xs := [a, b]) (i := 1) (x := b) rfl w
    simp only [Op.eqItems, Sem.run_bind, Nat.mul_one, p0, p1, q, Result.andThen_ok]
    by_cases ha : a = x
    · by_cases hb : b = y
      · simp [ha, hb, p1, q]
      · simp [ha, hb, p1, q]
    · simp [ha]
end Go.Ck
namespace Go.Proofs.Ytmhmpjgkkpbnnaa
open Go.Ck Fx Go.Hm Go.Hm.AM
attribute [local irreducible] St Cd Xt Nx DrL LsW
theorem ld161 : LdN Try.prog 161 2 := LdN.ofArr Try.underlying161 sz161
theorem eqi161 : EqI Try.prog 161 2 := by
  obtain ⟨i, hi⟩ : ∃ i, Try.prog.info? 3 = some i := Option.isSome_iff_exists.1 (by kernel_rfl)
  exact EqI.ofArr2 Try.underlying161 (by kernel_rfl) (by kernel_rfl) hi (by kernel_rfl)
end Go.Proofs.Ytmhmpjgkkpbnnaa
namespace Go.Proofs.Ytmhmpjgkkpbnnaa
open Go.Ck Fx Go.Hm Go.Hm.AM
attribute [local irreducible] St Cd Xt Nx DrL LsW
section
variable {L : RL} {m : AM} {S R : Res} {t k a : Int} {ly ln lf N rl rs : List Int} {sp : Int} {v : Value} {roots : List Int} {φ : Int → Option Nat} {A : Store}
theorem rem_rds {v : Value} {l : List (Int × Int)} {b m cp k : Nat} {p : Int × Int} (hv : v = .slice (some ⟨b, 0, none⟩) m cp) (hk : l[k]? = some p) : Rds (vec v 161 2 l.length (kc l)) b (k * 2) (ints [p.1, p.2]) := fun i hi => by
  obtain ⟨h1, h2⟩ := kc_get hk
  match i, hi with
  | 0, _ => exact rd_vec hv h1
  | 1, _ => exact rd_vec hv h2
  | i + 2, hi => simp [ints] at hi; omega
/-- A field that is remembered. -/
def AM.remd (m : AM) (t k : Int) : AM := if m.rem.contains (t, k) then m else { m with rem := m.rem ++ [(t, k)] }
set_option maxRecDepth 100000 in
theorem remember_ct (hl : m.rem.length ≤ 1000000) (t k : Int) : Ct Try.prog 100 #[.pointer (some ⟨L.hb, 0, none⟩), .int .i64 t, .int .i64 k] [hR L m, kR L m] fun u h' => u = .tuple #[] ∧ ∃ vk, h' = [hR { L with vk := vk } (AM.remd m t k), kR { L with vk := vk } (AM.remd m t k)] := by
  unfold AM.remd
  refine ct_of (n := 39) Try.func100 rfl rfl (len rfl) fun hr w0 => ?_
  refine cd_vecshape (v := L.vk) (by unfold kR; repeat (first | exact Sel.here | apply Sel.there)) fun ka kcp hkv hka => ?_
  refine cd_seq (cd_seq (cd_region (st_v (v_assign rfl) (st_nil (nx_then (cd_block (cd_loop (σ := Nat) (fun i => [(0, .pointer (some ⟨L.hb, 0, none⟩)), (1, .int .i64 t), (2, .int .i64 k), (6, .int .i64 (i : Nat))]) (fun _ => [hR L m, kR L m] ++ hr) (fun i => i ≤ m.rem.length ∧ (m.rem.take i).contains (t, k) = false) (fun i => m.rem.length - i) 0 ⟨Nat.zero_le _, rfl⟩ ⟨rfl, rfl, rfl, rfl, trivial⟩ (Sub.refl _) ?_)))))))
  rintro i ⟨hi, hne⟩
  simp only [List.cons_append, List.nil_append]
  refine cd_seq (cd_seq (cd_region (st_v (v_move rfl) (st_v (v_move rfl) (st_v (v_nilCheck rfl) (st_v (v_fieldAddr rfl fa52_12 rfl) (st_v (v_ld rfl ld50) ?_)))))))
  refine st_v (v_len (congrArg some hkv) Try.underlying50) (st_v (v_lss rfl rfl) (st_nil (nx_kp [0, 1, 2, 6, 13] rfl (nx_then (cd_cond rfl (fun hc => ?_) (fun hc => ?_))))))
  · skip
    have hlt : i < m.rem.length := by simpa using hc
    obtain ⟨b, rfl⟩ := hka (by omega)
    have hp : m.rem[i]? = some m.rem[i] := List.getElem?_eq_getElem hlt
    have htk : (m.rem.take (i + 1)).contains (t, k) = ((t, k) == m.rem[i]) := by
      rw [List.take_succ_eq_append_getElem hlt]
      simp only [List.contains_append, hne, Bool.false_or, List.contains_cons, List.contains_nil, Bool.or_false]
    refine cd_skip (xt_then (cd_seq (cd_block (cd_seq (cd_region (st_v (v_move rfl) (st_v (v_nilCheck rfl) (st_v (v_fieldAddr rfl fa52_12 rfl) (st_v (v_ld rfl ld50) ?_)))))))))
    refine st_v (v_move rfl) (st_v (v_indexAddr (congrArg some hkv) rfl sl50 rfl hlt (Nat.zero_add _)) (st_v (v_loadR (r := kR L m) rfl ld161 rfl (by repeat (first | exact Sel.here | apply Sel.there)) (rem_rds hkv hp)) ?_))
    refine st_v (v_move rfl) (st_v (v_move rfl) (st_v (v_build (cells := [.int .i64 t, .int .i64 k]) rfl (fun _ => by kernel_rfl)) ?_))
    refine st_v (v_eql_ints (xs := [m.rem[i].1, m.rem[i].2]) (ys := [t, k]) eqi161 rfl rfl rfl rfl) (st_nil (nx_kp [0, 1, 2, 6, 26] rfl (nx_then (cd_cond rfl (fun hd => ?_) (fun hd => ?_)))))
    · skip
      have he : m.rem[i] = (t, k) := by simp at hd; exact Prod.ext hd.1 hd.2
      have hcn : m.rem.contains (t, k) = true := by rw [List.contains_iff_mem, ← he]; exact List.getElem_mem hlt
      rw [if_pos hcn]
      refine cd_ret (xt_ret_block (xt_ret_then (xt_ret_then (xt_ret_block (xt_ret_then ?_)))))
      exact xt_rt rfl ⟨rfl, L.vk, rfl⟩
    · skip
      refine cd_skip (xt_normal_block (xt_then (cd_region (st_v (v_move rfl) (st_v (v_add rfl rfl (by unfold I64 at *; omega)) (st_v (v_assign rfl) (st_nil (nx_kp [0, 1, 2, 6] rfl (nx_xt ?_)))))))))
      refine xt_ag (i + 1) ⟨hlt, by rw [htk]; exact beq_eq_false_iff_ne.2 fun e => by rw [← e] at hd; simp at hd⟩ (by omega)
  · skip
    have hge : i = m.rem.length := by have : ¬ i < m.rem.length := by simpa using hc
                                      omega
    rw [hge, List.take_length] at hne
    rw [if_neg (by rw [hne]; simp)]
    refine cd_exit (xt_exit_then (xt_exit_then (xt_exit_block (xt_then (cd_region (st_v (v_move rfl) (st_v (v_move rfl) (st_v (v_nilCheck rfl) (st_v (v_fieldAddr rfl fa52_12 rfl) (st_v (v_ld rfl ld50) ?_))))))))))
    refine st_v (v_move rfl) (st_v (v_move rfl) (st_v (v_build (cells := [.int .i64 t, .int .i64 k]) rfl (fun _ => by kernel_rfl)) ?_))
    refine st_buildSlice (cells := [.int .i64 t, .int .i64 k]) rfl Try.underlying50 inf161 rfl rfl (by kernel_rfl) (ltn rfl) fun b35 => ?_
    refine st_append (news := [.int .i64 t, .int .i64 k]) rfl rfl Try.underlying50 inf161 rfl (ltn rfl) (show Sel _ (vec L.vk 161 2 m.rem.length (kc m.rem)) _ by repeat (first | exact Sel.here | apply Sel.there)) rfl (fun j u hu => by repeat (first | exact at_here (rd_cl (by simpa using hu)) | apply at_there)) (ones rfl) (by omega) (by omega) (ltn rfl) fun vk hvk hv1 => ?_
    have ek : kR { L with vk := vk } { m with rem := m.rem ++ [(t, k)] } = vec vk 161 2 (m.rem.length + 1) (kc m.rem ++ [.int .i64 t, .int .i64 k]) := by
      unfold kR; simp [kc]
    refine st_v (v_nilCheck rfl) (st_v (v_fieldAddr rfl fa52_12 rfl) (st_sto rfl rfl sz50 ?_))
    refine st_nil (nx_kp [] rfl (nx_xt ?_))
    exact xt_en rfl ⟨rfl, vk, by rw [ek]⟩
set_option maxRecDepth 100000 in
theorem rset_ct (hS : Shp S L.vs m.sh) (h : AM.Good m ly ln lf φ A) (t k w : Int) :
    Ct Try.prog 53 #[.pointer (some ⟨L.hb, 0, none⟩), .int .i64 t, .int .i64 k, .int .i64 w] (rSH L m S) fun u h' => u = .int .i64 (m.set t k w).1 ∧ ∃ vk, h' = rSH { L with vk := vk } (m.set t k w).2 S := by
  have z := h.g.sz
  have h1 := z.Y0; have h2 := z.Y1; have h3 := z.H0; have h4 := z.H1
  unfold rSH AM.set
  refine ct_of (n := 60) Try.func53 rfl rfl (len rfl) fun hr w0 => ?_
  refine cd_seq (cd_region (st_v (v_assign rfl) (st_nil (nx_then (cd_seq (cd_region (st_v (v_move rfl) (st_v (v_move rfl) (st_v (v_move rfl) (st_clr rfl rfl en96 rfl (rfield_ct hS h.g) ?_))))))))))
  refine st_v (v_assign rfl) (st_nil (nx_kp [0, 1, 2, 3, 8, 9] rfl (nx_then (cd_seq (cd_seq (cd_region (st_v (v_move rfl) (st_v (v_neq rfl rfl) (st_nil (nx_kp [0, 1, 2, 3, 8, 9, 17] rfl (nx_then (cd_cond rfl (fun hc => ?_) (fun hc => ?_)))))))))))))
  · skip
    rw [if_pos (show m.fe t k ≠ 0 by simpa using hc)]
    refine cd_seq (cd_region (st_v (v_move rfl) (st_v (v_assign rfl) (st_nil (nx_kp [0, 1, 2, 3, 8] rfl (nx_then (cd_ret (xt_ret_then ?_))))))))
    exact xt_rt rfl ⟨rfl, L.vk, rfl⟩
  · skip
    have he : m.fe t k = 0 := by simpa using hc
    rw [if_neg (show ¬ m.fe t k ≠ 0 by rw [he]; simp)]
    obtain ⟨ht, j, hkj, hj⟩ := h.g.field he
    subst hkj
    have o := ob_of h.g ht
    have g1 := o.t0; have g2 := o.t1; have g5 := o.h2; have hlen := o.len z
    have hsz : m.size t = 1 + (m.row t).length := rfl
    have hrn : rn m = (m.Y + 2 * m.H + 1).toNat := rfl
    have hal := arr_len (rn m) m.word
    obtain ⟨u, hu, hct⟩ := rshape_ct hS z o
    obtain ⟨b, q, cp, hue, hrd⟩ := hu.at hj
    have href : (m.row t)[j] = m.ref t j := by unfold AM.ref; rw [Int.toNat_natCast, List.getD_eq_getElem?_getD, List.getElem?_eq_getElem hj]; rfl
    rw [href] at hrd
    refine cd_skip (xt_then (cd_seq (cd_region (st_v (v_move rfl) (st_v (v_move rfl) (st_clr rfl rfl en64 rfl (hct) ?_))))))
    refine st_v (v_move rfl) (st_v (v_ixo j (congrArg some hue) rfl sl73 rfl hj) (st_v (v_ld rfl ld4) ?_))
    refine st_v (v_assign rfl) (st_nil (nx_kp [0, 1, 2, 3, 8, 10] rfl (nx_then (cd_seq (cd_seq (cd_region (st_v (v_move rfl) (st_v (v_move rfl) ?_))))))))
    have hrl : (m.put (t + 1 + j) w).rem.length ≤ 1000000 := rem_len (m := m) h
    dsimp only
    cases hr : m.ref t j
    · skip
      rw [hr] at hrd
      refine st_sk rfl rfl rfl ?_
      refine st_sk rfl rfl rfl ?_
      refine st_v (v_pick_false rfl rfl) (st_nil (nx_kp [0, 1, 2, 3, 8, 10, 29] rfl (nx_then (cd_false rfl ?_))))
      refine cd_skip (xt_then (cd_seq (cd_region (st_v (v_move rfl) (st_v (v_nilCheck rfl) (st_v (v_fieldAddr rfl fa52_3 rfl) (st_v (v_ld rfl ld34) ?_)))))))
      refine st_v (v_move rfl) (st_v (v_add rfl rfl (by unfold I64 at *; omega)) (st_v (v_move rfl) (st_v (v_add rfl rfl (by unfold I64 at *; omega)) (st_v (v_move rfl) (st_v (v_idx (t + 1 + j).toNat rfl rfl sl34 (by omega) (by omega)) (st_sto rfl rfl sz3 ?_))))))
      refine st_nil (nx_kp [0, 1, 2, 3, 8, 10] rfl (nx_then (cd_seq (cd_seq (cd_region (st_v (v_move rfl) (st_v (v_move rfl) ?_)))))))
      rw [arr_set' (by omega)]
      refine st_sk rfl rfl rfl ?_
      refine st_sk rfl rfl rfl ?_
      refine st_sk rfl rfl rfl ?_
      refine st_v (v_pick_false rfl rfl) (st_v (v_move rfl) (st_sk rfl rfl rfl ?_))
      refine st_sk rfl rfl rfl ?_
      refine st_sk rfl rfl rfl ?_
      refine st_v (v_pick_false rfl rfl) (st_nil (nx_kp [0, 1, 2, 8, 55] rfl (nx_then (cd_false rfl ?_))))
      refine cd_skip (xt_then (cd_seq (cd_region (st_v (v_assign rfl) (st_nil (nx_kp [8] rfl (nx_then (cd_ret ?_))))))))
      exact xt_rt rfl ⟨rfl, L.vk, rfl⟩
    · skip
      refine st_vg rfl rfl (v_move rfl) (st_vg rfl rfl (v_neq rfl rfl) (st_v (v_pick_true rfl rfl) (st_nil (nx_kp [0, 1, 2, 3, 8, 10, 29] rfl (nx_then (cd_cond rfl (fun hz => ?_) (fun hz => ?_)))))))
      · skip
        refine cd_seq (cd_region (st_v (v_move rfl) (st_v (v_move rfl) (st_clr rfl rfl en95 rfl (rcurrent_ct z) ?_))))
        refine st_v (v_assign rfl) (st_nil (nx_kp [0, 1, 2, 3, 8, 10, 11] rfl (nx_then (cd_seq (cd_region (st_v (v_move rfl) (st_v (v_not rfl) (st_nil (nx_kp [0, 1, 2, 3, 8, 10, 34] rfl (nx_then (cd_cond rfl (fun hcu => ?_) (fun hcu => ?_))))))))))))
        · skip
          rw [if_pos (show (true && w != 0 && !m.cur w) = true by rw [hz, hcu]; rfl)]
          refine cd_seq (cd_region (st_v (v_assign rfl) (st_nil (nx_kp [0, 1, 2, 3, 8, 10] rfl (nx_then (cd_ret (xt_ret_then ?_)))))))
          exact xt_rt rfl ⟨rfl, L.vk, rfl⟩
        · skip
          rw [if_neg (show ¬ (true && w != 0 && !m.cur w) = true by rw [hz, hcu]; simp)]
          refine cd_skip (xt_then (cd_seq (cd_region (st_v (v_move rfl) (st_v (v_nilCheck rfl) (st_v (v_fieldAddr rfl fa52_3 rfl) (st_v (v_ld rfl ld34) ?_)))))))
          refine st_v (v_move rfl) (st_v (v_add rfl rfl (by unfold I64 at *; omega)) (st_v (v_move rfl) (st_v (v_add rfl rfl (by unfold I64 at *; omega)) (st_v (v_move rfl) (st_v (v_idx (t + 1 + j).toNat rfl rfl sl34 (by omega) (by omega)) (st_sto rfl rfl sz3 ?_))))))
          refine st_nil (nx_kp [0, 1, 2, 3, 8, 10] rfl (nx_then (cd_seq (cd_seq (cd_region (st_v (v_move rfl) (st_v (v_move rfl) ?_)))))))
          rw [arr_set' (by omega)]
          refine st_vg rfl rfl (v_move rfl) (st_vg rfl rfl (v_move rfl) (st_clrg rfl rfl rfl rfl en98 rfl (isOld_ct (m := m.put (t + 1 + j) w) ⟨h1, h2, h3, h4, z.n, z.w⟩) ?_))
          rw [show (m.put (t + 1 + j) w).isO t = m.isO t from rfl]
          refine st_v (v_pick_true rfl rfl) (st_v (v_move rfl) ?_)
          cases ho : m.isO t
          · skip
            rw [if_neg (by simp)]
            refine st_sk rfl rfl rfl ?_
            refine st_sk rfl rfl rfl ?_
            refine st_sk rfl rfl rfl ?_
            refine st_v (v_pick_false rfl rfl) (st_nil (nx_kp [0, 1, 2, 8, 55] rfl (nx_then (cd_false rfl ?_))))
            refine cd_skip (xt_then (cd_seq (cd_region (st_v (v_assign rfl) (st_nil (nx_kp [8] rfl (nx_then (cd_ret ?_))))))))
            exact xt_rt rfl ⟨rfl, L.vk, rfl⟩
          · skip
            refine st_vg rfl rfl (v_move rfl) (st_vg rfl rfl (v_move rfl) (st_clrg rfl rfl rfl rfl en99 rfl (isYoung_ct (m := m.put (t + 1 + j) w)) ?_))
            rw [show (m.put (t + 1 + j) w).isY w = m.isY w from rfl]
            refine st_v (v_pick_true rfl rfl) (st_nil (nx_kp [0, 1, 2, 8, 55] rfl (nx_then (cd_cond rfl (fun hy => ?_) (fun hy => ?_)))))
            · skip
              have e : (if (true && true && m.isY w && !m.rem.contains (t, (j : Int))) = true then { m.put (t + 1 + j) w with rem := m.rem ++ [(t, (j : Int))] } else m.put (t + 1 + j) w) = AM.remd (m.put (t + 1 + j) w) t j := by
                rw [hy]; unfold AM.remd
                show _ = if m.rem.contains (t, (j : Int)) = true then _ else _
                cases m.rem.contains (t, (j : Int)) <;> rfl
              refine cd_region (st_v (v_move rfl) (st_v (v_move rfl) (st_v (v_move rfl) (st_cl rfl rfl en100 rfl (remember_ct (m := m.put (t + 1 + j) w) hrl t j) ?_))))
              rintro v' h' ⟨rfl, vk, rfl⟩
              simp only [List.cons_append, List.nil_append]
              refine st_nil (nx_kp [8] rfl (nx_then (cd_seq (cd_region (st_v (v_assign rfl) (st_nil (nx_then (cd_ret ?_))))))))
              rw [e]
              unfold AM.remd
              split
              · skip
                exact xt_rt rfl ⟨rfl, vk, rfl⟩
              · skip
                exact xt_rt rfl ⟨rfl, vk, rfl⟩
            · skip
              rw [if_neg (by rw [hy]; simp)]
              refine cd_skip (xt_then (cd_seq (cd_region (st_v (v_assign rfl) (st_nil (nx_kp [8] rfl (nx_then (cd_ret ?_))))))))
              exact xt_rt rfl ⟨rfl, L.vk, rfl⟩
      · skip
        rw [if_neg (show ¬ (true && w != 0 && !m.cur w) = true by rw [hz]; simp)]
        refine cd_skip (xt_then (cd_seq (cd_region (st_v (v_move rfl) (st_v (v_nilCheck rfl) (st_v (v_fieldAddr rfl fa52_3 rfl) (st_v (v_ld rfl ld34) ?_)))))))
        refine st_v (v_move rfl) (st_v (v_add rfl rfl (by unfold I64 at *; omega)) (st_v (v_move rfl) (st_v (v_add rfl rfl (by unfold I64 at *; omega)) (st_v (v_move rfl) (st_v (v_idx (t + 1 + j).toNat rfl rfl sl34 (by omega) (by omega)) (st_sto rfl rfl sz3 ?_))))))
        refine st_nil (nx_kp [0, 1, 2, 3, 8, 10] rfl (nx_then (cd_seq (cd_seq (cd_region (st_v (v_move rfl) (st_v (v_move rfl) ?_)))))))
        rw [arr_set' (by omega)]
        refine st_vg rfl rfl (v_move rfl) (st_vg rfl rfl (v_move rfl) (st_clrg rfl rfl rfl rfl en98 rfl (isOld_ct (m := m.put (t + 1 + j) w) ⟨h1, h2, h3, h4, z.n, z.w⟩) ?_))
        rw [show (m.put (t + 1 + j) w).isO t = m.isO t from rfl]
        refine st_v (v_pick_true rfl rfl) (st_v (v_move rfl) ?_)
        cases ho : m.isO t
        · skip
          rw [if_neg (by simp)]
          refine st_sk rfl rfl rfl ?_
          refine st_sk rfl rfl rfl ?_
          refine st_sk rfl rfl rfl ?_
          refine st_v (v_pick_false rfl rfl) (st_nil (nx_kp [0, 1, 2, 8, 55] rfl (nx_then (cd_false rfl ?_))))
          refine cd_skip (xt_then (cd_seq (cd_region (st_v (v_assign rfl) (st_nil (nx_kp [8] rfl (nx_then (cd_ret ?_))))))))
          exact xt_rt rfl ⟨rfl, L.vk, rfl⟩
        · skip
          refine st_vg rfl rfl (v_move rfl) (st_vg rfl rfl (v_move rfl) (st_clrg rfl rfl rfl rfl en99 rfl (isYoung_ct (m := m.put (t + 1 + j) w)) ?_))
          rw [show (m.put (t + 1 + j) w).isY w = m.isY w from rfl]
          refine st_v (v_pick_true rfl rfl) (st_nil (nx_kp [0, 1, 2, 8, 55] rfl (nx_then (cd_cond rfl (fun hy => ?_) (fun hy => ?_)))))
          · skip
            have e : (if (true && true && m.isY w && !m.rem.contains (t, (j : Int))) = true then { m.put (t + 1 + j) w with rem := m.rem ++ [(t, (j : Int))] } else m.put (t + 1 + j) w) = AM.remd (m.put (t + 1 + j) w) t j := by
              rw [hy]; unfold AM.remd
              show _ = if m.rem.contains (t, (j : Int)) = true then _ else _
              cases m.rem.contains (t, (j : Int)) <;> rfl
            refine cd_region (st_v (v_move rfl) (st_v (v_move rfl) (st_v (v_move rfl) (st_cl rfl rfl en100 rfl (remember_ct (m := m.put (t + 1 + j) w) hrl t j) ?_))))
            rintro v' h' ⟨rfl, vk, rfl⟩
            simp only [List.cons_append, List.nil_append]
            refine st_nil (nx_kp [8] rfl (nx_then (cd_seq (cd_region (st_v (v_assign rfl) (st_nil (nx_then (cd_ret ?_))))))))
            rw [e]
            unfold AM.remd
            split
            · skip
              exact xt_rt rfl ⟨rfl, vk, rfl⟩
            · skip
              exact xt_rt rfl ⟨rfl, vk, rfl⟩
          · skip
            rw [if_neg (by rw [hy]; simp)]
            refine cd_skip (xt_then (cd_seq (cd_region (st_v (v_assign rfl) (st_nil (nx_kp [8] rfl (nx_then (cd_ret ?_))))))))
            exact xt_rt rfl ⟨rfl, L.vk, rfl⟩
end
end Go.Proofs.Ytmhmpjgkkpbnnaa
namespace Go.Proofs.Ytmhmpjgkkpbnnaa
open Go.Ck Fx Go.Hm Go.Hm.AM
attribute [local irreducible] St Cd Xt Nx DrL LsW
section
variable {L : RL} {m : AM} {S R : Res} {t k a : Int} {ly ln lf N rl rs : List Int} {sp : Int} {v : Value} {roots : List Int} {φ : Int → Option Nat} {A : Store}
set_option maxRecDepth 100000 in
theorem radd_ct {l : List Int} {lv : Value} {t : Int} (hl : l.length ≤ 1000000) : Ct Try.prog 131 #[.pointer (some ⟨L.hb, 0, none⟩), lv, .int .i64 t] [hR L m, vec lv 3 1 l.length (ints l)] fun u h' => h' = [hR L m, vec u 3 1 (m.meet l t).length (ints (m.meet l t))] := by
  unfold AM.meet
  refine ct_of (n := 32) Try.func131 rfl rfl (len rfl) fun hr w0 => ?_
  refine cd_vecshape (v := lv) (E := 3) (sz := 1) (n := l.length) (l := ints l) (by repeat (first | exact Sel.here | apply Sel.there)) fun la lcp hlv hla => ?_
  refine cd_seq (cd_region (st_v (v_assign rfl) (st_nil (nx_then (cd_seq (cd_region (st_v (v_move rfl) (st_v (v_move rfl) (st_clr rfl rfl en99 rfl (isYoung_ct) ?_)))))))))
  refine st_v (v_assign rfl) (st_nil (nx_kp [1, 2, 6, 7] rfl (nx_then (cd_seq (cd_seq (cd_region (st_v (v_move rfl) (st_v (v_not rfl) (st_nil (nx_kp [1, 2, 6, 13] rfl (nx_then (cd_cond rfl (fun hc => ?_) (fun hc => ?_)))))))))))))
  · skip
    rw [if_neg (show ¬ (m.isY t && !l.contains t) = true by rw [show m.isY t = false by simpa using hc]; simp)]
    refine cd_seq (cd_region (st_v (v_move rfl) (st_v (v_assign rfl) (st_nil (nx_kp [1, 2, 6] rfl (nx_then (cd_ret (xt_ret_then ?_))))))))
    exact xt_rt rfl rfl
  · skip
    have hy : m.isY t = true := by simpa using hc
    refine cd_skip (xt_then (cd_seq (cd_seq (cd_region (st_v (v_assign rfl) (st_nil (nx_kp [1, 2, 6, 8] rfl (nx_then (cd_block (cd_loop (σ := Nat) (fun i => [(1, lv), (2, .int .i64 t), (8, .int .i64 (i : Nat))]) (fun _ => [hR L m, vec lv 3 1 l.length (ints l)] ++ hr) (fun i => i ≤ l.length ∧ (l.take i).contains t = false) (fun i => l.length - i) 0 ⟨Nat.zero_le _, rfl⟩ ⟨rfl, rfl, rfl, trivial⟩ (Sub.refl _) ?_))))))))))
    rintro i ⟨hi, hne⟩
    simp only [List.cons_append, List.nil_append]
    refine cd_seq (cd_seq (cd_region (st_v (v_move rfl) (st_v (v_move rfl) (st_v (v_len (congrArg some hlv) Try.underlying34) (st_v (v_lss rfl rfl) (st_nil (nx_kp [1, 2, 8, 18] rfl (nx_then (cd_cond rfl (fun hd => ?_) (fun hd => ?_)))))))))))
    · skip
      have hlt : i < l.length := by simpa using hd
      obtain ⟨b, rfl⟩ := hla (by omega)
      have hrd : Rd (vec lv 3 1 l.length (ints l)) ⟨b, i, none⟩ (.int .i64 l[i]) := rd_vec hlv (by simp [ints, hlt])
      have htk : (l.take (i + 1)).contains t = (t == l[i]) := by
        rw [List.take_succ_eq_append_getElem hlt]
        simp only [List.contains_append, hne, Bool.false_or, List.contains_cons, List.contains_nil, Bool.or_false]
      refine cd_skip (xt_then (cd_seq (cd_block (cd_seq (cd_region (st_v (v_move rfl) (st_v (v_move rfl) (st_v (v_idx i (congrArg some hlv) rfl sl34 rfl hlt) (st_v (v_ld rfl ld3) ?_)))))))))
      refine st_v (v_move rfl) (st_v (v_eql rfl rfl) (st_nil (nx_kp [1, 2, 8, 26] rfl (nx_then (cd_cond rfl (fun he => ?_) (fun he => ?_))))))
      · skip
        have hx : l[i] = t := by simpa using he
        have hcn : l.contains t = true := by rw [List.contains_iff_mem, ← hx]; exact List.getElem_mem hlt
        rw [if_neg (show ¬ (m.isY t && !l.contains t) = true by rw [hcn]; simp)]
        refine cd_seq (cd_region (st_v (v_move rfl) (st_v (v_assign rfl) (st_nil (nx_kp [1, 2, 6, 8] rfl (nx_then (cd_ret (xt_ret_block (xt_ret_then (xt_ret_then (xt_ret_block (xt_ret_then ?_))))))))))))
        exact xt_rt rfl rfl
      · skip
        refine cd_skip (xt_normal_block (xt_then (cd_region (st_v (v_move rfl) (st_v (v_add rfl rfl (by unfold I64 at *; omega)) (st_v (v_assign rfl) (st_nil (nx_kp [1, 2, 8] rfl (nx_xt ?_)))))))))
        refine xt_ag (i + 1) ⟨hlt, by rw [htk]; exact beq_eq_false_iff_ne.2 fun e => by rw [e] at he; simp at he⟩ (by omega)
    · skip
      have hge : i = l.length := by have : ¬ i < l.length := by simpa using hd
                                    omega
      rw [hge, List.take_length] at hne
      rw [if_pos (show (m.isY t && !l.contains t) = true by rw [hy, hne]; rfl)]
      refine cd_exit (xt_exit_then (xt_exit_then (xt_exit_block (xt_then (cd_seq (cd_region (st_v (v_move rfl) (st_v (v_move rfl) (st_buildSlice (cells := [.int .i64 t]) rfl Try.underlying34 inf3 rfl rfl (by kernel_rfl) (ltn rfl) fun b30 => ?_)))))))))
      refine st_append (news := [.int .i64 t]) rfl rfl Try.underlying34 inf3 rfl (ltn rfl) (by repeat (first | exact Sel.here | apply Sel.there)) rfl (fun j u hu => by repeat (first | exact at_here (rd_cl (by simpa using hu)) | apply at_there)) (ones rfl) (by omega) (by omega) (ltn rfl) fun lv' hlv' hv1 => ?_
      refine st_v (v_assign rfl) (st_nil (nx_kp [6] rfl (nx_then (cd_ret ?_))))
      rw [show ints l ++ [.int .i64 t] = ints (l ++ [t]) by simp [ints], show l.length + 1 = (l ++ [t]).length by simp]
      exact xt_rt rfl rfl
/-- What lies from lo on, i words of it: nothing. -/
def z0 (lo i : Int) (f : Int → Int) : Int → Int := fun x => if decide (lo ≤ x) && decide (x < lo + i) then 0 else f x
theorem z0_zero (lo : Int) (f : Int → Int) : z0 lo 0 f = f := by
  funext x; unfold z0; rw [if_neg (by simp)]
theorem z0_succ {lo i : Int} {f : Int → Int} (hi : 0 ≤ i) : fup (z0 lo i f) (lo + i) 0 = z0 lo (i + 1) f := by
  funext x
  by_cases hx : x = lo + i
  · subst hx; rw [fup_same]; unfold z0; rw [if_pos (by simp; omega)]
  · rw [fup_other hx]; unfold z0
    by_cases hc : lo ≤ x ∧ x < lo + i
    · rw [if_pos (by simp; omega), if_pos (by simp; omega)]
    · rw [if_neg (by simp; omega), if_neg (by simp; omega)]
set_option maxRecDepth 100000 in
theorem rclear_ct (z : Sz m) {lo n : Int} (hlo : 0 ≤ lo) (hn : 0 ≤ n) (hb : lo + n ≤ m.Y + 2 * m.H + 1) : Ct Try.prog 102 #[.pointer (some ⟨L.hb, 0, none⟩), .int .i64 lo, .int .i64 n] [hR L m, wR L m, eR L m, oR L m] fun u h' => u = .tuple #[] ∧ h' = [hR L (m.clear lo n), wR L (m.clear lo n), eR L (m.clear lo n), oR L (m.clear lo n)] := by
  have h1 := z.Y0; have h2 := z.Y1; have h3 := z.H0; have h4 := z.H1
  obtain ⟨k, rfl⟩ : ∃ k : Nat, n = k := ⟨n.toNat, by omega⟩
  have hal := fun f => arr_len (rn m) f
  have hrn : rn m = (m.Y + 2 * m.H + 1).toNat := rfl
  refine ct_of (n := 33) Try.func102 rfl rfl (len rfl) fun hr w0 => ?_
  refine cd_seq (cd_region (st_v (v_move rfl) (st_v (v_assign rfl) (st_nil (nx_kp [0, 1, 2, 6] rfl (nx_then (cd_block (cd_loop (σ := Nat) (fun i => [(0, .pointer (some ⟨L.hb, 0, none⟩)), (1, .int .i64 lo), (2, .int .i64 k), (6, .int .i64 (lo + (i : Nat)))]) (fun i => [hR L m, aR L.wb m (z0 lo i m.word), aR L.eb m (z0 lo i m.head), aR L.ob m (z0 lo i m.moved)] ++ hr) (fun i => i ≤ k) (fun i => k - i) 0 (Nat.zero_le _) ⟨rfl, rfl, rfl, (by rw [show lo + ((0 : Nat) : Int) = lo by simp]; rfl), trivial⟩ (by rw [show ((0 : Nat) : Int) = 0 from rfl, z0_zero, z0_zero, z0_zero]; exact Sub.refl _) ?_))))))))
  rintro i hi
  simp only [List.cons_append, List.nil_append]
  refine cd_seq (cd_seq (cd_region (st_v (v_move rfl) (st_v (v_move rfl) (st_v (v_move rfl) (st_v (v_add rfl rfl (by unfold I64 at *; omega)) (st_v (v_lss rfl rfl) (st_nil (nx_kp [0, 1, 2, 6, 12] rfl (nx_then (cd_cond rfl (fun hc => ?_) (fun hc => ?_))))))))))))
  · skip
    have hlt : i < k := by simp at hc; omega
    have hl1 := hal (z0 lo i m.word); have hl2 := hal (z0 lo i m.head); have hl3 := hal (z0 lo i m.moved)
    refine cd_skip (xt_then (cd_seq (cd_block (cd_seq (cd_region (st_v (v_move rfl) (st_v (v_nilCheck rfl) (st_v (v_fieldAddr rfl fa52_3 rfl) (st_v (v_ld rfl ld34) ?_)))))))))
    refine st_v (v_move rfl) (st_v (v_idx (lo + i).toNat rfl rfl sl34 (by omega) (by omega)) (st_sto rfl rfl sz3 ?_))
    refine st_nil (nx_kp [0, 1, 2, 6] rfl (nx_then (cd_seq (cd_region (st_v (v_move rfl) (st_v (v_nilCheck rfl) (st_v (v_fieldAddr rfl fa52_4 rfl) (st_v (v_ld rfl ld34) ?_))))))))
    refine st_v (v_move rfl) (st_v (v_idx (lo + i).toNat rfl rfl sl34 (by omega) (by omega)) (st_sto rfl rfl sz3 ?_))
    refine st_nil (nx_kp [0, 1, 2, 6] rfl (nx_then (cd_region (st_v (v_move rfl) (st_v (v_nilCheck rfl) (st_v (v_fieldAddr rfl fa52_5 rfl) (st_v (v_ld rfl ld34) ?_)))))))
    refine st_v (v_move rfl) (st_v (v_idx (lo + i).toNat rfl rfl sl34 (by omega) (by omega)) (st_sto rfl rfl sz3 ?_))
    refine st_nil (nx_kp [0, 1, 2, 6] rfl (nx_xt (xt_normal_block (xt_then (cd_region (st_v (v_move rfl) (st_v (v_add rfl rfl (by unfold I64 at *; omega)) (st_v (v_assign rfl) (st_nil (nx_kp [0, 1, 2, 6] rfl (nx_xt ?_)))))))))))
    rw [arr_set' (by omega), arr_set' (by omega), arr_set' (by omega), z0_succ (by omega), z0_succ (by omega), z0_succ (by omega)]
    rw [show lo + (i : Int) + 1 = lo + ((i + 1 : Nat) : Int) by omega]
    refine xt_ag (i + 1) hlt (by omega)
  · skip
    have hge : i = k := by simp at hc; omega
    subst hge
    refine cd_exit (xt_exit_then (xt_exit_then (xt_exit_block ?_)))
    exact xt_en rfl ⟨rfl, rfl⟩
end
end Go.Proofs.Ytmhmpjgkkpbnnaa
