/-
  The chapter's example is as it must be: sanity. No condition.
  HeapNil: a nil memory has the errors, and the zero values, that it must have. No condition: for every call.
  HeapNil: for every input the law answers true, and the input reads as it did. No condition.
-/
import Derived.Test.YtmhmpjgkkpbnnaaM12
import Derived.Test.YtmhmpjgkkpbnnaaM9
import Derived.Test.YtmhmpjgkkpbnnaaM3
import Derived.Test.YtmhmpjgkkpbnnaaRows
import Derived.JoinedCond
namespace Go.Ck
open Go
section
variable {c : Cx} {ops : Array Oper} {K : Act → World → Prop} {rest : List Oper} {e : Env} {h : SH}
/-- An operation with an effect, at a guard that says yes. -/
theorem st_guard {d : Option Nat} {op : Op} {ty : TypeId} {pos : String} {after : Array Edge} {g gd : Nat} {want : Bool} (hd : ∀ k, op ≠ .defer k) (hg : ((ops[g]?).bind (·.dst)) = some gd) (hgv : e.get? gd = some (.bool want))
    (hs : St c ops K (⟨d, op, ty, pos, after, none⟩ :: rest) e h) : St c ops K (⟨d, op, ty, pos, after, some (g, want)⟩ :: rest) e h := fun a w hk hh hw => by
  have h1 := hs a w hk hh hw
  unfold LsW at h1 ⊢
  rw [if_pos (by simp [Region.wanted])] at h1
  rw [if_pos (by simp [Region.wanted, yields_guard hg hgv hk])]
  unfold OpW OpV at h1 ⊢
  rw [Oper.semAt_eq _ _ _ hd] at h1 ⊢
  exact h1
end
end Go.Ck
namespace Go.Proofs.Ytmhmpjgkkpbnnaa
open Go.Ck Fx Go.Hm Go.Hm.AM
theorem eqi54 : EqI Try.prog 54 3 := EqI.of Try.underlying54 (by kernel_rfl) (by kernel_rfl) (by kernel_rfl) rfl
theorem rowI_pt {b : Nat} {l : List Int} : RowI (pt b (cl (ints l) 3)) (.slice (some ⟨b, 0, none⟩) l.length l.length) l := ⟨_, _, rfl, .inr ⟨b, 0, rfl, fun j hj => rd_cl (by simp [ints, hj])⟩⟩
set_option maxRecDepth 100000 in
theorem sameInts2_ct {R1 R2 : Res} {v1 v2 : Value} {l1 l2 : List Int} (h1 : RowI R1 v1 l1) (h2 : RowI R2 v2 l2) (hl : l1.length ≤ 1000000) : Reads Try.prog 21 #[v1, v2] [R1, R2] (.bool (l1 == l2)) :=
  Reads.unstar (sameInts_ct (RowI.star .here h1) (RowI.star (.there .here) h2) hl)
theorem rowI_vec {v : Value} {n : Nat} {l : List Int} {a : Option Addr} {cp : Nat} (hv : v = .slice a n cp) (ha : 0 < n → ∃ b, a = some ⟨b, 0, none⟩) (hn : l.length = n) : RowI (vec v 3 1 n (ints l)) v l := by
  subst hn
  refine ⟨a, cp, hv, ?_⟩
  by_cases h0 : l.length = 0
  · exact .inl (List.eq_nil_of_length_eq_zero h0)
  · obtain ⟨b, rfl⟩ := ha (by omega)
    exact .inr ⟨b, 0, rfl, fun j hj => by rw [Nat.zero_add]; exact rd_vec hv (by simp [ints, hj])⟩
set_option maxHeartbeats 8000000 in
set_option maxRecDepth 100000 in
theorem sanity_c : Ct Try.prog 14 #[] [] fun v h' => v = .bool true ∧ h' = [] := by
  refine ct_of (n := 209) Try.func14 rfl rfl (len rfl) fun hr w0 => ?_
  simp only [List.nil_append]
  refine cd_seq ?_
  refine cd_region ?_
  refine st_v (v_assign rfl) ?_
  refine st_nil (nx_then ?_)
  refine cd_seq ?_
  refine cd_region ?_
  refine st_cl rfl rfl en39 rfl (shapes_ct) ?_
  rintro v' h' ⟨R, hR, rfl⟩
  simp only [List.cons_append, List.nil_append]
  refine st_cl rfl rfl en15 rfl (new_c hR (by decide)) ?_
  rintro v' h' hu
  rcases hu with ⟨h1, _⟩ | ⟨_, L, μ0, S, rfl, I0, rfl⟩
  · exact absurd (by decide) h1
  have I0 : MI L μ0 S sm0 := I0
  simp only [memSH, List.cons_append, List.nil_append]
  refine st_v (v_move rfl) ?_
  refine st_v (v_extract rfl rfl) ?_
  refine st_v (v_extract rfl rfl) ?_
  refine st_v (v_assign rfl) ?_
  refine st_v (v_assign rfl) ?_
  refine st_nil (nx_kp [0, 1, 2] rfl (nx_then ?_))
  refine cd_seq ?_
  refine cd_seq ?_
  refine cd_region ?_
  refine st_v (v_move rfl) ?_
  refine st_v (v_neq rfl rfl) ?_
  refine st_v (v_move rfl) ?_
  refine st_vg rfl rfl (v_move rfl) ?_
  refine st_vg rfl rfl (v_eql_ptr_nil rfl rfl pt27) ?_
  refine st_v (v_pick_false rfl rfl) ?_
  refine st_nil (nx_kp [0, 1, 38] rfl (nx_then ?_))
  refine cd_false rfl ?_
  refine cd_skip ?_
  refine xt_then ?_
  refine cd_seq ?_
  refine cd_region ?_
  refine st_v (v_move rfl) ?_
  obtain ⟨_, _, _, _, _, g0⟩ := sf0
  obtain ⟨_, _, _, _, _, g1⟩ := sf0.alloc 0
  obtain ⟨_, _, _, _, _, g2⟩ := (sf0.alloc 0).alloc 0
  obtain ⟨_, _, _, _, _, g3⟩ := sf3
  refine st_cl rfl rfl en33 rfl (alloc_c I0 g0 0) ?_
  rintro v' h' ⟨μ1, rfl, I1, rfl⟩
  have I1 : MI L μ1 S sm1 := I1
  rw [se1.1, se1.2]
  simp only [memSH, List.cons_append, List.nil_append]
  refine st_v (v_move rfl) ?_
  refine st_v (v_extract rfl rfl) ?_
  refine st_v (v_extract rfl rfl) ?_
  refine st_v (v_assign rfl) ?_
  refine st_v (v_assign rfl) ?_
  refine st_nil (nx_kp [0, 1, 3, 4] rfl (nx_then ?_))
  refine cd_seq ?_
  refine cd_region ?_
  refine st_v (v_move rfl) ?_
  refine st_cl rfl rfl en33 rfl (alloc_c I1 g1 0) ?_
  rintro v' h' ⟨μ2, rfl, I2, rfl⟩
  have I2 : MI L μ2 S sm2 := I2
  rw [se2.1, se2.2]
  simp only [memSH, List.cons_append, List.nil_append]
  refine st_v (v_move rfl) ?_
  refine st_v (v_extract rfl rfl) ?_
  refine st_v (v_extract rfl rfl) ?_
  refine st_v (v_assign rfl) ?_
  refine st_v (v_assign rfl) ?_
  refine st_nil (nx_kp [0, 1, 3, 4, 5, 6] rfl (nx_then ?_))
  refine cd_seq ?_
  refine cd_region ?_
  refine st_v (v_move rfl) ?_
  refine st_cl rfl rfl en33 rfl (alloc_c I2 g2 0) ?_
  rintro v' h' ⟨μ3, rfl, I3, rfl⟩
  have I3 : MI L μ3 S sm3 := I3
  rw [se3.1, se3.2]
  simp only [memSH, List.cons_append, List.nil_append]
  refine st_v (v_move rfl) ?_
  refine st_v (v_extract rfl rfl) ?_
  refine st_v (v_extract rfl rfl) ?_
  refine st_v (v_assign rfl) ?_
  refine st_v (v_assign rfl) ?_
  refine st_nil (nx_kp [0, 1, 3, 4, 5, 6, 7, 8] rfl (nx_then ?_))
  refine cd_seq ?_
  refine cd_region ?_
  refine st_v (v_move rfl) ?_
  refine st_cl rfl rfl en33 rfl (alloc_c I3 g3 0) ?_
  rintro v' h' ⟨μ4, rfl, I4, rfl⟩
  have I4 : MI L μ4 S sm3 := by have e : (sm3.alloc 0).2.2 = sm3 := (alloc_err (by rw [se4.2]; decide)).1
                                rw [← e]; exact I4
  rw [se4.1, se4.2]
  simp only [memSH, List.cons_append, List.nil_append]
  refine st_v (v_move rfl) ?_
  refine st_v (v_extract rfl rfl) ?_
  refine st_v (v_extract rfl rfl) ?_
  refine st_v (v_assign rfl) ?_
  refine st_v (v_assign rfl) ?_
  refine st_nil (nx_kp [0, 1, 3, 4, 5, 6, 7, 8, 10] rfl (nx_then ?_))
  refine cd_seq ?_
  refine cd_region ?_
  refine st_v (v_move rfl) ?_
  refine st_cl rfl rfl en40 rfl (set_c I4 g3 1 1 4) ?_
  rintro v' h' ⟨L5, μ5, rfl, I5, hL5, rfl⟩
  have I5 : MI L5 μ5 S sm5 := I5
  rw [se5, ← hL5]
  simp only [memSH, List.cons_append, List.nil_append]
  obtain ⟨_, _, _, _, _, g5⟩ := sf5
  refine st_v (v_assign rfl) ?_
  refine st_nil (nx_kp [0, 1, 3, 4, 5, 6, 7, 8, 10, 11] rfl (nx_then ?_))
  refine cd_seq ?_
  refine cd_region ?_
  refine st_v (v_move rfl) ?_
  refine st_buildSlice (cells := [.int .i64 4, .int .i64 1]) rfl Try.underlying34 inf3 rfl rfl (by kernel_rfl) (ltn rfl) fun b63 => ?_
  refine st_cl rfl rfl en34 rfl (minor_c I5 g5 (rowI_pt (b := b63) (l := [4, 1])) (by decide)) ?_
  rintro v' h' ⟨sl6, L6, μ6, rfl, I6, hL6, rfl⟩
  have I6 : MI L6 μ6 S sm6 := I6
  rw [se6.1, se6.2.1, ← hL6]
  simp only [memSH, List.cons_append, List.nil_append]
  refine st_v (v_move rfl) ?_
  refine st_v (v_extract rfl rfl) ?_
  refine st_v (v_extract rfl rfl) ?_
  refine st_v (v_assign rfl) ?_
  refine st_v (v_assign rfl) ?_
  refine st_nil (nx_kp [0, 1, 3, 4, 5, 6, 7, 8, 10, 11, 12, 13] rfl (nx_then ?_))
  refine cd_seq ?_
  refine cd_seq ?_
  refine cd_vecshape (v := sl6) (E := 3) (sz := 1) (n := 2) (l := ints [11, 14]) (by repeat (first | exact Sel.here | apply Sel.there)) fun sa6 sc6 hs6 ha6 => ?_
  refine cd_region ?_
  refine st_v (v_move rfl) ?_
  refine st_v (v_neq rfl rfl) ?_
  refine st_v (v_move rfl) ?_
  refine st_vg rfl rfl (v_move rfl) ?_
  refine st_vg rfl rfl (v_neq rfl rfl) ?_
  refine st_v (v_pick_false rfl rfl) ?_
  refine st_v (v_move rfl) ?_
  refine st_vg rfl rfl (v_move rfl) ?_
  refine st_vg rfl rfl (v_neq rfl rfl) ?_
  refine st_v (v_pick_false rfl rfl) ?_
  refine st_v (v_move rfl) ?_
  refine st_vg rfl rfl (v_move rfl) ?_
  refine st_vg rfl rfl (v_neq rfl rfl) ?_
  refine st_v (v_pick_false rfl rfl) ?_
  refine st_v (v_move rfl) ?_
  refine st_vg rfl rfl (v_move rfl) ?_
  refine st_vg rfl rfl (v_neq rfl rfl) ?_
  refine st_v (v_pick_false rfl rfl) ?_
  refine st_v (v_move rfl) ?_
  refine st_vg rfl rfl (v_move rfl) ?_
  refine st_vg rfl rfl (v_neq rfl rfl) ?_
  refine st_v (v_pick_false rfl rfl) ?_
  refine st_v (v_move rfl) ?_
  refine st_vg rfl rfl (v_move rfl) ?_
  refine st_vg rfl rfl (v_neq rfl rfl) ?_
  refine st_v (v_pick_false rfl rfl) ?_
  refine st_v (v_move rfl) ?_
  refine st_vg rfl rfl (v_move rfl) ?_
  refine st_vg rfl rfl (v_neq rfl rfl) ?_
  refine st_v (v_pick_false rfl rfl) ?_
  refine st_v (v_move rfl) ?_
  refine st_vg rfl rfl (v_move rfl) ?_
  refine st_vg rfl rfl (v_neq rfl rfl) ?_
  refine st_v (v_pick_false rfl rfl) ?_
  refine st_v (v_move rfl) ?_
  refine st_vg rfl rfl (v_move rfl) ?_
  refine st_guard (by simp) rfl rfl (st_buildSlice (cells := [.int .i64 11, .int .i64 14]) rfl Try.underlying34 inf3 rfl rfl (by kernel_rfl) (ltn rfl) fun b103 => ?_)
  refine st_clrg rfl rfl rfl rfl en21 rfl (sameInts2_ct (l1 := [11, 14]) (l2 := [11, 14]) (rowI_vec hs6 ha6 rfl) (rowI_pt (b := b103) (l := [11, 14])) (by decide)) ?_
  rw [show (([11, 14] : List Int) == [11, 14]) = true by decide]
  refine st_vg rfl rfl (v_not rfl) ?_
  refine st_v (v_pick_false rfl rfl) ?_
  refine st_nil (nx_kp [0, 1, 12, 106] rfl (nx_then ?_))
  refine cd_false rfl ?_
  refine cd_skip ?_
  refine xt_then ?_
  refine cd_seq ?_
  refine cd_region ?_
  refine st_v (v_move rfl) ?_
  obtain ⟨_, _, _, _, _, g6⟩ := sf6
  refine st_clr rfl rfl en24 rfl (room_c I6) ?_
  rw [se6r]
  refine st_v (v_build (cells := ints [0, 6, 0]) rfl (fun _ => by kernel_rfl)) ?_
  refine st_v (v_eql_ints (xs := [0, 6, 0]) (ys := [0, 6, 0]) eqi54 rfl rfl rfl rfl) ?_
  rw [show (([0, 6, 0] : List Int) == [0, 6, 0]) = true by decide]
  refine st_v (v_assign rfl) ?_
  refine st_nil (nx_kp [0, 1, 12, 14] rfl (nx_then ?_))
  refine cd_seq ?_
  refine cd_region ?_
  refine st_v (v_move rfl) ?_
  refine st_cl rfl rfl en41 rfl (get_c I6 g6 14 1) ?_
  rintro v' h' ⟨μ7, rfl, I7, rfl⟩
  have I7 : MI L6 μ7 S sm7 := I7
  rw [se7.1, se7.2]
  simp only [memSH, List.cons_append, List.nil_append]
  obtain ⟨_, _, _, _, _, g7⟩ := sf7
  refine st_v (v_move rfl) ?_
  refine st_v (v_extract rfl rfl) ?_
  refine st_v (v_extract rfl rfl) ?_
  refine st_v (v_assign rfl) ?_
  refine st_v (v_assign rfl) ?_
  refine st_nil (nx_kp [0, 1, 12, 14, 15, 16] rfl (nx_then ?_))
  refine cd_seq ?_
  refine cd_region ?_
  refine st_v (v_move rfl) ?_
  refine st_clr rfl rfl en42 rfl (shape_c I7 g7 4) ?_
  rw [se7s]
  refine st_v (v_move rfl) ?_
  refine st_v (v_extract rfl rfl) ?_
  refine st_v (v_extract rfl rfl) ?_
  refine st_v (v_assign rfl) ?_
  refine st_v (v_assign rfl) ?_
  refine st_nil (nx_kp [0, 1, 12, 14, 15, 16, 18] rfl (nx_then ?_))
  refine cd_seq ?_
  refine cd_region ?_
  refine st_v (v_move rfl) ?_
  refine st_buildSlice (cells := [.int .i64 14]) rfl Try.underlying34 inf3 rfl rfl (by kernel_rfl) (ltn rfl) fun b123 => ?_
  refine st_cl rfl rfl en43 rfl (flip_c I7 g7 (rowI_pt (b := b123) (l := [14])) (by decide)) ?_
  rintro v' h' ⟨sl8, L8, μ8, rfl, I8, hL8, rfl⟩
  have I8 : MI L8 μ8 S sm8 := I8
  rw [se8.1, se8.2.1, ← hL8]
  simp only [memSH, List.cons_append, List.nil_append]
  obtain ⟨_, _, _, _, _, g8⟩ := sf8
  refine st_v (v_move rfl) ?_
  refine st_v (v_extract rfl rfl) ?_
  refine st_v (v_extract rfl rfl) ?_
  refine st_v (v_assign rfl) ?_
  refine st_v (v_assign rfl) ?_
  refine st_nil (nx_kp [0, 1, 12, 14, 15, 16, 18, 19] rfl (nx_then ?_))
  refine cd_seq ?_
  refine cd_region ?_
  refine st_v (v_move rfl) ?_
  refine st_clr rfl rfl en24 rfl (room_c I8) ?_
  rw [se8r]
  refine st_v (v_build (cells := ints [0, 3, 3]) rfl (fun _ => by kernel_rfl)) ?_
  refine st_v (v_eql_ints (xs := [0, 3, 3]) (ys := [0, 3, 3]) eqi54 rfl rfl rfl rfl) ?_
  rw [show (([0, 3, 3] : List Int) == [0, 3, 3]) = true by decide]
  refine st_v (v_assign rfl) ?_
  refine st_nil (nx_kp [0, 1, 12, 14, 15, 16, 18, 19, 20] rfl (nx_then ?_))
  refine cd_seq ?_
  refine cd_region ?_
  refine st_v (v_move rfl) ?_
  refine st_cl rfl rfl en41 rfl (get_c I8 g8 51 1) ?_
  rintro v' h' ⟨μ9, rfl, I9, rfl⟩
  have I9 : MI L8 μ9 S sm9 := I9
  rw [se9.1, se9.2]
  simp only [memSH, List.cons_append, List.nil_append]
  obtain ⟨_, _, _, _, _, g9⟩ := sf9
  refine st_v (v_move rfl) ?_
  refine st_v (v_extract rfl rfl) ?_
  refine st_v (v_extract rfl rfl) ?_
  refine st_v (v_assign rfl) ?_
  refine st_v (v_assign rfl) ?_
  refine st_nil (nx_kp [0, 1, 12, 14, 15, 16, 18, 19, 20, 21, 22] rfl (nx_then ?_))
  refine cd_seq ?_
  refine cd_region ?_
  refine st_v (v_move rfl) ?_
  refine st_clr rfl rfl en24 rfl (room_c I9) ?_
  rw [se9r.1]
  refine st_v (v_build (cells := ints [0, 6, 0]) rfl (fun _ => by kernel_rfl)) ?_
  refine st_v (v_eql_ints (xs := [0, 6, 0]) (ys := [0, 6, 0]) eqi54 rfl rfl rfl rfl) ?_
  rw [show (([0, 6, 0] : List Int) == [0, 6, 0]) = true by decide]
  refine st_v (v_assign rfl) ?_
  refine st_nil (nx_kp [0, 1, 12, 14, 15, 16, 18, 19, 20, 21, 22, 23] rfl (nx_then ?_))
  refine cd_seq ?_
  refine cd_region ?_
  refine st_v (v_move rfl) ?_
  refine st_cl rfl rfl en31 rfl (step_c I9 g9 3 (by unfold I64; omega)) ?_
  rintro v' h' ⟨L10, μ10, rfl, I10, hL10, rfl⟩
  have I10 : MI L10 μ10 S sm10 := I10
  rw [se10.1, se10.2.1, ← hL10]
  simp only [memSH, List.cons_append, List.nil_append]
  obtain ⟨_, _, _, _, _, g10⟩ := sf10
  refine st_v (v_move rfl) ?_
  refine st_v (v_extract rfl rfl) ?_
  refine st_v (v_extract rfl rfl) ?_
  refine st_v (v_assign rfl) ?_
  refine st_v (v_assign rfl) ?_
  refine st_nil (nx_kp [0, 1, 12, 14, 15, 16, 18, 19, 20, 21, 22, 23, 24, 25] rfl (nx_then ?_))
  refine cd_seq ?_
  refine cd_region ?_
  refine st_v (v_move rfl) ?_
  refine st_cl rfl rfl en31 rfl (step_c I10 g10 3 (by unfold I64; omega)) ?_
  rintro v' h' ⟨L11, μ11, rfl, I11, hL11, rfl⟩
  have I11 : MI L11 μ11 S sm11 := I11
  rw [se11.1, se11.2.1, ← hL11]
  simp only [memSH, List.cons_append, List.nil_append]
  obtain ⟨_, _, _, _, _, g11⟩ := sf11
  refine st_v (v_move rfl) ?_
  refine st_v (v_extract rfl rfl) ?_
  refine st_v (v_extract rfl rfl) ?_
  refine st_v (v_assign rfl) ?_
  refine st_v (v_assign rfl) ?_
  refine st_nil (nx_kp [0, 1, 12, 14, 15, 16, 18, 19, 20, 21, 22, 23, 24, 25, 26, 27] rfl (nx_then ?_))
  refine cd_seq ?_
  refine cd_seq ?_
  refine cd_region ?_
  refine st_v (v_move rfl) ?_
  refine st_v (v_neq rfl rfl) ?_
  refine st_v (v_move rfl) ?_
  refine st_vg rfl rfl (v_move rfl) ?_
  refine st_vg rfl rfl (v_neq rfl rfl) ?_
  refine st_v (v_pick_false rfl rfl) ?_
  refine st_v (v_move rfl) ?_
  refine st_vg rfl rfl (v_move rfl) ?_
  refine st_vg rfl rfl (v_neq rfl rfl) ?_
  refine st_v (v_pick_false rfl rfl) ?_
  refine st_v (v_move rfl) ?_
  refine st_vg rfl rfl (v_move rfl) ?_
  refine st_vg rfl rfl (v_neq rfl rfl) ?_
  refine st_v (v_pick_false rfl rfl) ?_
  refine st_v (v_move rfl) ?_
  refine st_vg rfl rfl (v_move rfl) ?_
  refine st_vg rfl rfl (v_neq rfl rfl) ?_
  refine st_v (v_pick_false rfl rfl) ?_
  refine st_v (v_move rfl) ?_
  refine st_vg rfl rfl (v_move rfl) ?_
  refine st_vg rfl rfl (v_neq rfl rfl) ?_
  refine st_v (v_pick_false rfl rfl) ?_
  refine st_v (v_move rfl) ?_
  refine st_vg rfl rfl (v_move rfl) ?_
  refine st_vg rfl rfl (v_neq rfl rfl) ?_
  refine st_v (v_pick_false rfl rfl) ?_
  refine st_v (v_move rfl) ?_
  refine st_vg rfl rfl (v_move rfl) ?_
  refine st_vg rfl rfl (v_neq rfl rfl) ?_
  refine st_v (v_pick_false rfl rfl) ?_
  refine st_v (v_move rfl) ?_
  refine st_vg rfl rfl (v_move rfl) ?_
  refine st_vg rfl rfl (v_neq rfl rfl) ?_
  refine st_v (v_pick_false rfl rfl) ?_
  refine st_v (v_move rfl) ?_
  refine st_vg rfl rfl (v_move rfl) ?_
  refine st_vg rfl rfl (v_neq rfl rfl) ?_
  refine st_v (v_pick_false rfl rfl) ?_
  refine st_v (v_move rfl) ?_
  refine st_vg rfl rfl (v_move rfl) ?_
  refine st_clrg rfl rfl rfl rfl en23 rfl (busy_c I11) ?_
  rw [se11.2.2]
  refine st_v (v_pick_false rfl rfl) ?_
  refine st_nil (nx_kp [0, 1, 12, 14, 20, 23, 191] rfl (nx_then ?_))
  refine cd_false rfl ?_
  refine cd_skip ?_
  refine xt_then ?_
  refine cd_seq ?_
  refine cd_vecshape (v := sl8) (E := 3) (sz := 1) (n := 1) (l := ints [51]) (by repeat (first | exact Sel.here | apply Sel.there)) fun sa8 sc8 hs8 ha8 => ?_
  refine cd_region ?_
  refine st_v (v_move rfl) ?_
  refine st_v (v_move rfl) ?_
  refine st_vg rfl rfl (v_move rfl) ?_
  refine st_v (v_pick_true rfl rfl) ?_
  refine st_v (v_move rfl) ?_
  refine st_vg rfl rfl (v_move rfl) ?_
  refine st_v (v_pick_true rfl rfl) ?_
  refine st_v (v_move rfl) ?_
  refine st_vg rfl rfl (v_move rfl) ?_
  refine st_guard (by simp) rfl rfl (st_buildSlice (cells := [.int .i64 51]) rfl Try.underlying34 inf3 rfl rfl (by kernel_rfl) (ltn rfl) fun b201 => ?_)
  refine st_clrg rfl rfl rfl rfl en21 rfl (sameInts2_ct (l1 := [51]) (l2 := [51]) (rowI_vec hs8 ha8 rfl) (rowI_pt (b := b201) (l := [51])) (by decide)) ?_
  rw [show (([51] : List Int) == [51]) = true by decide]
  refine st_v (v_pick_true rfl rfl) ?_
  refine st_v (v_move rfl) ?_
  refine st_vg rfl rfl (v_move rfl) ?_
  refine st_clrg rfl rfl rfl rfl en26 rfl (check_c I11 g11) ?_
  refine st_vg rfl rfl (v_eql rfl rfl) ?_
  refine st_v (v_pick_true rfl rfl) ?_
  refine st_v (v_assign rfl) ?_
  refine st_nil (nx_kp [0] rfl (nx_then ?_))
  refine cd_ret ?_
  exact xt_rt rfl ⟨rfl, rfl⟩
end Go.Proofs.Ytmhmpjgkkpbnnaa
namespace Go.Ck
open Go
section
variable {P : Program} {e : Env} {h h' : SH} {ty : TypeId}
theorem v_rem {t t' : TypeId} {x y : Operand} {k : IntKind} {a b : Int} (hx : e.ev? x = some (.int k a)) (hy : e.ev? y = some (.int k b)) (hb : b ≠ 0) (hw : k.wrap (a.tmod b) = a.tmod b) : Vop P e h (.binOp .rem t x y t') ty (.int k (a.tmod b)) :=
  ⟨by simp, by simp, fun ρ w d pos after g hρ _ => by simp [execOp, hρ x _ hx, hρ y _ hy, eqGuard_rem, binOp_rem, Op.intDiv, hb, hw]⟩
end
end Go.Ck
namespace Go.Proofs.Ytmhmpjgkkpbnnaa
open Go.Ck Fx Go.Hm Go.Hm.AM
def kindOf (n : Int) : Int := ((n.tmod 7) + 7).tmod 7
theorem tmod7 (n : Int) : -7 < n.tmod 7 ∧ n.tmod 7 < 7 := by
  have := Int.tmod_lt_of_pos n (b := 7) (by decide)
  have := Int.lt_tmod_of_pos n (b := 7) (by decide)
  omega
theorem kindOf_bd (n : Int) : 0 ≤ kindOf n ∧ kindOf n < 7 := by
  have h1 := tmod7 n
  unfold kindOf
  have h2 := Int.tmod_lt_of_pos (n.tmod 7 + 7) (b := 7) (by decide)
  have h3 := Int.tmod_nonneg (a := n.tmod 7 + 7) 7 (by omega)
  omega
set_option maxRecDepth 100000 in
theorem kind_ct {a b c d : Int} {v : Value} : Ct Try.prog 49 #[.agg #[.int .i64 a, .int .i64 b, .int .i64 c, .int .i64 d, v]] [] fun u h' => u = .int .i64 (kindOf a) ∧ h' = [] := by
  have h1 := tmod7 a
  have h2 := kindOf_bd a
  refine ct_of (n := 8) Try.func49 rfl rfl (len rfl) fun hr w0 => ?_
  simp only [List.nil_append]
  refine cd_seq ?_
  refine cd_region ?_
  refine st_bx rfl rfl fun b1 => ?_
  refine st_v (v_assign rfl) ?_
  refine st_nil (nx_kp [1, 2] rfl (nx_then ?_))
  refine cd_seq ?_
  refine cd_region ?_
  refine st_v (v_fieldAddr rfl fa38_0 rfl) ?_
  refine st_v (v_ld rfl ld3) ?_
  refine st_v (v_rem rfl rfl (by decide) (I64.wrap (by unfold I64; omega))) ?_
  refine st_v (v_add rfl rfl (by unfold I64 at *; omega)) ?_
  refine st_v (v_rem rfl rfl (by decide) (I64.wrap (by unfold I64; exact ⟨by unfold kindOf at h2; omega, by unfold kindOf at h2; omega⟩))) ?_
  refine st_v (v_assign rfl) ?_
  refine st_nil (nx_kp [2] rfl (nx_then ?_))
  refine cd_ret ?_
  exact xt_rt rfl ⟨rfl, rfl⟩
set_option maxRecDepth 100000 in
theorem called_nil_ct {a b c d : Int} {v : Value} (hd : I64 b) : Ct Try.prog 17 #[.pointer none, .agg #[.int .i64 a, .int .i64 b, .int .i64 c, .int .i64 d, v]] [] fun u h' => u = .tuple #[.int .i64 0, .slice none 0 0, .int .i64 12] ∧ h' = [] := by
  refine ct_of (n := 79) Try.func17 rfl rfl (len rfl) fun hr w0 => ?_
  simp only [List.nil_append]
  refine cd_seq ?_
  refine cd_region ?_
  refine st_bx rfl rfl fun b3 => ?_
  refine st_v (v_assign rfl) ?_
  refine st_v (v_assign rfl) ?_
  refine st_v (v_assign rfl) ?_
  refine st_nil (nx_kp [0, 3, 4, 5, 6] rfl (nx_then ?_))
  refine cd_seq ?_
  refine cd_region ?_
  refine st_v (v_assign rfl) ?_
  refine st_nil (nx_then ?_)
  refine cd_seq ?_
  refine cd_region ?_
  refine st_v (v_assign rfl) ?_
  refine st_nil (nx_then ?_)
  refine cd_seq ?_
  refine cd_region ?_
  refine st_v (v_assign rfl) ?_
  refine st_nil (nx_then ?_)
  refine cd_seq ?_
  refine cd_seq ?_
  refine cd_region ?_
  refine st_v (v_loadW rfl ld38 rfl (by repeat (first | exact Sel.here | apply Sel.there))) ?_
  refine st_cl rfl rfl en49 rfl (kind_ct) ?_
  rintro v' h' ⟨rfl, rfl⟩
  simp only [List.nil_append]
  refine st_nil (nx_kp [0, 3, 4, 5, 6, 7, 8, 9, 11] rfl (nx_then ?_))
  refine cd_block ?_
  refine cd_seq ?_
  refine cd_region ?_
  refine st_v (v_eql rfl rfl) ?_
  refine st_v (v_assign rfl) ?_
  refine st_nil (nx_kp [0, 3, 4, 5, 6, 7, 8, 9, 11, 19] rfl (nx_then ?_))
  refine cd_cond rfl (fun c0 => ?_) (fun c0 => ?_)
  · skip
    refine cd_region ?_
    refine st_v (v_move rfl) ?_
    refine st_v (v_fieldAddr rfl fa38_1 rfl) ?_
    refine st_v (v_ld rfl ld3) ?_
    refine st_cl rfl rfl en33 rfl (nil_alloc_ct) ?_
    rintro v' h' ⟨rfl, rfl⟩
    simp only [List.nil_append]
    refine st_v (v_move rfl) ?_
    refine st_v (v_extract rfl rfl) ?_
    refine st_v (v_extract rfl rfl) ?_
    refine st_v (v_assign rfl) ?_
    refine st_v (v_assign rfl) ?_
    refine st_nil (nx_kp [4, 5, 6, 7, 8, 9] rfl (nx_xt ?_))
    refine xt_normal_block ?_
    refine xt_then ?_
    refine cd_seq ?_
    refine cd_region ?_
    refine st_v (v_move rfl) ?_
    refine st_v (v_move rfl) ?_
    refine st_v (v_move rfl) ?_
    refine st_v (v_assign rfl) ?_
    refine st_v (v_assign rfl) ?_
    refine st_v (v_assign rfl) ?_
    refine st_nil (nx_kp [4, 5, 6] rfl (nx_then ?_))
    refine cd_ret ?_
    exact xt_rt rfl ⟨rfl, rfl⟩
  · skip
    refine cd_seq ?_
    refine cd_region ?_
    refine st_v (v_eql rfl rfl) ?_
    refine st_v (v_assign rfl) ?_
    refine st_nil (nx_kp [0, 3, 4, 5, 6, 7, 8, 9, 11, 28] rfl (nx_then ?_))
    refine cd_cond rfl (fun c1 => ?_) (fun c1 => ?_)
    · skip
      refine cd_region ?_
      refine st_v (v_move rfl) ?_
      refine st_v (v_fieldAddr rfl fa38_1 rfl) ?_
      refine st_v (v_ld rfl ld3) ?_
      refine st_clr rfl rfl en42 rfl (nil_shape_ct) ?_
      refine st_v (v_move rfl) ?_
      refine st_v (v_extract rfl rfl) ?_
      refine st_v (v_extract rfl rfl) ?_
      refine st_v (v_assign rfl) ?_
      refine st_v (v_assign rfl) ?_
      refine st_nil (nx_kp [4, 5, 6, 7, 8, 9] rfl (nx_xt ?_))
      refine xt_normal_block ?_
      refine xt_then ?_
      refine cd_seq ?_
      refine cd_region ?_
      refine st_v (v_move rfl) ?_
      refine st_v (v_move rfl) ?_
      refine st_v (v_move rfl) ?_
      refine st_v (v_assign rfl) ?_
      refine st_v (v_assign rfl) ?_
      refine st_v (v_assign rfl) ?_
      refine st_nil (nx_kp [4, 5, 6] rfl (nx_then ?_))
      refine cd_ret ?_
      exact xt_rt rfl ⟨rfl, rfl⟩
    · skip
      refine cd_seq ?_
      refine cd_region ?_
      refine st_v (v_eql rfl rfl) ?_
      refine st_v (v_assign rfl) ?_
      refine st_nil (nx_kp [0, 3, 4, 5, 6, 7, 8, 9, 11, 37] rfl (nx_then ?_))
      refine cd_cond rfl (fun c2 => ?_) (fun c2 => ?_)
      · skip
        refine cd_region ?_
        refine st_v (v_move rfl) ?_
        refine st_v (v_fieldAddr rfl fa38_1 rfl) ?_
        refine st_v (v_ld rfl ld3) ?_
        refine st_v (v_fieldAddr rfl fa38_2 rfl) ?_
        refine st_v (v_ld rfl ld3) ?_
        refine st_cl rfl rfl en41 rfl (nil_get_ct) ?_
        rintro v' h' ⟨rfl, rfl⟩
        simp only [List.nil_append]
        refine st_v (v_move rfl) ?_
        refine st_v (v_extract rfl rfl) ?_
        refine st_v (v_extract rfl rfl) ?_
        refine st_v (v_assign rfl) ?_
        refine st_v (v_assign rfl) ?_
        refine st_nil (nx_kp [4, 5, 6, 7, 8, 9] rfl (nx_xt ?_))
        refine xt_normal_block ?_
        refine xt_then ?_
        refine cd_seq ?_
        refine cd_region ?_
        refine st_v (v_move rfl) ?_
        refine st_v (v_move rfl) ?_
        refine st_v (v_move rfl) ?_
        refine st_v (v_assign rfl) ?_
        refine st_v (v_assign rfl) ?_
        refine st_v (v_assign rfl) ?_
        refine st_nil (nx_kp [4, 5, 6] rfl (nx_then ?_))
        refine cd_ret ?_
        exact xt_rt rfl ⟨rfl, rfl⟩
      · skip
        refine cd_seq ?_
        refine cd_region ?_
        refine st_v (v_eql rfl rfl) ?_
        refine st_v (v_assign rfl) ?_
        refine st_nil (nx_kp [0, 3, 4, 5, 6, 7, 8, 9, 11, 48] rfl (nx_then ?_))
        refine cd_cond rfl (fun c3 => ?_) (fun c3 => ?_)
        · skip
          refine cd_region ?_
          refine st_v (v_move rfl) ?_
          refine st_v (v_fieldAddr rfl fa38_1 rfl) ?_
          refine st_v (v_ld rfl ld3) ?_
          refine st_v (v_fieldAddr rfl fa38_2 rfl) ?_
          refine st_v (v_ld rfl ld3) ?_
          refine st_v (v_fieldAddr rfl fa38_3 rfl) ?_
          refine st_v (v_ld rfl ld3) ?_
          refine st_cl rfl rfl en40 rfl (nil_set_ct) ?_
          rintro v' h' ⟨rfl, rfl⟩
          simp only [List.nil_append]
          refine st_v (v_assign rfl) ?_
          refine st_nil (nx_kp [4, 5, 6, 7, 8, 9] rfl (nx_xt ?_))
          refine xt_normal_block ?_
          refine xt_then ?_
          refine cd_seq ?_
          refine cd_region ?_
          refine st_v (v_move rfl) ?_
          refine st_v (v_move rfl) ?_
          refine st_v (v_move rfl) ?_
          refine st_v (v_assign rfl) ?_
          refine st_v (v_assign rfl) ?_
          refine st_v (v_assign rfl) ?_
          refine st_nil (nx_kp [4, 5, 6] rfl (nx_then ?_))
          refine cd_ret ?_
          exact xt_rt rfl ⟨rfl, rfl⟩
        · skip
          refine cd_seq ?_
          refine cd_region ?_
          refine st_v (v_eql rfl rfl) ?_
          refine st_v (v_assign rfl) ?_
          refine st_nil (nx_kp [0, 3, 4, 5, 6, 7, 8, 9, 11, 58] rfl (nx_then ?_))
          refine cd_cond rfl (fun c4 => ?_) (fun c4 => ?_)
          · skip
            refine cd_region ?_
            refine st_v (v_move rfl) ?_
            refine st_v (v_fieldAddr rfl fa38_4 rfl) ?_
            refine st_v (v_ld rfl ld34) ?_
            refine st_cl rfl rfl en34 rfl (nil_Minor_ct) ?_
            rintro v' h' ⟨rfl, rfl⟩
            simp only [List.nil_append]
            refine st_v (v_move rfl) ?_
            refine st_v (v_extract rfl rfl) ?_
            refine st_v (v_extract rfl rfl) ?_
            refine st_v (v_assign rfl) ?_
            refine st_v (v_assign rfl) ?_
            refine st_nil (nx_kp [4, 5, 6, 7, 8, 9] rfl (nx_xt ?_))
            refine xt_normal_block ?_
            refine xt_then ?_
            refine cd_seq ?_
            refine cd_region ?_
            refine st_v (v_move rfl) ?_
            refine st_v (v_move rfl) ?_
            refine st_v (v_move rfl) ?_
            refine st_v (v_assign rfl) ?_
            refine st_v (v_assign rfl) ?_
            refine st_v (v_assign rfl) ?_
            refine st_nil (nx_kp [4, 5, 6] rfl (nx_then ?_))
            refine cd_ret ?_
            exact xt_rt rfl ⟨rfl, rfl⟩
          · skip
            refine cd_seq ?_
            refine cd_region ?_
            refine st_v (v_eql rfl rfl) ?_
            refine st_v (v_assign rfl) ?_
            refine st_nil (nx_kp [0, 3, 4, 5, 6, 7, 8, 9, 67] rfl (nx_then ?_))
            refine cd_cond rfl (fun c5 => ?_) (fun c5 => ?_)
            · skip
              refine cd_region ?_
              refine st_v (v_move rfl) ?_
              refine st_v (v_fieldAddr rfl fa38_4 rfl) ?_
              refine st_v (v_ld rfl ld34) ?_
              refine st_cl rfl rfl en43 rfl (nil_flip_ct) ?_
              rintro v' h' ⟨rfl, rfl⟩
              simp only [List.nil_append]
              refine st_v (v_move rfl) ?_
              refine st_v (v_extract rfl rfl) ?_
              refine st_v (v_extract rfl rfl) ?_
              refine st_v (v_assign rfl) ?_
              refine st_v (v_assign rfl) ?_
              refine st_nil (nx_kp [4, 5, 6, 7, 8, 9] rfl (nx_xt ?_))
              refine xt_normal_block ?_
              refine xt_then ?_
              refine cd_seq ?_
              refine cd_region ?_
              refine st_v (v_move rfl) ?_
              refine st_v (v_move rfl) ?_
              refine st_v (v_move rfl) ?_
              refine st_v (v_assign rfl) ?_
              refine st_v (v_assign rfl) ?_
              refine st_v (v_assign rfl) ?_
              refine st_nil (nx_kp [4, 5, 6] rfl (nx_then ?_))
              refine cd_ret ?_
              exact xt_rt rfl ⟨rfl, rfl⟩
            · skip
              refine cd_region ?_
              refine st_v (v_move rfl) ?_
              refine st_v (v_fieldAddr rfl fa38_1 rfl) ?_
              refine st_v (v_ld rfl ld3) ?_
              refine st_cl rfl rfl en31 rfl (nil_step_ct) ?_
              rintro v' h' ⟨rfl, rfl⟩
              simp only [List.nil_append]
              refine st_v (v_move rfl) ?_
              refine st_v (v_extract rfl rfl) ?_
              refine st_v (v_extract rfl rfl) ?_
              refine st_v (v_assign rfl) ?_
              refine st_v (v_assign rfl) ?_
              refine st_nil (nx_kp [4, 5, 6, 7, 8, 9] rfl (nx_xt ?_))
              refine xt_normal_block ?_
              refine xt_then ?_
              refine cd_seq ?_
              refine cd_region ?_
              refine st_v (v_move rfl) ?_
              refine st_v (v_move rfl) ?_
              refine st_v (v_move rfl) ?_
              refine st_v (v_assign rfl) ?_
              refine st_v (v_assign rfl) ?_
              refine st_v (v_assign rfl) ?_
              refine st_nil (nx_kp [4, 5, 6] rfl (nx_then ?_))
              refine cd_ret ?_
              exact xt_rt rfl ⟨rfl, rfl⟩
theorem rowI_nil (R : Res) : RowI R (.slice none 0 0) [] := ⟨none, 0, rfl, .inl rfl⟩
set_option maxRecDepth 100000 in
theorem samePics_nil_ct : Ct Try.prog 22 #[.agg #[.slice none 0 0, .slice none 0 0, .slice none 0 0], .agg #[.slice none 0 0, .slice none 0 0, .slice none 0 0]] [] fun v h' => v = .bool true ∧ h' = [] := by
  refine ct_of (n := 54) Try.func22 rfl rfl (len rfl) fun hr w0 => ?_
  simp only [List.nil_append]
  refine cd_seq ?_
  refine cd_region ?_
  refine st_bx rfl rfl fun b2 => ?_
  refine st_bx rfl rfl fun b3 => ?_
  refine st_v (v_assign rfl) ?_
  refine st_nil (nx_kp [2, 3, 4] rfl (nx_then ?_))
  refine cd_seq ?_
  refine cd_region ?_
  refine st_v (v_fieldAddr rfl fa42_0 rfl) ?_
  refine st_v (v_ld rfl ld34) ?_
  refine st_v (v_fieldAddr rfl fa42_0 rfl) ?_
  refine st_v (v_ld rfl ld34) ?_
  refine st_clr rfl rfl en21 rfl (sameInts_ct (R := pt b2 (cl [.slice none 0 0, .slice none 0 0, .slice none 0 0] 42)) (rowI_nil _) (rowI_nil _) (Nat.zero_le _)) ?_
  rw [show (([] : List Int) == []) = true from rfl]
  refine st_v (v_assign rfl) ?_
  refine st_nil (nx_kp [2, 3, 4, 5] rfl (nx_then ?_))
  refine cd_seq ?_
  refine cd_region ?_
  refine st_v (v_fieldAddr rfl fa42_2 rfl) ?_
  refine st_v (v_ld rfl ld34) ?_
  refine st_v (v_fieldAddr rfl fa42_2 rfl) ?_
  refine st_v (v_ld rfl ld34) ?_
  refine st_clr rfl rfl en21 rfl (sameInts_ct (R := pt b2 (cl [.slice none 0 0, .slice none 0 0, .slice none 0 0] 42)) (rowI_nil _) (rowI_nil _) (Nat.zero_le _)) ?_
  rw [show (([] : List Int) == []) = true from rfl]
  refine st_v (v_assign rfl) ?_
  refine st_nil (nx_kp [2, 3, 4, 5, 6] rfl (nx_then ?_))
  refine cd_seq ?_
  refine cd_seq ?_
  refine cd_region ?_
  refine st_v (v_move rfl) ?_
  refine st_v (v_not rfl) ?_
  refine st_v (v_move rfl) ?_
  refine st_vg rfl rfl (v_move rfl) ?_
  refine st_vg rfl rfl (v_not rfl) ?_
  refine st_v (v_pick_false rfl rfl) ?_
  refine st_v (v_move rfl) ?_
  refine st_vg rfl rfl (v_fieldAddr rfl fa42_1 rfl) ?_
  refine st_vg rfl rfl (v_ld rfl ld40) ?_
  refine st_vg rfl rfl (v_len rfl Try.underlying40) ?_
  refine st_vg rfl rfl (v_fieldAddr rfl fa42_1 rfl) ?_
  refine st_vg rfl rfl (v_ld rfl ld40) ?_
  refine st_vg rfl rfl (v_len rfl Try.underlying40) ?_
  refine st_vg rfl rfl (v_neq rfl rfl) ?_
  refine st_v (v_pick_false rfl rfl) ?_
  refine st_nil (nx_kp [2, 3, 4, 33] rfl (nx_then ?_))
  refine cd_false rfl ?_
  refine cd_skip ?_
  refine xt_then ?_
  refine cd_seq ?_
  refine cd_seq ?_
  refine cd_region ?_
  refine st_v (v_assign rfl) ?_
  refine st_nil (nx_kp [2, 3, 4, 7] rfl (nx_then ?_))
  refine cd_block ?_
  refine cd_lp (σ := Unit) (fun _ => [(2, .pointer (some ⟨b2, 0, none⟩)), (3, .pointer (some ⟨b3, 0, none⟩)), (7, .int .i64 0)]) (fun _ => pt b2 (cl [.slice none 0 0, .slice none 0 0, .slice none 0 0] 42) :: hr) (fun _ => True) (fun _ => 0) () trivial ?_
  rintro ⟨⟩ _
  refine cd_seq ?_
  refine cd_seq ?_
  refine cd_region ?_
  refine st_v (v_move rfl) ?_
  refine st_v (v_fieldAddr rfl fa42_1 rfl) ?_
  refine st_v (v_ld rfl ld40) ?_
  refine st_v (v_len rfl Try.underlying40) ?_
  refine st_v (v_lss rfl rfl) ?_
  refine st_nil (nx_then ?_)
  refine cd_false rfl ?_
  refine cd_exit ?_
  refine xt_exit_then ?_
  refine xt_exit_then ?_
  refine xt_exit_block ?_
  refine xt_then ?_
  refine cd_seq ?_
  refine cd_region ?_
  refine st_v (v_assign rfl) ?_
  refine st_nil (nx_kp [4] rfl (nx_then ?_))
  refine cd_ret ?_
  exact xt_rt rfl ⟨rfl, rfl⟩
set_option maxHeartbeats 4000000 in
set_option maxRecDepth 100000 in
theorem heapNil_c {a b c d : Int} {v : Value} (hb : I64 b) : Ct Try.prog 4 #[.agg #[.int .i64 a, .int .i64 b, .int .i64 c, .int .i64 d, v]] [] fun u h' => u = .bool true ∧ h' = [] := by
  refine ct_of (n := 69) Try.func4 rfl rfl (len rfl) fun hr w0 => ?_
  simp only [List.nil_append]
  refine cd_seq ?_
  refine cd_region ?_
  refine st_bx rfl rfl fun b1 => ?_
  refine st_v (v_assign rfl) ?_
  refine st_nil (nx_kp [1, 2] rfl (nx_then ?_))
  refine cd_seq ?_
  refine cd_region ?_
  refine st_v (v_assign rfl) ?_
  refine st_nil (nx_then ?_)
  refine cd_seq ?_
  refine cd_region ?_
  refine st_v (v_move rfl) ?_
  refine st_v (v_loadW rfl ld38 rfl (by repeat (first | exact Sel.here | apply Sel.there))) ?_
  refine st_cl rfl rfl en17 rfl (called_nil_ct hb) ?_
  rintro v' h' ⟨rfl, rfl⟩
  simp only [List.nil_append]
  refine st_v (v_move rfl) ?_
  refine st_v (v_extract rfl rfl) ?_
  refine st_v (v_extract rfl rfl) ?_
  refine st_v (v_extract rfl rfl) ?_
  refine st_v (v_assign rfl) ?_
  refine st_v (v_assign rfl) ?_
  refine st_v (v_assign rfl) ?_
  refine st_nil (nx_kp [1, 2, 3, 4, 5, 6] rfl (nx_then ?_))
  refine cd_seq ?_
  refine cd_region ?_
  refine st_v (v_move rfl) ?_
  refine st_v (v_fieldAddr rfl fa38_4 rfl) ?_
  refine st_v (v_ld rfl ld34) ?_
  refine st_clr rfl rfl en19 rfl (nil_picture_ct) ?_
  refine st_v (v_move rfl) ?_
  refine st_v (v_extract rfl rfl) ?_
  refine st_v (v_extract rfl rfl) ?_
  refine st_alc al42 fun b7 => ?_
  refine st_stoW rfl rfl sz42 rfl rfl ?_
  refine st_v (v_assign rfl) ?_
  refine st_nil (nx_kp [2, 3, 4, 5, 6, 7, 8] rfl (nx_then ?_))
  refine cd_seq ?_
  refine cd_region ?_
  refine st_v (v_loadW rfl ld42 rfl (by repeat (first | exact Sel.here | apply Sel.there))) ?_
  refine st_v (v_build (cells := [.slice none 0 0, .slice none 0 0, .slice none 0 0]) rfl (fun _ => by kernel_rfl)) ?_
  refine st_cl rfl rfl en22 rfl (samePics_nil_ct) ?_
  rintro v' h' ⟨rfl, rfl⟩
  simp only [List.nil_append]
  refine st_v (v_assign rfl) ?_
  refine st_nil (nx_kp [2, 3, 4, 5, 6, 8, 9] rfl (nx_then ?_))
  refine cd_seq ?_
  refine cd_region ?_
  refine st_cl rfl rfl en14 rfl (sanity_c) ?_
  rintro v' h' ⟨rfl, rfl⟩
  simp only [List.nil_append]
  refine st_v (v_move rfl) ?_
  refine st_vg rfl rfl (v_move rfl) ?_
  refine st_vg rfl rfl (v_eql rfl rfl) ?_
  refine st_v (v_pick_true rfl rfl) ?_
  refine st_v (v_move rfl) ?_
  refine st_vg rfl rfl (v_move rfl) ?_
  refine st_vg rfl rfl (v_len rfl Try.underlying34) ?_
  refine st_vg rfl rfl (v_eql rfl rfl) ?_
  refine st_v (v_pick_true rfl rfl) ?_
  refine st_v (v_move rfl) ?_
  refine st_vg rfl rfl (v_move rfl) ?_
  refine st_vg rfl rfl (v_eql rfl rfl) ?_
  refine st_v (v_pick_true rfl rfl) ?_
  refine st_v (v_move rfl) ?_
  refine st_vg rfl rfl (v_move rfl) ?_
  refine st_vg rfl rfl (v_eql rfl rfl) ?_
  refine st_v (v_pick_true rfl rfl) ?_
  refine st_v (v_move rfl) ?_
  refine st_vg rfl rfl (v_move rfl) ?_
  refine st_v (v_pick_true rfl rfl) ?_
  refine st_v (v_move rfl) ?_
  refine st_vg rfl rfl (v_move rfl) ?_
  refine st_clrg rfl rfl rfl rfl en23 rfl (nil_busy_ct) ?_
  refine st_vg rfl rfl (v_not rfl) ?_
  refine st_v (v_pick_true rfl rfl) ?_
  refine st_v (v_move rfl) ?_
  refine st_vg rfl rfl (v_move rfl) ?_
  refine st_clrg rfl rfl rfl rfl en24 rfl (nil_room_ct) ?_
  refine st_vg rfl rfl (v_build (cells := ints [0, 0, 0]) rfl (fun _ => by kernel_rfl)) ?_
  refine st_vg rfl rfl (v_eql_ints (xs := [0, 0, 0]) (ys := [0, 0, 0]) eqi54 rfl rfl rfl rfl) ?_
  rw [show (([0, 0, 0] : List Int) == [0, 0, 0]) = true by decide]
  refine st_v (v_pick_true rfl rfl) ?_
  refine st_v (v_move rfl) ?_
  refine st_vg rfl rfl (v_move rfl) ?_
  refine st_clrg rfl rfl rfl rfl en26 rfl (nil_check_ct) ?_
  refine st_vg rfl rfl (v_eql rfl rfl) ?_
  refine st_v (v_pick_true rfl rfl) ?_
  refine st_v (v_move rfl) ?_
  refine st_vg rfl rfl (v_move rfl) ?_
  refine st_clrg rfl rfl rfl rfl en27 rfl (nil_copy_ct) ?_
  refine st_vg rfl rfl (v_eql_ptr_nil rfl rfl pt27) ?_
  refine st_v (v_pick_true rfl rfl) ?_
  refine st_v (v_assign rfl) ?_
  refine st_nil (nx_kp [2] rfl (nx_then ?_))
  refine cd_ret ?_
  exact xt_rt rfl ⟨rfl, rfl⟩
end Go.Proofs.Ytmhmpjgkkpbnnaa
namespace Go.Proofs.Ytmhmpjgkkpbnnaa
open Go Go.RowKit Go.ChangeShapes Go.WideShapes Go.Ck
theorem own : ownKnob Try.prog.godebug = none := by kernel_rfl
theorem fs38 : ∃ gs, Try.prog.underlying 38 = some (.struct gs) := ⟨_, Try.underlying38⟩
def nilTys : List Ty := [.struct [.int .i64, .int .i64, .int .i64, .int .i64, .slice (.int .i64)]]
theorem fitNil : fitAll Try.prog nilTys [38] = true := by kernel_rfl
theorem wf_I64 {n : Int} (h : (Lit.int .i64 n).wf = true) : I64 n := by
  unfold Lit.wf at h
  simp [IntKind.min, IntKind.max, IntKind.signed, IntKind.bits] at h
  unfold I64; omega
set_option maxRecDepth 100000 in
theorem heapNil_lifted (os : Os) (started : os.Started) (H : Type) (enc : TypeId × Value → H) :
    ReturnsInHanded {} Try.checked os 4 .any (Rows.heapNilSpec.pre6 enc Try.prog Try.f4 Rows.heapNilRow.domain false) (Rows.heapNilSpec.post enc Try.prog Try.f4 false true false false) := by
  refine returnsInHanded_of_change (C := Try.checked) own started (by kernel_rfl) Try.func4
    (ChangeSpec.witness6 (enc := enc) (C := Try.checked) false ⟨#[], #[.agg #[.int .i64 0, .int .i64 0, .int .i64 0, .int .i64 0, .slice none 0 0]], []⟩ 8 (by kernel_rfl) (by kernel_rfl) (by kernel_rfl) (by kernel_rfl)) ?_
  intro W base args ds gs before hval0 hW hcnd _
  have hval : ∀ (j : Nat) t v, Try.f4.params[j]? = some t → args[j]? = some v → Value.okWide Try.prog W .any base t v := hval0
  have hW' := hW
  obtain ⟨p, q, hA0, hV, rfl, hfz, hnd⟩ := hW
  have hA : DataW.TrodAll enc Try.prog W 0 (fun _ => true) true Try.f4.params.toList args.toList ds p := hA0
  rw [Try.params4] at hA hval
  obtain ⟨v0, vs0, d0, ds0, p0, q0, hargs, rfl, rfl, h0, r0⟩ := trodAll_cons hA
  obtain ⟨rfl, rfl, rfl⟩ := trodAll_nil r0
  obtain rfl : args = #[v0] := by cases args; simp_all
  obtain ⟨rfl, rfl⟩ := trodVars_none hV
  obtain ⟨gs, hgs⟩ := fs38
  have hv := okWide_agg hgs (hval 0 38 v0 rfl rfl)
  obtain ⟨⟨a, b, c, d, l, x⟩, hy⟩ := arg_rep (ty := .struct [.int .i64, .int .i64, .int .i64, .int .i64, .slice (.int .i64)]) (by kernel_rfl) h0
  simp only [Rep, Reps] at hy
  obtain ⟨u1, us1, e1, l1, r1, u2, us2, e2, l2, r2, u3, us3, e3, l3, r3, u4, us4, e4, l4, r4, u5, us5, e5, l5, r5, r6⟩ := hy
  obtain ⟨al, cap, r5, _⟩ := r5
  obtain ⟨rfl, _⟩ := r1
  obtain ⟨rfl, w2⟩ := r2
  obtain ⟨rfl, _⟩ := r3
  obtain ⟨rfl, _⟩ := r4
  subst r5 r6 e5 e4 e3 e2
  have hb := wf_I64 w2
  have hv2 : v0 = .agg #[.int .i64 a, .int .i64 b, .int .i64 c, .int .i64 d, .slice al (List.length l) cap] := by
    rw [hv]
    congr 1
    apply Array.toList_inj.1
    rw [e1]; rfl
  have hwalk : Ct Try.prog 4 #[.agg #[.int .i64 a, .int .i64 b, .int .i64 c, .int .i64 d, .slice al (List.length l) cap]] [old W] (fun v h => v = .bool true ∧ h = [old W]) :=
    (heapNil_c hb).conv (x := [old W]) Pk.nil fun v h1 h => ⟨[old W], ⟨h.1, rfl⟩, by rw [h.2]; exact .refl _⟩
  rw [hv2] at hW' ⊢
  refine (ct_calls hwalk fun v h' h => ⟨h.1, by rw [h.2]; exact .refl _⟩).mono fun e W' ⟨he, hk⟩ => ⟨_, he, ?_⟩
  exact law_post hW' rfl (by kernel_rfl) Try.underlying4 (by rw [Try.params4]; exact fitNil) rfl hk
theorem heapNil_holds : Rows.HeapNilSaid :=
  OpenClaim.holds_of_wide 4 Try.f4 rfl rfl rfl rfl rfl rfl rfl ⟨rfl, rfl, rfl, rfl, rfl⟩ rfl rfl rfl rfl rfl (by kernel_rfl) Try.func4 (by kernel_rfl)
    (of_decide_eq_true (by kernel_rfl)) (by unfold Func.isWrapper; first | (rw [if_pos (by decide +kernel)]; kernel_rfl) | (rw [if_neg (by decide +kernel)]; exact ⟨rfl, rfl⟩))
    (fun os started H enc _ => heapNil_lifted os started H enc)
end Go.Proofs.Ytmhmpjgkkpbnnaa
