/-
  The chapter's example is as it must be: sanity. No condition.
  HeapNil: a nil memory has the errors, and the zero values, that it must have. No condition: for every call.
  Small lemmas that the reference and the player share: arrays loaded, lists forwarded, the law's fit, a new machine. Conditions: what the heap holds.
  What the arguments of the laws read as: shapes, rows, numbers, acts. No condition.
  Pictures: their parts, and what holds them; objects of the plain machine. Conditions: what the heap holds, that the machine is in order.
-/
import Derived.Test.YtmhmpjgkkpbnnaaM9
import Derived.Test.YtmhmpjgkkpbnnaaM7
import Derived.Test.YtmhmpjgkkpbnnaaM2
import Derived.JoinedCond
import Derived.Test.YtmhmpjgkkpbnnaaM4
namespace Go.Ck
open Go
section
variable {c : Cx} {ops : Array Oper} {K : Act → World → Prop} {rest : List Oper} {e : Env} {h : SH}
/-- An operation with an effect, at a guard that says yes. -/
theorem st_guard {d : Option Nat} {op : Op} {ty : TypeId} {pos : String} {after : Array Edge} {g gd : Nat} {want : Bool} (hd : ∀ k, op ≠ .defer k) (hg : ((ops[g]?).bind (·.dst)) = some gd) (hgv : e.get? gd = some (.bool want))
    (hs : St c ops K (⟨d, op, ty, pos, after, none⟩ :: rest) e h) : St c ops K (⟨d, op, ty, pos, after, some (g, want)⟩ :: rest) e h := fun a w hk hh hw => by
  have h1 := hs a w hk hh hw
  unfold LsW at h1 ⊢
  rw [if_pos (by simp [Region.wanted])] at h1
  rw [if_pos (by simp [Region.wanted, yields_guard hg hgv hk])]
  unfold OpW OpV at h1 ⊢
  rw [Oper.semAt_eq _ _ _ hd] at h1 ⊢
  exact h1
end
end Go.Ck
namespace Go.Proofs.Ytmhmpjgkkpbnnaa
open Go.Ck Fx Go.Hm Go.Hm.AM
attribute [local irreducible] St Cd Xt Nx DrL LsW
theorem eqi54 : EqI Try.prog 54 3 := EqI.of Try.underlying54 (by kernel_rfl) (by kernel_rfl) (by kernel_rfl) rfl
theorem rowI_pt {b : Nat} {l : List Int} : RowI (pt b (cl (ints l) 3)) (.slice (some ⟨b, 0, none⟩) l.length l.length) l := ⟨_, _, rfl, .inr ⟨b, 0, rfl, fun j hj => rd_cl (by simp [ints, hj])⟩⟩
set_option maxRecDepth 100000 in
theorem sameInts2_ct {R1 R2 : Res} {v1 v2 : Value} {l1 l2 : List Int} (h1 : RowI R1 v1 l1) (h2 : RowI R2 v2 l2) (hl : l1.length ≤ 1000000) : Reads Try.prog 21 #[v1, v2] [R1, R2] (.bool (l1 == l2)) :=
  Reads.unstar (sameInts_ct (RowI.star .here h1) (RowI.star (.there .here) h2) hl)
theorem rowI_vec {v : Value} {n : Nat} {l : List Int} {a : Option Addr} {cp : Nat} (hv : v = .slice a n cp) (ha : 0 < n → ∃ b, a = some ⟨b, 0, none⟩) (hn : l.length = n) : RowI (vec v 3 1 n (ints l)) v l := by
  subst hn
  refine ⟨a, cp, hv, ?_⟩
  by_cases h0 : l.length = 0
  · exact .inl (List.eq_nil_of_length_eq_zero h0)
  · obtain ⟨b, rfl⟩ := ha (by omega)
    exact .inr ⟨b, 0, rfl, fun j hj => by rw [Nat.zero_add]; exact rd_vec hv (by simp [ints, hj])⟩
set_option maxHeartbeats 8000000 in
set_option maxRecDepth 100000 in
theorem sanity_c : Ct Try.prog 14 #[] [] fun v h' => v = .bool true ∧ h' = [] := by
  refine ct_of (n := 209) Try.func14 rfl rfl (len rfl) fun hr w0 => ?_
  simp only [List.nil_append]
  refine cd_seq (cd_region (st_v (v_assign rfl) (st_nil (nx_then (cd_seq (cd_region (st_cl rfl rfl en39 rfl (shapes_ct) ?_)))))))
  rintro v' h' ⟨R, hR, rfl⟩
  simp only [List.cons_append, List.nil_append]
  refine st_cl rfl rfl en15 rfl (new_c hR (by decide)) ?_
  rintro v' h' hu
  rcases hu with ⟨h1, _⟩ | ⟨_, L, μ0, S, rfl, I0, rfl⟩
  · exact absurd (by decide) h1
  have I0 : MI L μ0 S sm0 := I0
  simp only [memSH, List.cons_append, List.nil_append]
  refine st_v (v_move rfl) (st_v (v_extract rfl rfl) (st_v (v_extract rfl rfl) (st_v (v_assign rfl) (st_v (v_assign rfl) (st_nil (nx_kp [0, 1, 2] rfl (nx_then (cd_seq (cd_seq (cd_region (st_v (v_move rfl) (st_v (v_neq rfl rfl) (st_v (v_move rfl) (st_vg rfl rfl (v_move rfl) (st_vg rfl rfl (v_eql_ptr_nil rfl rfl pt27) ?_)))))))))))))))
  refine st_v (v_pick_false rfl rfl) (st_nil (nx_kp [0, 1, 38] rfl (nx_then (cd_false rfl ?_))))
  refine cd_skip (xt_then (cd_seq (cd_region (st_v (v_move rfl) ?_))))
  obtain ⟨_, _, _, _, _, g0⟩ := sf0
  obtain ⟨_, _, _, _, _, g1⟩ := sf0.alloc 0
  obtain ⟨_, _, _, _, _, g2⟩ := (sf0.alloc 0).alloc 0
  obtain ⟨_, _, _, _, _, g3⟩ := sf3
  refine st_cl rfl rfl en33 rfl (alloc_c I0 g0 0) ?_
  rintro v' h' ⟨μ1, rfl, I1, rfl⟩
  have I1 : MI L μ1 S sm1 := I1
  rw [se1.1, se1.2]
  simp only [memSH, List.cons_append, List.nil_append]
  refine st_v (v_move rfl) (st_v (v_extract rfl rfl) (st_v (v_extract rfl rfl) (st_v (v_assign rfl) (st_v (v_assign rfl) (st_nil (nx_kp [0, 1, 3, 4] rfl (nx_then (cd_seq (cd_region (st_v (v_move rfl) (st_cl rfl rfl en33 rfl (alloc_c I1 g1 0) ?_)))))))))))
  rintro v' h' ⟨μ2, rfl, I2, rfl⟩
  have I2 : MI L μ2 S sm2 := I2
  rw [se2.1, se2.2]
  simp only [memSH, List.cons_append, List.nil_append]
  refine st_v (v_move rfl) (st_v (v_extract rfl rfl) (st_v (v_extract rfl rfl) (st_v (v_assign rfl) (st_v (v_assign rfl) (st_nil (nx_kp [0, 1, 3, 4, 5, 6] rfl (nx_then (cd_seq (cd_region (st_v (v_move rfl) (st_cl rfl rfl en33 rfl (alloc_c I2 g2 0) ?_)))))))))))
  rintro v' h' ⟨μ3, rfl, I3, rfl⟩
  have I3 : MI L μ3 S sm3 := I3
  rw [se3.1, se3.2]
  simp only [memSH, List.cons_append, List.nil_append]
  refine st_v (v_move rfl) (st_v (v_extract rfl rfl) (st_v (v_extract rfl rfl) (st_v (v_assign rfl) (st_v (v_assign rfl) (st_nil (nx_kp [0, 1, 3, 4, 5, 6, 7, 8] rfl (nx_then (cd_seq (cd_region (st_v (v_move rfl) (st_cl rfl rfl en33 rfl (alloc_c I3 g3 0) ?_)))))))))))
  rintro v' h' ⟨μ4, rfl, I4, rfl⟩
  have I4 : MI L μ4 S sm3 := by have e : (sm3.alloc 0).2.2 = sm3 := (alloc_err (by rw [se4.2]; decide)).1
                                rw [← e]; exact I4
  rw [se4.1, se4.2]
  simp only [memSH, List.cons_append, List.nil_append]
  refine st_v (v_move rfl) (st_v (v_extract rfl rfl) (st_v (v_extract rfl rfl) (st_v (v_assign rfl) (st_v (v_assign rfl) (st_nil (nx_kp [0, 1, 3, 4, 5, 6, 7, 8, 10] rfl (nx_then (cd_seq (cd_region (st_v (v_move rfl) (st_cl rfl rfl en40 rfl (set_c I4 g3 1 1 4) ?_)))))))))))
  rintro v' h' ⟨L5, μ5, rfl, I5, hL5, rfl⟩
  have I5 : MI L5 μ5 S sm5 := I5
  rw [se5, ← hL5]
  simp only [memSH, List.cons_append, List.nil_append]
  obtain ⟨_, _, _, _, _, g5⟩ := sf5
  refine st_v (v_assign rfl) (st_nil (nx_kp [0, 1, 3, 4, 5, 6, 7, 8, 10, 11] rfl (nx_then (cd_seq (cd_region (st_v (v_move rfl) (st_buildSlice (cells := [.int .i64 4, .int .i64 1]) rfl Try.underlying34 inf3 rfl rfl (by kernel_rfl) (ltn rfl) fun b63 => ?_)))))))
  refine st_cl rfl rfl en34 rfl (minor_c I5 g5 (rowI_pt (b := b63) (l := [4, 1])) (by decide)) ?_
  rintro v' h' ⟨sl6, L6, μ6, rfl, I6, hL6, rfl⟩
  have I6 : MI L6 μ6 S sm6 := I6
  rw [se6.1, se6.2.1, ← hL6]
  simp only [memSH, List.cons_append, List.nil_append]
  refine st_v (v_move rfl) (st_v (v_extract rfl rfl) (st_v (v_extract rfl rfl) (st_v (v_assign rfl) (st_v (v_assign rfl) (st_nil (nx_kp [0, 1, 3, 4, 5, 6, 7, 8, 10, 11, 12, 13] rfl (nx_then (cd_seq (cd_seq (cd_vecshape (v := sl6) (E := 3) (sz := 1) (n := 2) (l := ints [11, 14]) (by repeat (first | exact Sel.here | apply Sel.there)) fun sa6 sc6 hs6 ha6 => ?_))))))))))
  refine cd_region (st_v (v_move rfl) (st_v (v_neq rfl rfl) (st_v (v_move rfl) (st_vg rfl rfl (v_move rfl) (st_vg rfl rfl (v_neq rfl rfl) (st_v (v_pick_false rfl rfl) (st_v (v_move rfl) (st_vg rfl rfl (v_move rfl) (st_vg rfl rfl (v_neq rfl rfl) (st_v (v_pick_false rfl rfl) (st_v (v_move rfl) (st_vg rfl rfl (v_move rfl) (st_vg rfl rfl (v_neq rfl rfl) ?_)))))))))))))
  refine st_v (v_pick_false rfl rfl) (st_v (v_move rfl) (st_vg rfl rfl (v_move rfl) (st_vg rfl rfl (v_neq rfl rfl) (st_v (v_pick_false rfl rfl) (st_v (v_move rfl) (st_vg rfl rfl (v_move rfl) (st_vg rfl rfl (v_neq rfl rfl) (st_v (v_pick_false rfl rfl) (st_v (v_move rfl) (st_vg rfl rfl (v_move rfl) (st_vg rfl rfl (v_neq rfl rfl) (st_v (v_pick_false rfl rfl) (st_v (v_move rfl) ?_)))))))))))))
  refine st_vg rfl rfl (v_move rfl) (st_vg rfl rfl (v_neq rfl rfl) (st_v (v_pick_false rfl rfl) (st_v (v_move rfl) (st_vg rfl rfl (v_move rfl) (st_vg rfl rfl (v_neq rfl rfl) (st_v (v_pick_false rfl rfl) (st_v (v_move rfl) (st_vg rfl rfl (v_move rfl) (st_guard (by simp) rfl rfl (st_buildSlice (cells := [.int .i64 11, .int .i64 14]) rfl Try.underlying34 inf3 rfl rfl (by kernel_rfl) (ltn rfl) fun b103 => ?_))))))))))
  refine st_clrg rfl rfl rfl rfl en21 rfl (sameInts2_ct (l1 := [11, 14]) (l2 := [11, 14]) (rowI_vec hs6 ha6 rfl) (rowI_pt (b := b103) (l := [11, 14])) (by decide)) ?_
  rw [show (([11, 14] : List Int) == [11, 14]) = true by decide]
  refine st_vg rfl rfl (v_not rfl) (st_v (v_pick_false rfl rfl) (st_nil (nx_kp [0, 1, 12, 106] rfl (nx_then (cd_false rfl ?_)))))
  refine cd_skip (xt_then (cd_seq (cd_region (st_v (v_move rfl) ?_))))
  obtain ⟨_, _, _, _, _, g6⟩ := sf6
  refine st_clr rfl rfl en24 rfl (room_c I6) ?_
  rw [se6r]
  refine st_v (v_build (cells := ints [0, 6, 0]) rfl (fun _ => by kernel_rfl)) ?_
  refine st_v (v_eql_ints (xs := [0, 6, 0]) (ys := [0, 6, 0]) eqi54 rfl rfl rfl rfl) ?_
  rw [show (([0, 6, 0] : List Int) == [0, 6, 0]) = true by decide]
  refine st_v (v_assign rfl) (st_nil (nx_kp [0, 1, 12, 14] rfl (nx_then (cd_seq (cd_region (st_v (v_move rfl) (st_cl rfl rfl en41 rfl (get_c I6 g6 14 1) ?_)))))))
  rintro v' h' ⟨μ7, rfl, I7, rfl⟩
  have I7 : MI L6 μ7 S sm7 := I7
  rw [se7.1, se7.2]
  simp only [memSH, List.cons_append, List.nil_append]
  obtain ⟨_, _, _, _, _, g7⟩ := sf7
  refine st_v (v_move rfl) (st_v (v_extract rfl rfl) (st_v (v_extract rfl rfl) (st_v (v_assign rfl) (st_v (v_assign rfl) (st_nil (nx_kp [0, 1, 12, 14, 15, 16] rfl (nx_then (cd_seq (cd_region (st_v (v_move rfl) (st_clr rfl rfl en42 rfl (shape_c I7 g7 4) ?_)))))))))))
  rw [se7s]
  refine st_v (v_move rfl) (st_v (v_extract rfl rfl) (st_v (v_extract rfl rfl) (st_v (v_assign rfl) (st_v (v_assign rfl) (st_nil (nx_kp [0, 1, 12, 14, 15, 16, 18] rfl (nx_then (cd_seq (cd_region (st_v (v_move rfl) (st_buildSlice (cells := [.int .i64 14]) rfl Try.underlying34 inf3 rfl rfl (by kernel_rfl) (ltn rfl) fun b123 => ?_)))))))))))
  refine st_cl rfl rfl en43 rfl (flip_c I7 g7 (rowI_pt (b := b123) (l := [14])) (by decide)) ?_
  rintro v' h' ⟨sl8, L8, μ8, rfl, I8, hL8, rfl⟩
  have I8 : MI L8 μ8 S sm8 := I8
  rw [se8.1, se8.2.1, ← hL8]
  simp only [memSH, List.cons_append, List.nil_append]
  obtain ⟨_, _, _, _, _, g8⟩ := sf8
  refine st_v (v_move rfl) (st_v (v_extract rfl rfl) (st_v (v_extract rfl rfl) (st_v (v_assign rfl) (st_v (v_assign rfl) (st_nil (nx_kp [0, 1, 12, 14, 15, 16, 18, 19] rfl (nx_then (cd_seq (cd_region (st_v (v_move rfl) (st_clr rfl rfl en24 rfl (room_c I8) ?_)))))))))))
  rw [se8r]
  refine st_v (v_build (cells := ints [0, 3, 3]) rfl (fun _ => by kernel_rfl)) ?_
  refine st_v (v_eql_ints (xs := [0, 3, 3]) (ys := [0, 3, 3]) eqi54 rfl rfl rfl rfl) ?_
  rw [show (([0, 3, 3] : List Int) == [0, 3, 3]) = true by decide]
  refine st_v (v_assign rfl) (st_nil (nx_kp [0, 1, 12, 14, 15, 16, 18, 19, 20] rfl (nx_then (cd_seq (cd_region (st_v (v_move rfl) (st_cl rfl rfl en41 rfl (get_c I8 g8 51 1) ?_)))))))
  rintro v' h' ⟨μ9, rfl, I9, rfl⟩
  have I9 : MI L8 μ9 S sm9 := I9
  rw [se9.1, se9.2]
  simp only [memSH, List.cons_append, List.nil_append]
  obtain ⟨_, _, _, _, _, g9⟩ := sf9
  refine st_v (v_move rfl) (st_v (v_extract rfl rfl) (st_v (v_extract rfl rfl) (st_v (v_assign rfl) (st_v (v_assign rfl) (st_nil (nx_kp [0, 1, 12, 14, 15, 16, 18, 19, 20, 21, 22] rfl (nx_then (cd_seq (cd_region (st_v (v_move rfl) (st_clr rfl rfl en24 rfl (room_c I9) ?_)))))))))))
  rw [se9r.1]
  refine st_v (v_build (cells := ints [0, 6, 0]) rfl (fun _ => by kernel_rfl)) ?_
  refine st_v (v_eql_ints (xs := [0, 6, 0]) (ys := [0, 6, 0]) eqi54 rfl rfl rfl rfl) ?_
  rw [show (([0, 6, 0] : List Int) == [0, 6, 0]) = true by decide]
  refine st_v (v_assign rfl) (st_nil (nx_kp [0, 1, 12, 14, 15, 16, 18, 19, 20, 21, 22, 23] rfl (nx_then (cd_seq (cd_region (st_v (v_move rfl) (st_cl rfl rfl en31 rfl (step_c I9 g9 3 (by unfold I64; omega)) ?_)))))))
  rintro v' h' ⟨L10, μ10, rfl, I10, hL10, rfl⟩
  have I10 : MI L10 μ10 S sm10 := I10
  rw [se10.1, se10.2.1, ← hL10]
  simp only [memSH, List.cons_append, List.nil_append]
  obtain ⟨_, _, _, _, _, g10⟩ := sf10
  refine st_v (v_move rfl) (st_v (v_extract rfl rfl) (st_v (v_extract rfl rfl) (st_v (v_assign rfl) (st_v (v_assign rfl) (st_nil (nx_kp [0, 1, 12, 14, 15, 16, 18, 19, 20, 21, 22, 23, 24, 25] rfl (nx_then (cd_seq (cd_region (st_v (v_move rfl) (st_cl rfl rfl en31 rfl (step_c I10 g10 3 (by unfold I64; omega)) ?_)))))))))))
  rintro v' h' ⟨L11, μ11, rfl, I11, hL11, rfl⟩
  have I11 : MI L11 μ11 S sm11 := I11
  rw [se11.1, se11.2.1, ← hL11]
  simp only [memSH, List.cons_append, List.nil_append]
  obtain ⟨_, _, _, _, _, g11⟩ := sf11
  refine st_v (v_move rfl) (st_v (v_extract rfl rfl) (st_v (v_extract rfl rfl) (st_v (v_assign rfl) (st_v (v_assign rfl) (st_nil (nx_kp [0, 1, 12, 14, 15, 16, 18, 19, 20, 21, 22, 23, 24, 25, 26, 27] rfl (nx_then (cd_seq (cd_seq (cd_region (st_v (v_move rfl) (st_v (v_neq rfl rfl) (st_v (v_move rfl) (st_vg rfl rfl (v_move rfl) (st_vg rfl rfl (v_neq rfl rfl) ?_)))))))))))))))
  refine st_v (v_pick_false rfl rfl) (st_v (v_move rfl) (st_vg rfl rfl (v_move rfl) (st_vg rfl rfl (v_neq rfl rfl) (st_v (v_pick_false rfl rfl) (st_v (v_move rfl) (st_vg rfl rfl (v_move rfl) (st_vg rfl rfl (v_neq rfl rfl) (st_v (v_pick_false rfl rfl) (st_v (v_move rfl) (st_vg rfl rfl (v_move rfl) (st_vg rfl rfl (v_neq rfl rfl) (st_v (v_pick_false rfl rfl) (st_v (v_move rfl) ?_)))))))))))))
  refine st_vg rfl rfl (v_move rfl) (st_vg rfl rfl (v_neq rfl rfl) (st_v (v_pick_false rfl rfl) (st_v (v_move rfl) (st_vg rfl rfl (v_move rfl) (st_vg rfl rfl (v_neq rfl rfl) (st_v (v_pick_false rfl rfl) (st_v (v_move rfl) (st_vg rfl rfl (v_move rfl) (st_vg rfl rfl (v_neq rfl rfl) (st_v (v_pick_false rfl rfl) (st_v (v_move rfl) (st_vg rfl rfl (v_move rfl) (st_vg rfl rfl (v_neq rfl rfl) ?_)))))))))))))
  refine st_v (v_pick_false rfl rfl) (st_v (v_move rfl) (st_vg rfl rfl (v_move rfl) (st_vg rfl rfl (v_neq rfl rfl) (st_v (v_pick_false rfl rfl) (st_v (v_move rfl) (st_vg rfl rfl (v_move rfl) (st_clrg rfl rfl rfl rfl en23 rfl (busy_c I11) ?_)))))))
  rw [se11.2.2]
  refine st_v (v_pick_false rfl rfl) (st_nil (nx_kp [0, 1, 12, 14, 20, 23, 191] rfl (nx_then (cd_false rfl ?_))))
  refine cd_skip (xt_then (cd_seq (cd_vecshape (v := sl8) (E := 3) (sz := 1) (n := 1) (l := ints [51]) (by repeat (first | exact Sel.here | apply Sel.there)) fun sa8 sc8 hs8 ha8 => ?_)))
  refine cd_region (st_v (v_move rfl) (st_v (v_move rfl) (st_vg rfl rfl (v_move rfl) (st_v (v_pick_true rfl rfl) (st_v (v_move rfl) (st_vg rfl rfl (v_move rfl) (st_v (v_pick_true rfl rfl) (st_v (v_move rfl) (st_vg rfl rfl (v_move rfl) (st_guard (by simp) rfl rfl (st_buildSlice (cells := [.int .i64 51]) rfl Try.underlying34 inf3 rfl rfl (by kernel_rfl) (ltn rfl) fun b201 => ?_)))))))))))
  refine st_clrg rfl rfl rfl rfl en21 rfl (sameInts2_ct (l1 := [51]) (l2 := [51]) (rowI_vec hs8 ha8 rfl) (rowI_pt (b := b201) (l := [51])) (by decide)) ?_
  rw [show (([51] : List Int) == [51]) = true by decide]
  refine st_v (v_pick_true rfl rfl) (st_v (v_move rfl) (st_vg rfl rfl (v_move rfl) (st_clrg rfl rfl rfl rfl en26 rfl (check_c I11 g11) ?_)))
  refine st_vg rfl rfl (v_eql rfl rfl) (st_v (v_pick_true rfl rfl) (st_v (v_assign rfl) (st_nil (nx_kp [0] rfl (nx_then (cd_ret ?_))))))
  exact xt_rt rfl ⟨rfl, rfl⟩
end Go.Proofs.Ytmhmpjgkkpbnnaa
namespace Go.Ck
open Go
section
variable {P : Program} {e : Env} {h h' : SH} {ty : TypeId}
theorem v_rem {t t' : TypeId} {x y : Operand} {k : IntKind} {a b : Int} (hx : e.ev? x = some (.int k a)) (hy : e.ev? y = some (.int k b)) (hb : b ≠ 0) (hw : k.wrap (a.tmod b) = a.tmod b) : Vop P e h (.binOp .rem t x y t') ty (.int k (a.tmod b)) :=
  ⟨by simp, by simp, fun ρ w d pos after g hρ _ => by simp [execOp, hρ x _ hx, hρ y _ hy, eqGuard_rem, binOp_rem, Op.intDiv, hb, hw]⟩
end
end Go.Ck
namespace Go.Proofs.Ytmhmpjgkkpbnnaa
open Go.Ck Fx Go.Hm Go.Hm.AM
attribute [local irreducible] St Cd Xt Nx DrL LsW
def kindOf (n : Int) : Int := ((n.tmod 7) + 7).tmod 7
theorem tmod7 (n : Int) : -7 < n.tmod 7 ∧ n.tmod 7 < 7 := by
  have := Int.tmod_lt_of_pos n (b := 7) (by decide)
  have := Int.lt_tmod_of_pos n (b := 7) (by decide)
  omega
theorem kindOf_bd (n : Int) : 0 ≤ kindOf n ∧ kindOf n < 7 := by
  have h1 := tmod7 n
  unfold kindOf
  have h2 := Int.tmod_lt_of_pos (n.tmod 7 + 7) (b := 7) (by decide)
  have h3 := Int.tmod_nonneg (a := n.tmod 7 + 7) 7 (by omega)
  omega
set_option maxRecDepth 100000 in
theorem kind_ct {a b c d : Int} {v : Value} : Ct Try.prog 49 #[.agg #[.int .i64 a, .int .i64 b, .int .i64 c, .int .i64 d, v]] [] fun u h' => u = .int .i64 (kindOf a) ∧ h' = [] := by
  have h1 := tmod7 a
  have h2 := kindOf_bd a
  refine ct_of (n := 8) Try.func49 rfl rfl (len rfl) fun hr w0 => ?_
  simp only [List.nil_append]
  refine cd_seq (cd_region (st_bx rfl rfl fun b1 => ?_))
  refine st_v (v_assign rfl) (st_nil (nx_kp [1, 2] rfl (nx_then (cd_seq (cd_region (st_v (v_fieldAddr rfl fa38_0 rfl) (st_v (v_ld rfl ld3) ?_)))))))
  refine st_v (v_rem rfl rfl (by decide) (I64.wrap (by unfold I64; omega))) ?_
  refine st_v (v_add rfl rfl (by unfold I64 at *; omega)) (st_v (v_rem rfl rfl (by decide) (I64.wrap (by unfold I64; exact ⟨by unfold kindOf at h2; omega, by unfold kindOf at h2; omega⟩))) ?_)
  refine st_v (v_assign rfl) (st_nil (nx_kp [2] rfl (nx_then (cd_ret ?_))))
  exact xt_rt rfl ⟨rfl, rfl⟩
set_option maxRecDepth 100000 in
theorem called_nil_ct {a b c d : Int} {v : Value} (hd : I64 b) : Ct Try.prog 17 #[.pointer none, .agg #[.int .i64 a, .int .i64 b, .int .i64 c, .int .i64 d, v]] [] fun u h' => u = .tuple #[.int .i64 0, .slice none 0 0, .int .i64 12] ∧ h' = [] := by
  refine ct_of (n := 79) Try.func17 rfl rfl (len rfl) fun hr w0 => ?_
  simp only [List.nil_append]
  refine cd_seq (cd_region (st_bx rfl rfl fun b3 => ?_))
  refine st_v (v_assign rfl) (st_v (v_assign rfl) (st_v (v_assign rfl) (st_nil (nx_kp [0, 3, 4, 5, 6] rfl (nx_then (cd_seq (cd_region (st_v (v_assign rfl) (st_nil (nx_then (cd_seq (cd_region (st_v (v_assign rfl) (st_nil (nx_then (cd_seq (cd_region ?_)))))))))))))))))
  refine st_v (v_assign rfl) (st_nil (nx_then (cd_seq (cd_seq (cd_region (st_v (v_loadW rfl ld38 rfl (by repeat (first | exact Sel.here | apply Sel.there))) ?_))))))
  refine st_cl rfl rfl en49 rfl (kind_ct) ?_
  rintro v' h' ⟨rfl, rfl⟩
  simp only [List.nil_append]
  refine st_nil (nx_kp [0, 3, 4, 5, 6, 7, 8, 9, 11] rfl (nx_then (cd_block (cd_seq (cd_region (st_v (v_eql rfl rfl) (st_v (v_assign rfl) (st_nil (nx_kp [0, 3, 4, 5, 6, 7, 8, 9, 11, 19] rfl (nx_then (cd_cond rfl (fun c0 => ?_) (fun c0 => ?_))))))))))))
  · skip
    refine cd_region (st_v (v_move rfl) (st_v (v_fieldAddr rfl fa38_1 rfl) (st_v (v_ld rfl ld3) ?_)))
    refine st_cl rfl rfl en33 rfl (nil_alloc_ct) ?_
    rintro v' h' ⟨rfl, rfl⟩
    simp only [List.nil_append]
    refine st_v (v_move rfl) (st_v (v_extract rfl rfl) (st_v (v_extract rfl rfl) (st_v (v_assign rfl) (st_v (v_assign rfl) (st_nil (nx_kp [4, 5, 6, 7, 8, 9] rfl (nx_xt (xt_normal_block (xt_then (cd_seq (cd_region (st_v (v_move rfl) (st_v (v_move rfl) (st_v (v_move rfl) (st_v (v_assign rfl) ?_)))))))))))))))
    refine st_v (v_assign rfl) (st_v (v_assign rfl) (st_nil (nx_kp [4, 5, 6] rfl (nx_then (cd_ret ?_)))))
    exact xt_rt rfl ⟨rfl, rfl⟩
  · skip
    refine cd_seq (cd_region (st_v (v_eql rfl rfl) (st_v (v_assign rfl) (st_nil (nx_kp [0, 3, 4, 5, 6, 7, 8, 9, 11, 28] rfl (nx_then (cd_cond rfl (fun c1 => ?_) (fun c1 => ?_))))))))
    · skip
      refine cd_region (st_v (v_move rfl) (st_v (v_fieldAddr rfl fa38_1 rfl) (st_v (v_ld rfl ld3) ?_)))
      refine st_clr rfl rfl en42 rfl (nil_shape_ct) ?_
      refine st_v (v_move rfl) (st_v (v_extract rfl rfl) (st_v (v_extract rfl rfl) (st_v (v_assign rfl) (st_v (v_assign rfl) (st_nil (nx_kp [4, 5, 6, 7, 8, 9] rfl (nx_xt (xt_normal_block (xt_then (cd_seq (cd_region (st_v (v_move rfl) (st_v (v_move rfl) (st_v (v_move rfl) (st_v (v_assign rfl) ?_)))))))))))))))
      refine st_v (v_assign rfl) (st_v (v_assign rfl) (st_nil (nx_kp [4, 5, 6] rfl (nx_then (cd_ret ?_)))))
      exact xt_rt rfl ⟨rfl, rfl⟩
    · skip
      refine cd_seq (cd_region (st_v (v_eql rfl rfl) (st_v (v_assign rfl) (st_nil (nx_kp [0, 3, 4, 5, 6, 7, 8, 9, 11, 37] rfl (nx_then (cd_cond rfl (fun c2 => ?_) (fun c2 => ?_))))))))
      · skip
        refine cd_region (st_v (v_move rfl) (st_v (v_fieldAddr rfl fa38_1 rfl) (st_v (v_ld rfl ld3) ?_)))
        refine st_v (v_fieldAddr rfl fa38_2 rfl) (st_v (v_ld rfl ld3) ?_)
        refine st_cl rfl rfl en41 rfl (nil_get_ct) ?_
        rintro v' h' ⟨rfl, rfl⟩
        simp only [List.nil_append]
        refine st_v (v_move rfl) (st_v (v_extract rfl rfl) (st_v (v_extract rfl rfl) (st_v (v_assign rfl) (st_v (v_assign rfl) (st_nil (nx_kp [4, 5, 6, 7, 8, 9] rfl (nx_xt (xt_normal_block (xt_then (cd_seq (cd_region (st_v (v_move rfl) (st_v (v_move rfl) (st_v (v_move rfl) (st_v (v_assign rfl) ?_)))))))))))))))
        refine st_v (v_assign rfl) (st_v (v_assign rfl) (st_nil (nx_kp [4, 5, 6] rfl (nx_then (cd_ret ?_)))))
        exact xt_rt rfl ⟨rfl, rfl⟩
      · skip
        refine cd_seq (cd_region (st_v (v_eql rfl rfl) (st_v (v_assign rfl) (st_nil (nx_kp [0, 3, 4, 5, 6, 7, 8, 9, 11, 48] rfl (nx_then (cd_cond rfl (fun c3 => ?_) (fun c3 => ?_))))))))
        · skip
          refine cd_region (st_v (v_move rfl) (st_v (v_fieldAddr rfl fa38_1 rfl) (st_v (v_ld rfl ld3) ?_)))
          refine st_v (v_fieldAddr rfl fa38_2 rfl) (st_v (v_ld rfl ld3) ?_)
          refine st_v (v_fieldAddr rfl fa38_3 rfl) (st_v (v_ld rfl ld3) ?_)
          refine st_cl rfl rfl en40 rfl (nil_set_ct) ?_
          rintro v' h' ⟨rfl, rfl⟩
          simp only [List.nil_append]
          refine st_v (v_assign rfl) (st_nil (nx_kp [4, 5, 6, 7, 8, 9] rfl (nx_xt (xt_normal_block (xt_then (cd_seq (cd_region (st_v (v_move rfl) (st_v (v_move rfl) (st_v (v_move rfl) (st_v (v_assign rfl) (st_v (v_assign rfl) (st_v (v_assign rfl) (st_nil (nx_kp [4, 5, 6] rfl (nx_then (cd_ret ?_)))))))))))))))))
          exact xt_rt rfl ⟨rfl, rfl⟩
        · skip
          refine cd_seq (cd_region (st_v (v_eql rfl rfl) (st_v (v_assign rfl) (st_nil (nx_kp [0, 3, 4, 5, 6, 7, 8, 9, 11, 58] rfl (nx_then (cd_cond rfl (fun c4 => ?_) (fun c4 => ?_))))))))
          · skip
            refine cd_region (st_v (v_move rfl) (st_v (v_fieldAddr rfl fa38_4 rfl) (st_v (v_ld rfl ld34) ?_)))
            refine st_cl rfl rfl en34 rfl (nil_Minor_ct) ?_
            rintro v' h' ⟨rfl, rfl⟩
            simp only [List.nil_append]
            refine st_v (v_move rfl) (st_v (v_extract rfl rfl) (st_v (v_extract rfl rfl) (st_v (v_assign rfl) (st_v (v_assign rfl) (st_nil (nx_kp [4, 5, 6, 7, 8, 9] rfl (nx_xt (xt_normal_block (xt_then (cd_seq (cd_region (st_v (v_move rfl) (st_v (v_move rfl) (st_v (v_move rfl) (st_v (v_assign rfl) ?_)))))))))))))))
            refine st_v (v_assign rfl) (st_v (v_assign rfl) (st_nil (nx_kp [4, 5, 6] rfl (nx_then (cd_ret ?_)))))
            exact xt_rt rfl ⟨rfl, rfl⟩
          · skip
            refine cd_seq (cd_region (st_v (v_eql rfl rfl) (st_v (v_assign rfl) (st_nil (nx_kp [0, 3, 4, 5, 6, 7, 8, 9, 67] rfl (nx_then (cd_cond rfl (fun c5 => ?_) (fun c5 => ?_))))))))
            · skip
              refine cd_region (st_v (v_move rfl) (st_v (v_fieldAddr rfl fa38_4 rfl) (st_v (v_ld rfl ld34) ?_)))
              refine st_cl rfl rfl en43 rfl (nil_flip_ct) ?_
              rintro v' h' ⟨rfl, rfl⟩
              simp only [List.nil_append]
              refine st_v (v_move rfl) (st_v (v_extract rfl rfl) (st_v (v_extract rfl rfl) (st_v (v_assign rfl) (st_v (v_assign rfl) (st_nil (nx_kp [4, 5, 6, 7, 8, 9] rfl (nx_xt (xt_normal_block (xt_then (cd_seq (cd_region (st_v (v_move rfl) (st_v (v_move rfl) (st_v (v_move rfl) (st_v (v_assign rfl) ?_)))))))))))))))
              refine st_v (v_assign rfl) (st_v (v_assign rfl) (st_nil (nx_kp [4, 5, 6] rfl (nx_then (cd_ret ?_)))))
              exact xt_rt rfl ⟨rfl, rfl⟩
            · skip
              refine cd_region (st_v (v_move rfl) (st_v (v_fieldAddr rfl fa38_1 rfl) (st_v (v_ld rfl ld3) ?_)))
              refine st_cl rfl rfl en31 rfl (nil_step_ct) ?_
              rintro v' h' ⟨rfl, rfl⟩
              simp only [List.nil_append]
              refine st_v (v_move rfl) (st_v (v_extract rfl rfl) (st_v (v_extract rfl rfl) (st_v (v_assign rfl) (st_v (v_assign rfl) (st_nil (nx_kp [4, 5, 6, 7, 8, 9] rfl (nx_xt (xt_normal_block (xt_then (cd_seq (cd_region (st_v (v_move rfl) (st_v (v_move rfl) (st_v (v_move rfl) (st_v (v_assign rfl) ?_)))))))))))))))
              refine st_v (v_assign rfl) (st_v (v_assign rfl) (st_nil (nx_kp [4, 5, 6] rfl (nx_then (cd_ret ?_)))))
              exact xt_rt rfl ⟨rfl, rfl⟩
theorem rowI_nil (R : Res) : RowI R (.slice none 0 0) [] := ⟨none, 0, rfl, .inl rfl⟩
set_option maxRecDepth 100000 in
theorem samePics_nil_ct : Ct Try.prog 22 #[.agg #[.slice none 0 0, .slice none 0 0, .slice none 0 0], .agg #[.slice none 0 0, .slice none 0 0, .slice none 0 0]] [] fun v h' => v = .bool true ∧ h' = [] := by
  refine ct_of (n := 54) Try.func22 rfl rfl (len rfl) fun hr w0 => ?_
  simp only [List.nil_append]
  refine cd_seq (cd_region (st_bx rfl rfl fun b2 => ?_))
  refine st_bx rfl rfl fun b3 => ?_
  refine st_v (v_assign rfl) (st_nil (nx_kp [2, 3, 4] rfl (nx_then (cd_seq (cd_region (st_v (v_fieldAddr rfl fa42_0 rfl) (st_v (v_ld rfl ld34) ?_)))))))
  refine st_v (v_fieldAddr rfl fa42_0 rfl) (st_v (v_ld rfl ld34) ?_)
  refine st_clr rfl rfl en21 rfl (sameInts_ct (R := pt b2 (cl [.slice none 0 0, .slice none 0 0, .slice none 0 0] 42)) (rowI_nil _) (rowI_nil _) (Nat.zero_le _)) ?_
  rw [show (([] : List Int) == []) = true from rfl]
  refine st_v (v_assign rfl) (st_nil (nx_kp [2, 3, 4, 5] rfl (nx_then (cd_seq (cd_region (st_v (v_fieldAddr rfl fa42_2 rfl) (st_v (v_ld rfl ld34) ?_)))))))
  refine st_v (v_fieldAddr rfl fa42_2 rfl) (st_v (v_ld rfl ld34) ?_)
  refine st_clr rfl rfl en21 rfl (sameInts_ct (R := pt b2 (cl [.slice none 0 0, .slice none 0 0, .slice none 0 0] 42)) (rowI_nil _) (rowI_nil _) (Nat.zero_le _)) ?_
  rw [show (([] : List Int) == []) = true from rfl]
  refine st_v (v_assign rfl) (st_nil (nx_kp [2, 3, 4, 5, 6] rfl (nx_then (cd_seq (cd_seq (cd_region (st_v (v_move rfl) (st_v (v_not rfl) (st_v (v_move rfl) (st_vg rfl rfl (v_move rfl) (st_vg rfl rfl (v_not rfl) (st_v (v_pick_false rfl rfl) (st_v (v_move rfl) (st_vg rfl rfl (v_fieldAddr rfl fa42_1 rfl) (st_vg rfl rfl (v_ld rfl ld40) ?_)))))))))))))))
  refine st_vg rfl rfl (v_len rfl Try.underlying40) (st_vg rfl rfl (v_fieldAddr rfl fa42_1 rfl) (st_vg rfl rfl (v_ld rfl ld40) ?_))
  refine st_vg rfl rfl (v_len rfl Try.underlying40) (st_vg rfl rfl (v_neq rfl rfl) (st_v (v_pick_false rfl rfl) (st_nil (nx_kp [2, 3, 4, 33] rfl (nx_then (cd_false rfl ?_))))))
  refine cd_skip (xt_then (cd_seq (cd_seq (cd_region (st_v (v_assign rfl) (st_nil (nx_kp [2, 3, 4, 7] rfl (nx_then (cd_block (cd_lp (σ := Unit) (fun _ => [(2, .pointer (some ⟨b2, 0, none⟩)), (3, .pointer (some ⟨b3, 0, none⟩)), (7, .int .i64 0)]) (fun _ => pt b2 (cl [.slice none 0 0, .slice none 0 0, .slice none 0 0] 42) :: hr) (fun _ => True) (fun _ => 0) () trivial ?_))))))))))
  rintro ⟨⟩ _
  refine cd_seq (cd_seq (cd_region (st_v (v_move rfl) (st_v (v_fieldAddr rfl fa42_1 rfl) (st_v (v_ld rfl ld40) ?_)))))
  refine st_v (v_len rfl Try.underlying40) (st_v (v_lss rfl rfl) (st_nil (nx_kp [2, 3, 7, 38] rfl (nx_then (cd_false rfl ?_)))))
  refine cd_exit (xt_exit_then (xt_exit_then (xt_exit_block (xt_then (cd_seq (cd_region (st_v (v_assign rfl) (st_nil (nx_kp [4] rfl (nx_then (cd_ret ?_)))))))))))
  exact xt_rt rfl ⟨rfl, rfl⟩
set_option maxHeartbeats 4000000 in
set_option maxRecDepth 100000 in
theorem heapNil_c {a b c d : Int} {v : Value} (hb : I64 b) : Ct Try.prog 4 #[.agg #[.int .i64 a, .int .i64 b, .int .i64 c, .int .i64 d, v]] [] fun u h' => u = .bool true ∧ h' = [] := by
  refine ct_of (n := 69) Try.func4 rfl rfl (len rfl) fun hr w0 => ?_
  simp only [List.nil_append]
  refine cd_seq (cd_region (st_bx rfl rfl fun b1 => ?_))
  refine st_v (v_assign rfl) (st_nil (nx_kp [1, 2] rfl (nx_then (cd_seq (cd_region (st_v (v_assign rfl) (st_nil (nx_then (cd_seq (cd_region (st_v (v_move rfl) (st_v (v_loadW rfl ld38 rfl (by repeat (first | exact Sel.here | apply Sel.there))) ?_))))))))))))
  refine st_cl rfl rfl en17 rfl (called_nil_ct hb) ?_
  rintro v' h' ⟨rfl, rfl⟩
  simp only [List.nil_append]
  refine st_v (v_move rfl) (st_v (v_extract rfl rfl) (st_v (v_extract rfl rfl) (st_v (v_extract rfl rfl) (st_v (v_assign rfl) (st_v (v_assign rfl) (st_v (v_assign rfl) (st_nil (nx_kp [1, 2, 3, 4, 5, 6] rfl (nx_then (cd_seq (cd_region (st_v (v_move rfl) (st_v (v_fieldAddr rfl fa38_4 rfl) (st_v (v_ld rfl ld34) ?_))))))))))))))
  refine st_clr rfl rfl en19 rfl (nil_picture_ct) ?_
  refine st_v (v_move rfl) (st_v (v_extract rfl rfl) (st_v (v_extract rfl rfl) (st_alc al42 fun b7 => ?_)))
  refine st_stoW rfl rfl sz42 rfl rfl ?_
  refine st_v (v_assign rfl) (st_nil (nx_kp [2, 3, 4, 5, 6, 7, 8] rfl (nx_then (cd_seq (cd_region (st_v (v_loadW rfl ld42 rfl (by repeat (first | exact Sel.here | apply Sel.there))) ?_))))))
  refine st_v (v_build (cells := [.slice none 0 0, .slice none 0 0, .slice none 0 0]) rfl (fun _ => by kernel_rfl)) ?_
  refine st_cl rfl rfl en22 rfl (samePics_nil_ct) ?_
  rintro v' h' ⟨rfl, rfl⟩
  simp only [List.nil_append]
  refine st_v (v_assign rfl) (st_nil (nx_kp [2, 3, 4, 5, 6, 8, 9] rfl (nx_then (cd_seq (cd_region (st_cl rfl rfl en14 rfl (sanity_c) ?_))))))
  rintro v' h' ⟨rfl, rfl⟩
  simp only [List.nil_append]
  refine st_v (v_move rfl) (st_vg rfl rfl (v_move rfl) (st_vg rfl rfl (v_eql rfl rfl) (st_v (v_pick_true rfl rfl) (st_v (v_move rfl) (st_vg rfl rfl (v_move rfl) (st_vg rfl rfl (v_len rfl Try.underlying34) (st_vg rfl rfl (v_eql rfl rfl) (st_v (v_pick_true rfl rfl) (st_v (v_move rfl) (st_vg rfl rfl (v_move rfl) (st_vg rfl rfl (v_eql rfl rfl) (st_v (v_pick_true rfl rfl) (st_v (v_move rfl) ?_)))))))))))))
  refine st_vg rfl rfl (v_move rfl) (st_vg rfl rfl (v_eql rfl rfl) (st_v (v_pick_true rfl rfl) (st_v (v_move rfl) (st_vg rfl rfl (v_move rfl) (st_v (v_pick_true rfl rfl) (st_v (v_move rfl) (st_vg rfl rfl (v_move rfl) (st_clrg rfl rfl rfl rfl en23 rfl (nil_busy_ct) ?_))))))))
  refine st_vg rfl rfl (v_not rfl) (st_v (v_pick_true rfl rfl) (st_v (v_move rfl) (st_vg rfl rfl (v_move rfl) (st_clrg rfl rfl rfl rfl en24 rfl (nil_room_ct) ?_))))
  refine st_vg rfl rfl (v_build (cells := ints [0, 0, 0]) rfl (fun _ => by kernel_rfl)) ?_
  refine st_vg rfl rfl (v_eql_ints (xs := [0, 0, 0]) (ys := [0, 0, 0]) eqi54 rfl rfl rfl rfl) ?_
  rw [show (([0, 0, 0] : List Int) == [0, 0, 0]) = true by decide]
  refine st_v (v_pick_true rfl rfl) (st_v (v_move rfl) (st_vg rfl rfl (v_move rfl) (st_clrg rfl rfl rfl rfl en26 rfl (nil_check_ct) ?_)))
  refine st_vg rfl rfl (v_eql rfl rfl) (st_v (v_pick_true rfl rfl) (st_v (v_move rfl) (st_vg rfl rfl (v_move rfl) (st_clrg rfl rfl rfl rfl en27 rfl (nil_copy_ct) ?_))))
  refine st_vg rfl rfl (v_eql_ptr_nil rfl rfl pt27) (st_v (v_pick_true rfl rfl) (st_v (v_assign rfl) (st_nil (nx_kp [2] rfl (nx_then (cd_ret ?_))))))
  exact xt_rt rfl ⟨rfl, rfl⟩
end Go.Proofs.Ytmhmpjgkkpbnnaa
namespace Go.Ck
open Go Go.RowKit
theorem LdN.ofArr {P : Program} {T E : TypeId} {n k : Nat} (h : P.underlying T = some (.array k E)) (hs : Sz P T n) : LdN P T n := fun w b o vs hl hv => by
  have hi : (isAgg T).run P w = .ok true w := by unfold isAgg; simp only [Sem.run_bind, run_underlying h, Result.andThen_ok]; rfl
  have key : ∀ (k : Nat) (m : Nat) (acc : Array Value), m + k = n → acc = (vs.take m).toArray → (loadCellsFrom ⟨b, o, none⟩ m k acc).run P w = .ok vs.toArray w := by
    intro k
    induction k with
    | zero =>
      intro m acc hm ha
      have : m = n := by omega
      subst this
      simp [loadCellsFrom, ha, List.take_of_length_le (Nat.le_of_eq hl)]
    | succ k ih =>
      intro m acc hm ha
      have hmn : m < n := by omega
      have hc := hv m hmn
      have hlt : m < vs.length := by omega
      rw [List.getElem?_eq_getElem hlt] at hc
      unfold loadCellsFrom
      simp only [Sem.run_bind, run_load, Addr.add_lit, hc, Result.andThen_ok]
      refine ih (m + 1) _ (by omega) ?_
      rw [ha, List.take_succ_eq_append_getElem hlt]
      simp
  unfold Instr.loadAt loadVar loadCells
  simp only [Instr.sureAddr, Sem.run_bind, Sem.run_pure, Result.andThen_ok, hi, if_true, hs w, key n 0 #[] (by omega) (by simp)]
end Go.Ck
namespace Go.Hm.AM
theorem fwdL_len (y : Bool) : ∀ (ts : List Int) (m : AM), (fwdL y ts m).1.length = ts.length
  | [], _ => rfl
  | a :: ts, m => by simp only [fwdL, List.length_cons, fwdL_len y ts]
end Go.Hm.AM
namespace Go.Proofs.Ytmhmpjgkkpbnnaa
open Go.Ck Fx Go.Hm Go.Hm.AM
theorem fine_new {sh : List (List Bool)} {half young : Int} (h : newErr sh half young = 0) : Fine (AM.new' sh half young) := by
  unfold newErr at h
  split at h
  · cases h
  · rename_i h1
    split at h
    · cases h
    · rename_i h2
      simp only [Bool.or_eq_true, decide_eq_true_eq, not_or, bne_iff_ne, ne_eq, Decidable.not_not] at h1 h2
      obtain ⟨⟨hz, ha⟩, hb⟩ := h1
      unfold sized at hz
      by_cases hq : (decide (60 < (sh.length : Int)) || sh.any long) = true
      · rw [if_pos hq] at hz; cases hz
      · simp only [Bool.or_eq_true, decide_eq_true_eq, not_or, List.any_eq_true, not_exists, not_and] at hq
        exact ⟨_, _, _, _, _, Good.new (by omega) (by omega) (by omega) (by omega) (by omega) (fun l hl => by have := hq.2 l hl; unfold long at this; simp at this; omega)⟩
attribute [local irreducible] St Cd Xt Nx DrL LsW
section
variable {R : Res} {v : Value}
def fitRow (l : List Bool) : Bool := !((decide (8 < (l.length : Int)) && decide ((l.length : Int) ≤ 60)) || decide (70 < (l.length : Int)))
def fitp (sh : List (List Bool)) : Bool := sh.all fitRow && (decide ((sh.length : Int) ≤ 8) || (decide (60 < (sh.length : Int)) && decide ((sh.length : Int) ≤ 70)))
set_option maxRecDepth 100000 in
theorem fit_ct {sh : List (List Bool)} (h : Shp R v sh) (hl : sh.length ≤ maxLen) : Reads Try.prog 12 #[v] [R] (.bool (fitp sh)) := by
  obtain ⟨a, cp, hv, _⟩ := id h
  unfold maxLen at hl
  unfold fitp
  refine ct_of (n := 45) Try.func12 rfl rfl (len rfl) fun hr w0 => ?_
  refine cd_seq (cd_region (st_v (v_assign rfl) (st_nil (nx_then (cd_seq (cd_seq (cd_region (st_v (v_assign rfl) (st_nil (nx_then (cd_block (cd_loop (σ := Nat) (fun i => [(0, v), (3, .int .i64 (i : Nat))]) (fun _ => R :: hr) (fun i => i ≤ sh.length ∧ (sh.take i).all fitRow = true) (fun i => sh.length - i) 0 ⟨Nat.zero_le _, rfl⟩ ⟨rfl, rfl, trivial⟩ (Sub.refl _) ?_))))))))))))
  rintro i ⟨hi, hne⟩
  refine cd_seq (cd_seq (cd_region (st_v (v_move rfl) (st_v (v_move rfl) (st_v (v_len (congrArg some hv) Try.underlying22) (st_v (v_lss rfl rfl) (st_nil (nx_kp [0, 3, 7] rfl (nx_then (cd_cond rfl (fun hd => ?_) (fun hd => ?_)))))))))))
  · skip
    have hlt : i < sh.length := by simpa using hd
    obtain ⟨b, o, cp', u, hv', hrd, hu⟩ := h.row hlt
    obtain ⟨ua, ucp, hue, _⟩ := id hu
    subst hue
    refine cd_skip (xt_then (cd_seq (cd_block (cd_seq (cd_region (st_v (v_move rfl) (st_v (v_move rfl) (st_v (v_ixo i (congrArg some hv') rfl sl22 rfl hlt) (st_v (v_ld rfl ld73) ?_)))))))))
    refine st_v (v_len rfl Try.underlying73) (st_v (v_gtr rfl rfl) (st_v (v_move rfl) (st_cut (k := 14) (d := 23) (v := .bool (decide (8 < (sh[i].length : Int)) && decide ((sh[i].length : Int) ≤ 60))) (fun hcut => bool_want (b := decide (8 < (sh[i].length : Int))) true (fun hg => ?_) (fun hg => ?_)) ?_)))
    · refine st_sk rfl rfl hg ?_
      refine st_sk rfl rfl hg ?_
      refine st_sk rfl rfl hg ?_
      refine st_sk rfl rfl hg ?_
      refine st_sk rfl rfl hg ?_
      refine st_sk rfl rfl hg ?_
      refine st_v (v_pick_false (bool_ev rfl hg) rfl) ?_
      exact hcut _ (ssub_head (by first | rfl | (rw [hg]; rfl) | simp_all) (ssub_skip rfl (ssub_skip rfl (ssub_skip rfl (ssub_skip rfl (ssub_skip rfl (ssub_skip rfl (ssub_refl))))))))
    · skip
      refine st_vg rfl (bool_get rfl hg) (v_move rfl) (st_vg rfl (bool_get rfl hg) (v_move rfl) (st_vg rfl (bool_get rfl hg) (v_ixo i (congrArg some hv') rfl sl22 rfl hlt) (st_vg rfl (bool_get rfl hg) (v_ld rfl ld73) ?_)))
      refine st_vg rfl (bool_get rfl hg) (v_len rfl Try.underlying73) (st_vg rfl (bool_get rfl hg) (v_leq rfl rfl) (st_v (v_pick_true (bool_ev rfl hg) rfl) ?_))
      exact hcut _ (ssub_head (by first | rfl | (rw [hg]; rfl) | simp_all) (ssub_skip rfl (ssub_skip rfl (ssub_skip rfl (ssub_skip rfl (ssub_skip rfl (ssub_skip rfl (ssub_refl))))))))
    refine st_v (v_move rfl) (st_cut (k := 22) (d := 31) (v := .bool ((decide (8 < (sh[i].length : Int)) && decide ((sh[i].length : Int) ≤ 60)) || decide (70 < (sh[i].length : Int)))) (fun hcut => bool_want (b := (decide (8 < (sh[i].length : Int)) && decide ((sh[i].length : Int) ≤ 60))) false (fun hg => ?_) (fun hg => ?_)) ?_)
    · refine st_sk rfl rfl hg ?_
      refine st_sk rfl rfl hg ?_
      refine st_sk rfl rfl hg ?_
      refine st_sk rfl rfl hg ?_
      refine st_sk rfl rfl hg ?_
      refine st_sk rfl rfl hg ?_
      refine st_v (v_pick_true (bool_ev rfl hg) rfl) ?_
      exact hcut _ (ssub_head (by first | rfl | (rw [hg]; rfl) | simp_all) (ssub_skip rfl (ssub_skip rfl (ssub_skip rfl (ssub_skip rfl (ssub_skip rfl (ssub_skip rfl (ssub_refl))))))))
    · skip
      refine st_vg rfl (bool_get rfl hg) (v_move rfl) (st_vg rfl (bool_get rfl hg) (v_move rfl) (st_vg rfl (bool_get rfl hg) (v_ixo i (congrArg some hv') rfl sl22 rfl hlt) (st_vg rfl (bool_get rfl hg) (v_ld rfl ld73) ?_)))
      refine st_vg rfl (bool_get rfl hg) (v_len rfl Try.underlying73) (st_vg rfl (bool_get rfl hg) (v_gtr rfl rfl) (st_v (v_pick_false (bool_ev rfl hg) rfl) ?_))
      exact hcut _ (ssub_head (by first | rfl | (rw [hg]; rfl) | simp_all) (ssub_skip rfl (ssub_skip rfl (ssub_skip rfl (ssub_skip rfl (ssub_skip rfl (ssub_skip rfl (ssub_refl))))))))
    refine st_nil (nx_kp [0, 3, 31] rfl (nx_then (cd_cond rfl (fun he => ?_) (fun he => ?_))))
    · skip
      have hf : sh.all fitRow = false := by
        rw [Bool.eq_false_iff]; intro hall
        have := List.all_eq_true.1 hall _ (List.getElem_mem hlt)
        unfold fitRow at this; rw [he] at this; cases this
      rw [hf, Bool.false_and]
      refine cd_seq (cd_region (st_v (v_assign rfl) (st_nil (nx_kp [0, 2, 3] rfl (nx_then (cd_ret (xt_ret_block (xt_ret_then (xt_ret_then (xt_ret_block (xt_ret_then ?_)))))))))))
      exact xt_rt rfl ⟨rfl, rfl⟩
    · skip
      refine cd_skip (xt_normal_block (xt_then (cd_region (st_v (v_move rfl) (st_v (v_add rfl rfl (by unfold I64 at *; omega)) (st_v (v_assign rfl) (st_nil (nx_kp [0, 3] rfl (nx_xt ?_)))))))))
      refine xt_ag (i + 1) ⟨hlt, by rw [List.take_succ_eq_append_getElem hlt, List.all_append, hne, Bool.true_and]; simp only [List.all_cons, List.all_nil, Bool.and_true]; unfold fitRow; rw [he]; rfl⟩ (by omega)
  · skip
    have hge : sh.length ≤ i := by simpa using hd
    rw [List.take_of_length_le hge] at hne
    rw [hne, Bool.true_and]
    refine cd_exit (xt_exit_then (xt_exit_then (xt_exit_block (xt_then (cd_seq (cd_region (st_v (v_move rfl) (st_v (v_len (congrArg some hv) Try.underlying22) (st_v (v_leq rfl rfl) (st_v (v_move rfl) (st_cut (k := 13) (d := 44) (v := .bool (decide ((sh.length : Int) ≤ 8) || (decide (60 < (sh.length : Int)) && decide ((sh.length : Int) ≤ 70)))) (fun hcut => bool_want (b := decide ((sh.length : Int) ≤ 8)) false (fun hg => ?_) (fun hg => ?_)) ?_)))))))))))
    · refine st_sk rfl rfl hg ?_
      refine st_sk rfl rfl hg ?_
      refine st_sk rfl rfl hg ?_
      refine st_sk rfl rfl hg ?_
      refine st_sku rfl rfl ?_
      refine st_sku rfl rfl ?_
      refine st_sku rfl rfl ?_
      refine st_sk rfl rfl hg ?_
      refine st_v (v_pick_true (bool_ev rfl hg) rfl) ?_
      exact hcut _ (ssub_head (by first | rfl | (rw [hg]; rfl) | simp_all) (ssub_skip rfl (ssub_skip rfl (ssub_skip rfl (ssub_skip rfl (ssub_skip rfl (ssub_skip rfl (ssub_skip rfl (ssub_skip rfl (ssub_refl))))))))))
    · skip
      refine st_vg rfl (bool_get rfl hg) (v_move rfl) (st_vg rfl (bool_get rfl hg) (v_len (congrArg some hv) Try.underlying22) (st_vg rfl (bool_get rfl hg) (v_gtr rfl rfl) (st_vg rfl (bool_get rfl hg) (v_move rfl) (st_cut (k := 12) (d := 43) (v := .bool (decide (60 < (sh.length : Int)) && decide ((sh.length : Int) ≤ 70))) (fun hcut => bool_want (b := decide (60 < (sh.length : Int))) true (fun hg1 => ?_) (fun hg1 => ?_)) ?_))))
      · refine st_sk rfl rfl hg1 ?_
        refine st_sk rfl rfl hg1 ?_
        refine st_sk rfl rfl hg1 ?_
        refine st_vg rfl (bool_get rfl hg) (v_pick_false (bool_ev rfl hg1) rfl) ?_
        exact hcut _ (ssub_head (by first | rfl | (rw [hg1]; rfl) | simp_all) (ssub_skip rfl (ssub_skip rfl (ssub_skip rfl (ssub_refl)))))
      · skip
        refine st_vg rfl (bool_get rfl hg1) (v_move rfl) (st_vg rfl (bool_get rfl hg1) (v_len (congrArg some hv) Try.underlying22) (st_vg rfl (bool_get rfl hg1) (v_leq rfl rfl) (st_vg rfl (bool_get rfl hg) (v_pick_true (bool_ev rfl hg1) rfl) ?_)))
        exact hcut _ (ssub_head (by first | rfl | (rw [hg1]; rfl) | simp_all) (ssub_skip rfl (ssub_skip rfl (ssub_skip rfl (ssub_refl)))))
      refine st_v (v_pick_false (bool_ev rfl hg) rfl) ?_
      exact hcut _ (ssub_head (by first | rfl | (rw [hg]; rfl) | simp_all) (by repeat (first | exact ssub_refl | refine ssub_skip rfl ?_)))
    refine st_v (v_assign rfl) (st_nil (nx_kp [2] rfl (nx_then (cd_ret ?_))))
    exact xt_rt rfl ⟨rfl, rfl⟩
end
end Go.Proofs.Ytmhmpjgkkpbnnaa
namespace Go.Ck
open Go Go.RowKit Go.ChangeShapes Go.WideShapes
theorem cells_one {v : Value} (h : v.oneCell' = true) : v.cells.toList = [v] := by
  cases v <;> first | rfl | (simp [Value.oneCell'] at h)
/-- An argument of one cell. -/
theorem arg_one {H : Type} {enc : TypeId × Value → H} {P : Program} {W : World} {ty : Ty} {t : TypeId} {v : Value} {d : DataW H} {ps : List MemPlace} {b : Nat} (hf : fitB P ty t = true)
    (hs : (match P.underlying t with | some (.struct _) | some (.array _ _) => false | some _ => true | none => false) = true) (hv : Value.okWide P W .any b t v) (h : DataW.Trod enc P W 0 (fun _ => true) true t v d ps) : ∃ y, Rep (old W) ty [v] y := by
  have := arg_rep hf h
  rwa [cells_one (okWide_one hs hv)] at this
theorem rep_int {r : Res} {v : Value} {n : Int} (h : Rep r (.int .i64) [v] n) : v = .int .i64 n ∧ (Lit.int .i64 n).wf = true := by
  simp only [Rep] at h
  exact ⟨by simpa using h.1, h.2⟩
end Go.Ck
namespace Go.Proofs.Ytmhmpjgkkpbnnaa
open Go Go.RowKit Go.ChangeShapes Go.WideShapes Go.Ck
theorem own' : ownKnob Try.prog.godebug = none := by kernel_rfl
theorem wf_I64' {n : Int} (h : (Lit.int .i64 n).wf = true) : I64 n := by
  unfold Lit.wf at h
  simp [IntKind.min, IntKind.max, IntKind.signed, IntKind.bits] at h
  unfold I64; omega
theorem rds_one {r : Res} {b o : Nat} {us : List Value} (hl : us.length = 1) (h : Rds r b o us) : ∃ u, us = [u] ∧ Rd r ⟨b, o, none⟩ u := by
  match us, hl with
  | [u], _ => exact ⟨u, rfl, by have := h 0 (by simp); rwa [Nat.add_zero] at this⟩
theorem rowB_of {r : Res} {u : Value} {y : (Ty.slice .bool).D} (h : Rep r (.slice .bool) [u] y) : RowB r u (show List Bool from y) := by
  simp only [Rep] at h
  obtain ⟨a, cap, h1, _, _, _, h2⟩ := h
  refine ⟨a, cap, (List.cons.inj h1).1, h2.imp id ?_⟩
  rintro ⟨b, o, h3, h4⟩
  refine ⟨b, o, h3, fun j hj => ?_⟩
  obtain ⟨us, h5, h6, h7⟩ := h4 j _ (List.getElem?_eq_getElem hj)
  obtain ⟨u, rfl, h8⟩ := rds_one h5 h6
  rw [show o + j = o + j * Ty.bool.sz by simp [Ty.sz]]
  have : u = .bool ((show List Bool from y)[j]) := by simpa using h7
  rw [← this]; exact h8
theorem rowI_of {r : Res} {u : Value} {y : (Ty.slice (.int .i64)).D} (h : Rep r (.slice (.int .i64)) [u] y) : RowI r u (show List Int from y) := by
  simp only [Rep] at h
  obtain ⟨a, cap, h1, _, _, _, h2⟩ := h
  refine ⟨a, cap, (List.cons.inj h1).1, h2.imp id ?_⟩
  rintro ⟨b, o, h3, h4⟩
  refine ⟨b, o, h3, fun j hj => ?_⟩
  obtain ⟨us, h5, h6, h7⟩ := h4 j _ (List.getElem?_eq_getElem hj)
  obtain ⟨u, rfl, h8⟩ := rds_one h5 h6
  rw [show o + j = o + j * (Ty.int .i64).sz by simp [Ty.sz]]
  have : u = .int .i64 ((show List Int from y)[j]) := by simpa using h7.1
  rw [← this]; exact h8
theorem shp_of {r : Res} {v : Value} {y : (Ty.slice (.slice .bool)).D} (h : Rep r (.slice (.slice .bool)) [v] y) : Shp r v (show List (List Bool) from y) ∧ (show List (List Bool) from y).length ≤ maxLen := by
  unfold Rep at h
  obtain ⟨a, cap, h1, hl, hm, _, h2⟩ := h
  refine ⟨⟨a, cap, (List.cons.inj h1).1, h2.imp id ?_⟩, Nat.le_trans hl hm⟩
  rintro ⟨b, o, h3, h4⟩
  refine ⟨b, o, h3, fun i hi => ?_⟩
  obtain ⟨us, h5, h6, h7⟩ := h4 i _ (List.getElem?_eq_getElem hi)
  obtain ⟨u, rfl, h8⟩ := rds_one h5 h6
  exact ⟨u, by rw [show o + i = o + i * (Ty.slice .bool).sz by simp [Ty.sz]]; exact h8, rowB_of h7⟩
theorem rep_kind {k : IntKind} {r : Res} {v : Value} {n : Int} (h : Rep r (.int k) [v] n) : v = .int k n ∧ (Lit.int k n).wf = true := by
  simp only [Rep] at h
  exact ⟨by simpa using h.1, h.2⟩
theorem wf_u16 {n : Int} (h : (Lit.int .u16 n).wf = true) : 0 ≤ n ∧ n < 65536 := by
  unfold Lit.wf at h
  simp [IntKind.min, IntKind.max, IntKind.signed, IntKind.bits] at h
  omega
theorem wf_u8 {n : Int} (h : (Lit.int .u8 n).wf = true) : 0 ≤ n ∧ n < 256 := by
  unfold Lit.wf at h
  simp [IntKind.min, IntKind.max, IntKind.signed, IntKind.bits] at h
  omega
end Go.Proofs.Ytmhmpjgkkpbnnaa
namespace Go.Proofs.Ytmhmpjgkkpbnnaa
open Go.Ck Fx Go.Hm Go.Hm.AM
attribute [local irreducible] St Cd Xt Nx DrL LsW
/-- Rows of numbers, each with a block of its own. -/
def rowsI (us : List Value) (rows : List (List Int)) : SH := (us.zip rows).map fun q => vec q.1 3 1 q.2.length (ints q.2)
theorem rowsI_snoc {us : List Value} {rows : List (List Int)} {u : Value} {l : List Int} (h : us.length = rows.length) : rowsI (us ++ [u]) (rows ++ [l]) = rowsI us rows ++ [vec u 3 1 l.length (ints l)] := by
  unfold rowsI
  rw [List.zip_append h]; simp
/-- v is a list of rows of numbers, which r holds. -/
def RowsI (r : Res) (v : Value) (rows : List (List Int)) : Prop := ∃ a cp, v = .slice a rows.length cp ∧ (rows = [] ∨ ∃ b o, a = some ⟨b, o, none⟩ ∧ ∀ i (h : i < rows.length), ∃ u, Rd r ⟨b, o + i, none⟩ u ∧ RowI r u rows[i])
theorem RowsI.row {r : Res} {v : Value} {rows : List (List Int)} (h : RowsI r v rows) {i : Nat} (hi : i < rows.length) : ∃ b o cp u, v = .slice (some ⟨b, o, none⟩) rows.length cp ∧ Rd r ⟨b, o + i, none⟩ u ∧ RowI r u rows[i] := by
  obtain ⟨a, cp, hv, hn⟩ := h
  rcases hn with e | ⟨b, o, ha, hr⟩
  · rw [e] at hi; simp at hi
  obtain ⟨u, h1, h2⟩ := hr i hi
  exact ⟨b, o, cp, u, by rw [hv, ha], h1, h2⟩
/-- What the slices of a picture look like. -/
structure PF (sv fv rv : Value) (us : List Value) (p : Pic) : Prop where
  s : VForm sv p.shapes.length (ints p.shapes)
  r : VForm rv p.roots.length (ints p.roots)
  f : VForm fv p.fields.length us
  l : us.length = p.fields.length
  u : ∀ (j : Nat) (u : Value) (l : List Int), us[j]? = some u → p.fields[j]? = some l → VForm u l.length (ints l)
def pR (sv fv rv : Value) (us : List Value) (p : Pic) : Res := Res.star [vec sv 3 1 p.shapes.length (ints p.shapes), vec rv 3 1 p.roots.length (ints p.roots), vec fv 34 1 p.fields.length us, Res.star (rowsI us p.fields)]
/-- A picture that r holds. -/
structure PicV (r : Res) (sv fv rv : Value) (p : Pic) : Prop where
  ps : RowI r sv p.shapes
  pr : RowI r rv p.roots
  pf : RowsI r fv p.fields
theorem rowI_star2 {k : SH} {r : Res} {v : Value} {l : List Int} (hm : r ∈ k) (h : RowI r v l) : RowI (Res.star k) v l := by
  obtain ⟨a, cp, h1, h2 | ⟨b, o, h3, h4⟩⟩ := h
  · exact ⟨a, cp, h1, .inl h2⟩
  · exact ⟨a, cp, h1, .inr ⟨b, o, h3, fun j hj => rd_star_mem hm (h4 j hj)⟩⟩
theorem rowI_star {k : SH} {v : Value} {l : List Int} (hm : vec v 3 1 l.length (ints l) ∈ k) (hv : VForm v l.length (ints l)) : RowI (Res.star k) v l := by
  rcases hv with ⟨h1, h2, h3⟩ | ⟨b', cp', h1⟩
  · refine ⟨none, 0, by rw [h1, h2], .inl (List.eq_nil_of_length_eq_zero h2)⟩
  · refine ⟨_, cp', h1, .inr ⟨b', 0, rfl, fun j hj => ?_⟩⟩
    rw [Nat.zero_add]
    exact rd_star_mem hm (rd_vec h1 (by simp [ints, hj]))
theorem PF.v {sv fv rv : Value} {us : List Value} {p : Pic} (h : PF sv fv rv us p) : PicV (pR sv fv rv us p) sv fv rv p := by
  have hl := h.l
  refine ⟨rowI_star (by simp) h.s, rowI_star (by simp) h.r, ?_⟩
  rcases h.f with ⟨h0, h1, h2⟩ | ⟨b, cp, h0⟩
  · exact ⟨none, 0, by rw [h0, h1], .inl (List.eq_nil_of_length_eq_zero h1)⟩
  · refine ⟨_, cp, h0, .inr ⟨b, 0, rfl, fun i hi => ⟨us[i]'(by omega), ?_, ?_⟩⟩⟩
    · rw [Nat.zero_add]
      exact rd_star_mem (r := vec fv 34 1 p.fields.length us) (by simp) (rd_vec h0 (List.getElem?_eq_getElem (by omega)))
    · refine rowI_star2 (r := Res.star (rowsI us p.fields)) (by simp) (rowI_star ?_ (h.u i _ _ (List.getElem?_eq_getElem (by omega)) (List.getElem?_eq_getElem hi)))
      have hm : vec (us[i]'(by omega)) 3 1 p.fields[i].length (ints p.fields[i]) ∈ rowsI us p.fields := by
        refine List.mem_map.2 ⟨(us[i]'(by omega), p.fields[i]), ?_, rfl⟩
        have : (us.zip p.fields)[i]'(by simp; omega) = (us[i]'(by omega), p.fields[i]) := by simp
        rw [← this]; exact List.getElem_mem _
      exact hm
theorem row_step {A : List Int} {k n : Nat} (hA : A.length = n) (hk : k < n) (x : Int) : (A.take k ++ List.replicate (n - k) 0).set k x = A.take k ++ x :: List.replicate (n - (k + 1)) 0 := by
  rw [List.set_append_right _ _ (by rw [List.length_take]; omega), List.length_take, Nat.min_eq_left (by omega), Nat.sub_self, show n - k = (n - (k + 1)) + 1 by omega, List.replicate_succ, List.set_cons_zero]
theorem row_step2 {A : List Int} {k n : Nat} (hA : A.length = n) (hk : k < n) (x y : Int) : (A.take k ++ x :: List.replicate (n - (k + 1)) 0).set k y = A.take k ++ y :: List.replicate (n - (k + 1)) 0 := by
  rw [List.set_append_right _ _ (by rw [List.length_take]; omega), List.length_take, Nat.min_eq_left (by omega), Nat.sub_self, List.set_cons_zero]
theorem row_next {A : List Int} {k n : Nat} (hA : A.length = n) (hk : k < n) {x : Int} (hx : A[k]? = some x) : A.take k ++ x :: List.replicate (n - (k + 1)) 0 = A.take (k + 1) ++ List.replicate (n - (k + 1)) 0 := by
  rw [List.getElem?_eq_getElem (by omega)] at hx
  rw [List.take_succ_eq_append_getElem (by omega), List.append_assoc]
  cases hx; rfl
theorem row_get {A : List Int} {k n : Nat} (hA : A.length = n) (hk : k < n) (x : Int) : (A.take k ++ x :: List.replicate (n - (k + 1)) 0)[k]? = some x := by
  rw [List.getElem?_append_right (by rw [List.length_take]; omega), List.length_take, Nat.min_eq_left (by omega), Nat.sub_self]; rfl
section
variable {m : AM} {S R : Res} {t k a : Int} {ly ln lf N rl rs : List Int} {sp : Int} {v : Value} {roots : List Int} {φ : Int → Option Nat} {A : Store}
/-- An object of the machine: its address is in the memory, and its shape is one of those that there are. -/
structure Ob (m : AM) (t : Int) : Prop where
  t0 : 0 ≤ t
  t1 : t < m.Y + 2 * m.H + 1
  h0 : 0 < m.head t
  h1 : m.head t ≤ m.sh.length
  h2 : t + m.size t ≤ m.Y + 2 * m.H + 1
theorem ob_y (h : Gd m ly ln lf N rl sp rs) {t : Int} (ht : t ∈ ly) : Ob m t := by
  have h1 := h.ybd ht; have h2 := h.yl; have h3 := h.sz.H0
  exact ⟨by omega, by omega, h.yhead ht, h.y.ok t ht, by omega⟩
theorem ob_n (h : Gd m ly ln lf N rl sp rs) {t : Int} (ht : t ∈ ln) : Ob m t := by
  have h1 := h.obd ht; have h2 := h.oldle; have h3 := h.sz.H0; have h4 := h.sz.Y0; have h5 := m.base_former
  exact ⟨by omega, by omega, h.ohead ht, h.o.ok t ht, by omega⟩
theorem ob_f (h : Gd m ly ln lf N rl sp rs) {t : Int} (ht : t ∈ lf) : Ob m t := by
  obtain ⟨fe, h6, h7⟩ := h.f
  have h1 := h.fbd ht; have h3 := h.sz.H0; have h4 := h.sz.Y0; have h5 := m.base_former
  exact ⟨by omega, by omega, h.fhead ht, h7.ok t ht, by omega⟩
theorem ob_cur (h : Gd m ly ln lf N rl sp rs) {t : Int} (hc : m.cur t = true) : Ob m t := by
  rcases h.cur_iff.1 hc with h1 | h1
  · exact ob_y h h1
  · exact ob_n h h1
theorem Ob.i (o : Ob m t) : (m.head t - 1).toNat < m.sh.length := by have := o.h0; have := o.h1; omega
theorem Ob.row (o : Ob m t) : m.row t = m.sh[(m.head t - 1).toNat]'o.i := by
  unfold AM.row; rw [List.getD_eq_getElem?_getD, List.getElem?_eq_getElem o.i]; rfl
theorem Ob.len (o : Ob m t) (z : Sz m) : (m.row t).length ≤ 100 := by rw [o.row]; exact z.w _ (List.getElem_mem _)
theorem ob_obj (h : Gd m ly ln lf N rl sp rs) {t : Int} (ht : AM.Obj ly ln lf t) : Ob m t := by
  rcases ht with ht | ht | ht
  · exact ob_y h ht
  · exact ob_n h ht
  · exact ob_f h ht
/-- The parts of a picture, as they grow. -/
theorem pic_parts (m : AM) (roots : List Int) : (m.pic roots).shapes = (m.gr.met m.T roots).map (fun t => m.head t - 1) ∧ (m.pic roots).fields = (m.gr.met m.T roots).map (m.gr.prow (m.gr.met m.T roots)) ∧ (m.pic roots).roots = roots.map fun r => 1 + idx (m.gr.met m.T roots) r := ⟨rfl, rfl, rfl⟩
theorem take_map_succ {α β : Type} {f : α → β} {l : List α} {i : Nat} (h : i < l.length) : (l.map f).take (i + 1) = (l.map f).take i ++ [f l[i]] := by
  rw [List.take_succ_eq_append_getElem (by simpa using h)]; simp
theorem gr_flag {k : Nat} (hk : k < (m.row t).length) : ((m.gr.fs t)[k]'(by rw [gr_len]; exact hk)) = ((m.row t)[k], if (m.row t)[k] then m.seen (m.word (t + 1 + k)) else m.word (t + 1 + k)) := by
  rw [gr_get, List.getD_eq_getElem?_getD, List.getElem?_eq_getElem hk]; rfl
theorem prow_len (m : AM) (M : List Int) (t : Int) : (m.gr.prow M t).length = (m.row t).length := by unfold Gr.prow; rw [List.length_map, gr_len]
theorem prow_get {M : List Int} {k : Nat} (hk : k < (m.row t).length) : (m.gr.prow M t)[k]? = some (if (m.row t)[k] then 1 + idx M (m.seen (m.word (t + 1 + k))) else m.word (t + 1 + k)) := by
  unfold Gr.prow
  rw [List.getElem?_map, List.getElem?_eq_getElem (by rw [gr_len]; exact hk), gr_flag hk]
  simp only [Option.map_some]
  split <;> rfl
theorem snoc_all {α β : Type} {P : α → β → Prop} {us : List α} {fs : List β} {x0 : α} {y0 : β} {i : Nat} (hul : us.length = i) (hf : ∀ (j : Nat) (u : α) (x : β), us[j]? = some u → fs[j]? = some x → P u x) (hi : fs[i]? = some y0) (h0 : P x0 y0) : ∀ (j : Nat) (u : α) (x : β), (us ++ [x0])[j]? = some u → fs[j]? = some x → P u x := fun j u x hu hx => by
  rcases Nat.lt_or_ge j us.length with hj | hj
  · exact hf j u x (by rw [List.getElem?_append_left hj] at hu; exact hu) hx
  · have hji : j = us.length := by
      have := (List.getElem?_eq_some_iff.1 hu).1
      simp at this; omega
    subst hji
    rw [List.getElem?_append_right (Nat.le_refl _)] at hu
    rw [hul, hi] at hx
    simp at hu hx
    rw [← hu, ← hx]; exact h0
theorem VForm.one {v : Value} {n : Nat} {l : List Value} (h : VForm v n l) : v.oneCell' = true := by
  rcases h with ⟨h, _⟩ | ⟨b, cp, h⟩ <;> rw [h] <;> rfl
end
end Go.Proofs.Ytmhmpjgkkpbnnaa
