/-
  The chapter's example is as it must be: sanity. No condition.
  HeapNil: a nil memory has the errors, and the zero values, that it must have. No condition: for every call.
  Small lemmas that the reference and the player share: arrays loaded, lists forwarded, the law's fit, a new machine. Conditions: what the heap holds.
  What the arguments of the laws read as: shapes, rows, numbers, acts. No condition.
  Pictures: their parts, and what holds them; objects of the plain machine. Conditions: what the heap holds, that the machine is in order.
  The reference's small functions that know no memory: in, index, meet, Checked. Conditions: what the heap holds, that sizes are small.
  Pictures of package heap: seen, in, meet. Conditions: what the heap holds, that the machine is in order.
  Pictures of package heap: Picture. Conditions: what the heap holds, that the machine is in order.
-/
import Derived.Test.YtmhmpjgkkpbnnaaGreatM8
import Derived.Test.YtmhmpjgkkpbnnaaGreatM6
import Derived.Test.YtmhmpjgkkpbnnaaGreatM2
import Derived.JoinedCond
import Derived.Test.YtmhmpjgkkpbnnaaGreatM4
namespace Go.Ck
open Go
section
variable {c : Cx} {ops : Array Oper} {K : Act → World → Prop} {rest : List Oper} {e : Env} {h : SH}
theorem st_guard {d : Option Nat} {op : Op} {ty : TypeId} {pos : String} {after : Array Edge} {g gd : Nat} {want : Bool} (hd : ∀ k, op ≠ .defer k) (hg : ((ops[g]?).bind (·.dst)) = some gd) (hgv : e.get? gd = some (.bool want))
    (hs : St c ops K (⟨d, op, ty, pos, after, none⟩ :: rest) e h) : St c ops K (⟨d, op, ty, pos, after, some (g, want)⟩ :: rest) e h := fun a w hk hh hw => by
  have h1 := hs a w hk hh hw
  unfold LsW at h1 ⊢
  rw [if_pos (by simp [Region.wanted])] at h1
  rw [if_pos (by simp [Region.wanted, yields_guard hg hgv hk])]
  unfold OpW OpV at h1 ⊢
  rw [Oper.semAt_eq _ _ _ hd] at h1 ⊢
  exact h1
end
end Go.Ck
namespace Go.Proofs.YtmhmpjgkkpbnnaaGreat
open Go.Ck Fx Go.Hm Go.Hm.AM
attribute [local irreducible] St Cd Xt Nx DrL LsW
theorem eqi48 : EqI Tryz.prog 48 3 := EqI.of Tryz.underlying48 (by kernel_rfl) (by kernel_rfl) (by kernel_rfl) rfl
theorem rowI_pt {b : Nat} {l : List Int} : RowI (pt b (cl (ints l) 3)) (.slice (some ⟨b, 0, none⟩) l.length l.length) l := ⟨_, _, rfl, .inr ⟨b, 0, rfl, fun j hj => rd_cl (by simp [ints, hj])⟩⟩
set_option maxRecDepth 100000 in
theorem sameInts2_ct {R1 R2 : Res} {v1 v2 : Value} {l1 l2 : List Int} (h1 : RowI R1 v1 l1) (h2 : RowI R2 v2 l2) (hl : l1.length ≤ 1000000) : Reads Tryz.prog 11 #[v1, v2] [R1, R2] (.bool (l1 == l2)) :=
  Reads.unstar (sameInts_ct (RowI.star .here h1) (RowI.star (.there .here) h2) hl)
theorem rowI_vec {v : Value} {n : Nat} {l : List Int} {a : Option Addr} {cp : Nat} (hv : v = .slice a n cp) (ha : 0 < n → ∃ b, a = some ⟨b, 0, none⟩) (hn : l.length = n) : RowI (vec v 3 1 n (ints l)) v l := by
  subst hn
  refine ⟨a, cp, hv, ?_⟩
  by_cases h0 : l.length = 0
  · exact .inl (List.eq_nil_of_length_eq_zero h0)
  · obtain ⟨b, rfl⟩ := ha (by omega)
    exact .inr ⟨b, 0, rfl, fun j hj => by rw [Nat.zero_add]; exact rd_vec hv (by simp [ints, hj])⟩
set_option maxHeartbeats 8000000 in
set_option maxRecDepth 100000 in
theorem sanity_c : Ct Tryz.prog 5 #[] [] fun v h' => v = .bool true ∧ h' = [] := by
  refine ct_of (n := 209) Tryz.func5 rfl rfl (len rfl) fun hr w0 => ?_
  simp only [List.nil_append]
  refine cS (cR (sV (vA rfl) (sN (nT (cS (cR (st_cl rfl rfl en17 rfl (shapes_ct) ?_)))))))
  rintro v' h' ⟨R, hR, rfl⟩
  simp only [List.cons_append, List.nil_append]
  refine st_cl rfl rfl en16 rfl (new_c hR (by decide)) ?_
  rintro v' h' hu
  rcases hu with ⟨h1, _⟩ | ⟨_, L, μ0, S, rfl, I0, rfl⟩
  · exact absurd (by decide) h1
  have I0 : MI L μ0 S sm0 := I0
  simp only [memSH, List.cons_append, List.nil_append]
  refine sV (vM rfl) (sV (v_extract rfl rfl) (sV (v_extract rfl rfl) (sV (vA rfl) (sV (vA rfl) (sN (nK [0, 1, 2] rfl (nT (cS (cS (cR (sV (vM rfl) (sV (v_neq rfl rfl) (sV (vM rfl) (st_vg rfl rfl (vM rfl) (st_vg rfl rfl (v_eql_ptr_nil rfl rfl pt26) ?_)))))))))))))))
  refine sV (vP rfl rfl) (sN (nK [0, 1, 38] rfl (nT (cd_false rfl ?_))))
  refine cK (xT (cS (cR (sV (vM rfl) ?_))))
  obtain ⟨_, _, _, _, _, g0⟩ := sf0
  obtain ⟨_, _, _, _, _, g1⟩ := sf0.alloc 0
  obtain ⟨_, _, _, _, _, g2⟩ := (sf0.alloc 0).alloc 0
  obtain ⟨_, _, _, _, _, g3⟩ := sf3
  refine st_cl rfl rfl en18 rfl (alloc_c I0 g0 0) ?_
  rintro v' h' ⟨μ1, rfl, I1, rfl⟩
  have I1 : MI L μ1 S sm1 := I1
  rw [se1.1, se1.2]
  simp only [memSH, List.cons_append, List.nil_append]
  refine sV (vM rfl) (sV (v_extract rfl rfl) (sV (v_extract rfl rfl) (sV (vA rfl) (sV (vA rfl) (sN (nK [0, 1, 3, 4] rfl (nT (cS (cR (sV (vM rfl) (st_cl rfl rfl en18 rfl (alloc_c I1 g1 0) ?_)))))))))))
  rintro v' h' ⟨μ2, rfl, I2, rfl⟩
  have I2 : MI L μ2 S sm2 := I2
  rw [se2.1, se2.2]
  simp only [memSH, List.cons_append, List.nil_append]
  refine sV (vM rfl) (sV (v_extract rfl rfl) (sV (v_extract rfl rfl) (sV (vA rfl) (sV (vA rfl) (sN (nK [0, 1, 3, 4, 5, 6] rfl (nT (cS (cR (sV (vM rfl) (st_cl rfl rfl en18 rfl (alloc_c I2 g2 0) ?_)))))))))))
  rintro v' h' ⟨μ3, rfl, I3, rfl⟩
  have I3 : MI L μ3 S sm3 := I3
  rw [se3.1, se3.2]
  simp only [memSH, List.cons_append, List.nil_append]
  refine sV (vM rfl) (sV (v_extract rfl rfl) (sV (v_extract rfl rfl) (sV (vA rfl) (sV (vA rfl) (sN (nK [0, 1, 3, 4, 5, 6, 7, 8] rfl (nT (cS (cR (sV (vM rfl) (st_cl rfl rfl en18 rfl (alloc_c I3 g3 0) ?_)))))))))))
  rintro v' h' ⟨μ4, rfl, I4, rfl⟩
  have I4 : MI L μ4 S sm3 := by have e : (sm3.alloc 0).2.2 = sm3 := (alloc_err (by rw [se4.2]; decide)).1
                                rw [← e]; exact I4
  rw [se4.1, se4.2]
  simp only [memSH, List.cons_append, List.nil_append]
  refine sV (vM rfl) (sV (v_extract rfl rfl) (sV (v_extract rfl rfl) (sV (vA rfl) (sV (vA rfl) (sN (nK [0, 1, 3, 4, 5, 6, 7, 8, 10] rfl (nT (cS (cR (sV (vM rfl) (st_cl rfl rfl en19 rfl (set_c I4 g3 1 1 4) ?_)))))))))))
  rintro v' h' ⟨L5, μ5, rfl, I5, hL5, rfl⟩
  have I5 : MI L5 μ5 S sm5 := I5
  rw [se5, ← hL5]
  simp only [memSH, List.cons_append, List.nil_append]
  obtain ⟨_, _, _, _, _, g5⟩ := sf5
  refine sV (vA rfl) (sN (nK [0, 1, 3, 4, 5, 6, 7, 8, 10, 11] rfl (nT (cS (cR (sV (vM rfl) (st_buildSlice (cells := [.int .i64 4, .int .i64 1]) rfl Tryz.underlying27 inf3 rfl rfl (by kernel_rfl) (ltn rfl) fun b63 => ?_)))))))
  refine st_cl rfl rfl en20 rfl (minor_c I5 g5 (rowI_pt (b := b63) (l := [4, 1])) (by decide)) ?_
  rintro v' h' ⟨sl6, L6, μ6, rfl, I6, hL6, rfl⟩
  have I6 : MI L6 μ6 S sm6 := I6
  rw [se6.1, se6.2.1, ← hL6]
  simp only [memSH, List.cons_append, List.nil_append]
  refine sV (vM rfl) (sV (v_extract rfl rfl) (sV (v_extract rfl rfl) (sV (vA rfl) (sV (vA rfl) (sN (nK [0, 1, 3, 4, 5, 6, 7, 8, 10, 11, 12, 13] rfl (nT (cS (cS (cd_vecshape (v := sl6) (E := 3) (sz := 1) (n := 2) (l := ints [11, 14]) (by repeat (first | exact Sel.here | apply Sel.there)) fun sa6 sc6 hs6 ha6 => ?_))))))))))
  refine cR (sV (vM rfl) (sV (v_neq rfl rfl) (sV (vM rfl) (st_vg rfl rfl (vM rfl) (st_vg rfl rfl (v_neq rfl rfl) (sV (vP rfl rfl) (sV (vM rfl) (st_vg rfl rfl (vM rfl) (st_vg rfl rfl (v_neq rfl rfl) (sV (vP rfl rfl) (sV (vM rfl) (st_vg rfl rfl (vM rfl) (st_vg rfl rfl (v_neq rfl rfl) ?_)))))))))))))
  refine sV (vP rfl rfl) (sV (vM rfl) (st_vg rfl rfl (vM rfl) (st_vg rfl rfl (v_neq rfl rfl) (sV (vP rfl rfl) (sV (vM rfl) (st_vg rfl rfl (vM rfl) (st_vg rfl rfl (v_neq rfl rfl) (sV (vP rfl rfl) (sV (vM rfl) (st_vg rfl rfl (vM rfl) (st_vg rfl rfl (v_neq rfl rfl) (sV (vP rfl rfl) (sV (vM rfl) ?_)))))))))))))
  refine st_vg rfl rfl (vM rfl) (st_vg rfl rfl (v_neq rfl rfl) (sV (vP rfl rfl) (sV (vM rfl) (st_vg rfl rfl (vM rfl) (st_vg rfl rfl (v_neq rfl rfl) (sV (vP rfl rfl) (sV (vM rfl) (st_vg rfl rfl (vM rfl) (st_guard (by simp) rfl rfl (st_buildSlice (cells := [.int .i64 11, .int .i64 14]) rfl Tryz.underlying27 inf3 rfl rfl (by kernel_rfl) (ltn rfl) fun b103 => ?_))))))))))
  refine st_clrg rfl rfl rfl rfl en11 rfl (sameInts2_ct (l1 := [11, 14]) (l2 := [11, 14]) (rowI_vec hs6 ha6 rfl) (rowI_pt (b := b103) (l := [11, 14])) (by decide)) ?_
  rw [show (([11, 14] : List Int) == [11, 14]) = true by decide]
  refine st_vg rfl rfl (v_not rfl) (sV (vP rfl rfl) (sN (nK [0, 1, 12, 106] rfl (nT (cd_false rfl ?_)))))
  refine cK (xT (cS (cR (sV (vM rfl) ?_))))
  obtain ⟨_, _, _, _, _, g6⟩ := sf6
  refine st_clr rfl rfl en13 rfl (room_c I6) ?_
  rw [se6r]
  refine sV (v_build (cells := ints [0, 6, 0]) rfl (fun _ => by kernel_rfl)) ?_
  refine sV (v_eql_ints (xs := [0, 6, 0]) (ys := [0, 6, 0]) eqi48 rfl rfl rfl rfl) ?_
  rw [show (([0, 6, 0] : List Int) == [0, 6, 0]) = true by decide]
  refine sV (vA rfl) (sN (nK [0, 1, 12, 14] rfl (nT (cS (cR (sV (vM rfl) (st_cl rfl rfl en21 rfl (get_c I6 g6 14 1) ?_)))))))
  rintro v' h' ⟨μ7, rfl, I7, rfl⟩
  have I7 : MI L6 μ7 S sm7 := I7
  rw [se7.1, se7.2]
  simp only [memSH, List.cons_append, List.nil_append]
  obtain ⟨_, _, _, _, _, g7⟩ := sf7
  refine sV (vM rfl) (sV (v_extract rfl rfl) (sV (v_extract rfl rfl) (sV (vA rfl) (sV (vA rfl) (sN (nK [0, 1, 12, 14, 15, 16] rfl (nT (cS (cR (sV (vM rfl) (st_clr rfl rfl en22 rfl (shape_c I7 g7 4) ?_)))))))))))
  rw [se7s]
  refine sV (vM rfl) (sV (v_extract rfl rfl) (sV (v_extract rfl rfl) (sV (vA rfl) (sV (vA rfl) (sN (nK [0, 1, 12, 14, 15, 16, 18] rfl (nT (cS (cR (sV (vM rfl) (st_buildSlice (cells := [.int .i64 14]) rfl Tryz.underlying27 inf3 rfl rfl (by kernel_rfl) (ltn rfl) fun b123 => ?_)))))))))))
  refine st_cl rfl rfl en23 rfl (flip_c I7 g7 (rowI_pt (b := b123) (l := [14])) (by decide)) ?_
  rintro v' h' ⟨sl8, L8, μ8, rfl, I8, hL8, rfl⟩
  have I8 : MI L8 μ8 S sm8 := I8
  rw [se8.1, se8.2.1, ← hL8]
  simp only [memSH, List.cons_append, List.nil_append]
  obtain ⟨_, _, _, _, _, g8⟩ := sf8
  refine sV (vM rfl) (sV (v_extract rfl rfl) (sV (v_extract rfl rfl) (sV (vA rfl) (sV (vA rfl) (sN (nK [0, 1, 12, 14, 15, 16, 18, 19] rfl (nT (cS (cR (sV (vM rfl) (st_clr rfl rfl en13 rfl (room_c I8) ?_)))))))))))
  rw [se8r]
  refine sV (v_build (cells := ints [0, 3, 3]) rfl (fun _ => by kernel_rfl)) ?_
  refine sV (v_eql_ints (xs := [0, 3, 3]) (ys := [0, 3, 3]) eqi48 rfl rfl rfl rfl) ?_
  rw [show (([0, 3, 3] : List Int) == [0, 3, 3]) = true by decide]
  refine sV (vA rfl) (sN (nK [0, 1, 12, 14, 15, 16, 18, 19, 20] rfl (nT (cS (cR (sV (vM rfl) (st_cl rfl rfl en21 rfl (get_c I8 g8 51 1) ?_)))))))
  rintro v' h' ⟨μ9, rfl, I9, rfl⟩
  have I9 : MI L8 μ9 S sm9 := I9
  rw [se9.1, se9.2]
  simp only [memSH, List.cons_append, List.nil_append]
  obtain ⟨_, _, _, _, _, g9⟩ := sf9
  refine sV (vM rfl) (sV (v_extract rfl rfl) (sV (v_extract rfl rfl) (sV (vA rfl) (sV (vA rfl) (sN (nK [0, 1, 12, 14, 15, 16, 18, 19, 20, 21, 22] rfl (nT (cS (cR (sV (vM rfl) (st_clr rfl rfl en13 rfl (room_c I9) ?_)))))))))))
  rw [se9r.1]
  refine sV (v_build (cells := ints [0, 6, 0]) rfl (fun _ => by kernel_rfl)) ?_
  refine sV (v_eql_ints (xs := [0, 6, 0]) (ys := [0, 6, 0]) eqi48 rfl rfl rfl rfl) ?_
  rw [show (([0, 6, 0] : List Int) == [0, 6, 0]) = true by decide]
  refine sV (vA rfl) (sN (nK [0, 1, 12, 14, 15, 16, 18, 19, 20, 21, 22, 23] rfl (nT (cS (cR (sV (vM rfl) (st_cl rfl rfl en24 rfl (step_c I9 g9 3 (by unfold I64; omega)) ?_)))))))
  rintro v' h' ⟨L10, μ10, rfl, I10, hL10, rfl⟩
  have I10 : MI L10 μ10 S sm10 := I10
  rw [se10.1, se10.2.1, ← hL10]
  simp only [memSH, List.cons_append, List.nil_append]
  obtain ⟨_, _, _, _, _, g10⟩ := sf10
  refine sV (vM rfl) (sV (v_extract rfl rfl) (sV (v_extract rfl rfl) (sV (vA rfl) (sV (vA rfl) (sN (nK [0, 1, 12, 14, 15, 16, 18, 19, 20, 21, 22, 23, 24, 25] rfl (nT (cS (cR (sV (vM rfl) (st_cl rfl rfl en24 rfl (step_c I10 g10 3 (by unfold I64; omega)) ?_)))))))))))
  rintro v' h' ⟨L11, μ11, rfl, I11, hL11, rfl⟩
  have I11 : MI L11 μ11 S sm11 := I11
  rw [se11.1, se11.2.1, ← hL11]
  simp only [memSH, List.cons_append, List.nil_append]
  obtain ⟨_, _, _, _, _, g11⟩ := sf11
  refine sV (vM rfl) (sV (v_extract rfl rfl) (sV (v_extract rfl rfl) (sV (vA rfl) (sV (vA rfl) (sN (nK [0, 1, 12, 14, 15, 16, 18, 19, 20, 21, 22, 23, 24, 25, 26, 27] rfl (nT (cS (cS (cR (sV (vM rfl) (sV (v_neq rfl rfl) (sV (vM rfl) (st_vg rfl rfl (vM rfl) (st_vg rfl rfl (v_neq rfl rfl) ?_)))))))))))))))
  refine sV (vP rfl rfl) (sV (vM rfl) (st_vg rfl rfl (vM rfl) (st_vg rfl rfl (v_neq rfl rfl) (sV (vP rfl rfl) (sV (vM rfl) (st_vg rfl rfl (vM rfl) (st_vg rfl rfl (v_neq rfl rfl) (sV (vP rfl rfl) (sV (vM rfl) (st_vg rfl rfl (vM rfl) (st_vg rfl rfl (v_neq rfl rfl) (sV (vP rfl rfl) (sV (vM rfl) ?_)))))))))))))
  refine st_vg rfl rfl (vM rfl) (st_vg rfl rfl (v_neq rfl rfl) (sV (vP rfl rfl) (sV (vM rfl) (st_vg rfl rfl (vM rfl) (st_vg rfl rfl (v_neq rfl rfl) (sV (vP rfl rfl) (sV (vM rfl) (st_vg rfl rfl (vM rfl) (st_vg rfl rfl (v_neq rfl rfl) (sV (vP rfl rfl) (sV (vM rfl) (st_vg rfl rfl (vM rfl) (st_vg rfl rfl (v_neq rfl rfl) ?_)))))))))))))
  refine sV (vP rfl rfl) (sV (vM rfl) (st_vg rfl rfl (vM rfl) (st_vg rfl rfl (v_neq rfl rfl) (sV (vP rfl rfl) (sV (vM rfl) (st_vg rfl rfl (vM rfl) (st_clrg rfl rfl rfl rfl en15 rfl (busy_c I11) ?_)))))))
  rw [se11.2.2]
  refine sV (vP rfl rfl) (sN (nK [0, 1, 12, 14, 20, 23, 191] rfl (nT (cd_false rfl ?_))))
  refine cK (xT (cS (cd_vecshape (v := sl8) (E := 3) (sz := 1) (n := 1) (l := ints [51]) (by repeat (first | exact Sel.here | apply Sel.there)) fun sa8 sc8 hs8 ha8 => ?_)))
  refine cR (sV (vM rfl) (sV (vM rfl) (st_vg rfl rfl (vM rfl) (sV (v_pick_true rfl rfl) (sV (vM rfl) (st_vg rfl rfl (vM rfl) (sV (v_pick_true rfl rfl) (sV (vM rfl) (st_vg rfl rfl (vM rfl) (st_guard (by simp) rfl rfl (st_buildSlice (cells := [.int .i64 51]) rfl Tryz.underlying27 inf3 rfl rfl (by kernel_rfl) (ltn rfl) fun b201 => ?_)))))))))))
  refine st_clrg rfl rfl rfl rfl en11 rfl (sameInts2_ct (l1 := [51]) (l2 := [51]) (rowI_vec hs8 ha8 rfl) (rowI_pt (b := b201) (l := [51])) (by decide)) ?_
  rw [show (([51] : List Int) == [51]) = true by decide]
  refine sV (v_pick_true rfl rfl) (sV (vM rfl) (st_vg rfl rfl (vM rfl) (st_clrg rfl rfl rfl rfl en25 rfl (check_c I11 g11) ?_)))
  refine st_vg rfl rfl (v_eql rfl rfl) (sV (v_pick_true rfl rfl) (sV (vA rfl) (sN (nK [0] rfl (nT (cT ?_))))))
  exact xt_rt rfl ⟨rfl, rfl⟩
end Go.Proofs.YtmhmpjgkkpbnnaaGreat
namespace Go.Ck
open Go
section
variable {P : Program} {e : Env} {h h' : SH} {ty : TypeId}
end
end Go.Ck
namespace Go.Proofs.YtmhmpjgkkpbnnaaGreat
open Go.Ck Fx Go.Hm Go.Hm.AM
attribute [local irreducible] St Cd Xt Nx DrL LsW
def kindOf (n : Int) : Int := ((n.tmod 7) + 7).tmod 7
end Go.Proofs.YtmhmpjgkkpbnnaaGreat
namespace Go.Ck
open Go Go.RowKit
theorem LdN.ofArr {P : Program} {T E : TypeId} {n k : Nat} (h : P.underlying T = some (.array k E)) (hs : Sz P T n) : LdN P T n := fun w b o vs hl hv => by
  have hi : (isAgg T).run P w = .ok true w := by unfold isAgg; simp only [Sem.run_bind, run_underlying h, Result.andThen_ok]; rfl
  have key : ∀ (k : Nat) (m : Nat) (acc : Array Value), m + k = n → acc = (vs.take m).toArray → (loadCellsFrom ⟨b, o, none⟩ m k acc).run P w = .ok vs.toArray w := by
    intro k
    induction k with
    | zero =>
      intro m acc hm ha
      have : m = n := by omega
      subst this
      simp [loadCellsFrom, ha, List.take_of_length_le (Nat.le_of_eq hl)]
    | succ k ih =>
      intro m acc hm ha
      have hmn : m < n := by omega
      have hc := hv m hmn
      have hlt : m < vs.length := by omega
      rw [List.getElem?_eq_getElem hlt] at hc
      unfold loadCellsFrom
      simp only [Sem.run_bind, run_load, Addr.add_lit, hc, Result.andThen_ok]
      refine ih (m + 1) _ (by omega) ?_
      rw [ha, List.take_succ_eq_append_getElem hlt]
      simp
  unfold Instr.loadAt loadVar loadCells
  simp only [Instr.sureAddr, Sem.run_bind, Sem.run_pure, Result.andThen_ok, hi, if_true, hs w, key n 0 #[] (by omega) (by simp)]
end Go.Ck
namespace Go.Hm.AM
theorem fwdL_len (y : Bool) : ∀ (ts : List Int) (m : AM), (fwdL y ts m).1.length = ts.length
  | [], _ => rfl
  | a :: ts, m => by simp only [fwdL, List.length_cons, fwdL_len y ts]
end Go.Hm.AM
namespace Go.Proofs.YtmhmpjgkkpbnnaaGreat
open Go.Ck Fx Go.Hm Go.Hm.AM
theorem fine_new {sh : List (List Bool)} {half young : Int} (h : newErr sh half young = 0) : Fine (AM.new' sh half young) := by
  unfold newErr at h
  split at h
  · cases h
  · rename_i h1
    split at h
    · cases h
    · rename_i h2
      simp only [Bool.or_eq_true, decide_eq_true_eq, not_or, bne_iff_ne, ne_eq, Decidable.not_not] at h1 h2
      obtain ⟨⟨hz, ha⟩, hb⟩ := h1
      unfold sized at hz
      by_cases hq : (decide (60 < (sh.length : Int)) || sh.any long) = true
      · rw [if_pos hq] at hz; cases hz
      · simp only [Bool.or_eq_true, decide_eq_true_eq, not_or, List.any_eq_true, not_exists, not_and] at hq
        exact ⟨_, _, _, _, _, Good.new (by omega) (by omega) (by omega) (by omega) (by omega) (fun l hl => by have := hq.2 l hl; unfold long at this; simp at this; omega)⟩
attribute [local irreducible] St Cd Xt Nx DrL LsW
section
variable {R : Res} {v : Value}
def fitRow (l : List Bool) : Bool := !((decide (8 < (l.length : Int)) && decide ((l.length : Int) ≤ 60)) || decide (70 < (l.length : Int)))
def fitp (sh : List (List Bool)) : Bool := sh.all fitRow && (decide ((sh.length : Int) ≤ 8) || (decide (60 < (sh.length : Int)) && decide ((sh.length : Int) ≤ 70)))
set_option maxRecDepth 100000 in
theorem fit_ct {sh : List (List Bool)} (h : Shp R v sh) (hl : sh.length ≤ maxLen) : Reads Tryz.prog 4 #[v] [R] (.bool (fitp sh)) := by
  obtain ⟨a, cp, hv, _⟩ := id h
  unfold maxLen at hl
  unfold fitp
  refine ct_of (n := 45) Tryz.func4 rfl rfl (len rfl) fun hr w0 => ?_
  refine cS (cR (sV (vA rfl) (sN (nT (cS (cS (cR (sV (vA rfl) (sN (nT (cd_block (cd_loop (σ := Nat) (fun i => [(0, v), (3, .int .i64 (i : Nat))]) (fun _ => R :: hr) (fun i => i ≤ sh.length ∧ (sh.take i).all fitRow = true) (fun i => sh.length - i) 0 ⟨Nat.zero_le _, rfl⟩ ⟨rfl, rfl, trivial⟩ (Sub.refl _) ?_))))))))))))
  rintro i ⟨hi, hne⟩
  refine cS (cS (cR (sV (vM rfl) (sV (vM rfl) (sV (v_len (congrArg some hv) Tryz.underlying22) (sV (v_lss rfl rfl) (sN (nK [0, 3, 7] rfl (nT (cC rfl (fun hd => ?_) (fun hd => ?_)))))))))))
  · skip
    have hlt : i < sh.length := by simpa using hd
    obtain ⟨b, o, cp', u, hv', hrd, hu⟩ := h.row hlt
    obtain ⟨ua, ucp, hue, _⟩ := id hu
    subst hue
    refine cK (xT (cS (cd_block (cS (cR (sV (vM rfl) (sV (vM rfl) (sV (v_ixo i (congrArg some hv') rfl sl22 rfl hlt) (sV (vL rfl ld55) ?_)))))))))
    refine sV (v_len rfl Tryz.underlying55) (sV (v_gtr rfl rfl) (sV (vM rfl) (st_cut (k := 14) (d := 23) (v := .bool (decide (8 < (sh[i].length : Int)) && decide ((sh[i].length : Int) ≤ 60))) (fun hcut => bool_want (b := decide (8 < (sh[i].length : Int))) true (fun hg => ?_) (fun hg => ?_)) ?_)))
    · refine st_sk rfl rfl hg ?_
      refine st_sk rfl rfl hg ?_
      refine st_sk rfl rfl hg ?_
      refine st_sk rfl rfl hg ?_
      refine st_sk rfl rfl hg ?_
      refine st_sk rfl rfl hg ?_
      refine sV (vP (bool_ev rfl hg) rfl) ?_
      exact hcut _ (ssub_head (by first | rfl | (rw [hg]; rfl) | simp_all) (uS rfl (uS rfl (uS rfl (uS rfl (uS rfl (uS rfl (ssub_refl))))))))
    · skip
      refine st_vg rfl (bG rfl hg) (vM rfl) (st_vg rfl (bG rfl hg) (vM rfl) (st_vg rfl (bG rfl hg) (v_ixo i (congrArg some hv') rfl sl22 rfl hlt) (st_vg rfl (bG rfl hg) (vL rfl ld55) ?_)))
      refine st_vg rfl (bG rfl hg) (v_len rfl Tryz.underlying55) (st_vg rfl (bG rfl hg) (v_leq rfl rfl) (sV (v_pick_true (bool_ev rfl hg) rfl) ?_))
      exact hcut _ (ssub_head (by first | rfl | (rw [hg]; rfl) | simp_all) (uS rfl (uS rfl (uS rfl (uS rfl (uS rfl (uS rfl (ssub_refl))))))))
    refine sV (vM rfl) (st_cut (k := 22) (d := 31) (v := .bool ((decide (8 < (sh[i].length : Int)) && decide ((sh[i].length : Int) ≤ 60)) || decide (70 < (sh[i].length : Int)))) (fun hcut => bool_want (b := (decide (8 < (sh[i].length : Int)) && decide ((sh[i].length : Int) ≤ 60))) false (fun hg => ?_) (fun hg => ?_)) ?_)
    · refine st_sk rfl rfl hg ?_
      refine st_sk rfl rfl hg ?_
      refine st_sk rfl rfl hg ?_
      refine st_sk rfl rfl hg ?_
      refine st_sk rfl rfl hg ?_
      refine st_sk rfl rfl hg ?_
      refine sV (v_pick_true (bool_ev rfl hg) rfl) ?_
      exact hcut _ (ssub_head (by first | rfl | (rw [hg]; rfl) | simp_all) (uS rfl (uS rfl (uS rfl (uS rfl (uS rfl (uS rfl (ssub_refl))))))))
    · skip
      refine st_vg rfl (bG rfl hg) (vM rfl) (st_vg rfl (bG rfl hg) (vM rfl) (st_vg rfl (bG rfl hg) (v_ixo i (congrArg some hv') rfl sl22 rfl hlt) (st_vg rfl (bG rfl hg) (vL rfl ld55) ?_)))
      refine st_vg rfl (bG rfl hg) (v_len rfl Tryz.underlying55) (st_vg rfl (bG rfl hg) (v_gtr rfl rfl) (sV (vP (bool_ev rfl hg) rfl) ?_))
      exact hcut _ (ssub_head (by first | rfl | (rw [hg]; rfl) | simp_all) (uS rfl (uS rfl (uS rfl (uS rfl (uS rfl (uS rfl (ssub_refl))))))))
    refine sN (nK [0, 3, 31] rfl (nT (cC rfl (fun he => ?_) (fun he => ?_))))
    · skip
      have hf : sh.all fitRow = false := by
        rw [Bool.eq_false_iff]; intro hall
        have := List.all_eq_true.1 hall _ (List.getElem_mem hlt)
        unfold fitRow at this; rw [he] at this; cases this
      rw [hf, Bool.false_and]
      refine cS (cR (sV (vA rfl) (sN (nK [0, 2, 3] rfl (nT (cT (xt_ret_block (xR (xR (xt_ret_block (xR ?_)))))))))))
      exact xt_rt rfl ⟨rfl, rfl⟩
    · skip
      refine cK (xB (xT (cR (sV (vM rfl) (sV (v_add rfl rfl (by unfold I64 at *; omega)) (sV (vA rfl) (sN (nK [0, 3] rfl (nx_xt ?_)))))))))
      refine xt_ag (i + 1) ⟨hlt, by rw [List.take_succ_eq_append_getElem hlt, List.all_append, hne, Bool.true_and]; simp only [List.all_cons, List.all_nil, Bool.and_true]; unfold fitRow; rw [he]; rfl⟩ (by omega)
  · skip
    have hge : sh.length ≤ i := by simpa using hd
    rw [List.take_of_length_le hge] at hne
    rw [hne, Bool.true_and]
    refine cd_exit (xE (xE (xt_exit_block (xT (cS (cR (sV (vM rfl) (sV (v_len (congrArg some hv) Tryz.underlying22) (sV (v_leq rfl rfl) (sV (vM rfl) (st_cut (k := 13) (d := 44) (v := .bool (decide ((sh.length : Int) ≤ 8) || (decide (60 < (sh.length : Int)) && decide ((sh.length : Int) ≤ 70)))) (fun hcut => bool_want (b := decide ((sh.length : Int) ≤ 8)) false (fun hg => ?_) (fun hg => ?_)) ?_)))))))))))
    · refine st_sk rfl rfl hg ?_
      refine st_sk rfl rfl hg ?_
      refine st_sk rfl rfl hg ?_
      refine st_sk rfl rfl hg ?_
      refine st_sku rfl rfl ?_
      refine st_sku rfl rfl ?_
      refine st_sku rfl rfl ?_
      refine st_sk rfl rfl hg ?_
      refine sV (v_pick_true (bool_ev rfl hg) rfl) ?_
      exact hcut _ (ssub_head (by first | rfl | (rw [hg]; rfl) | simp_all) (uS rfl (uS rfl (uS rfl (uS rfl (uS rfl (uS rfl (uS rfl (uS rfl (ssub_refl))))))))))
    · skip
      refine st_vg rfl (bG rfl hg) (vM rfl) (st_vg rfl (bG rfl hg) (v_len (congrArg some hv) Tryz.underlying22) (st_vg rfl (bG rfl hg) (v_gtr rfl rfl) (st_vg rfl (bG rfl hg) (vM rfl) (st_cut (k := 12) (d := 43) (v := .bool (decide (60 < (sh.length : Int)) && decide ((sh.length : Int) ≤ 70))) (fun hcut => bool_want (b := decide (60 < (sh.length : Int))) true (fun hg1 => ?_) (fun hg1 => ?_)) ?_))))
      · refine st_sk rfl rfl hg1 ?_
        refine st_sk rfl rfl hg1 ?_
        refine st_sk rfl rfl hg1 ?_
        refine st_vg rfl (bG rfl hg) (vP (bool_ev rfl hg1) rfl) ?_
        exact hcut _ (ssub_head (by first | rfl | (rw [hg1]; rfl) | simp_all) (uS rfl (uS rfl (uS rfl (ssub_refl)))))
      · skip
        refine st_vg rfl (bG rfl hg1) (vM rfl) (st_vg rfl (bG rfl hg1) (v_len (congrArg some hv) Tryz.underlying22) (st_vg rfl (bG rfl hg1) (v_leq rfl rfl) (st_vg rfl (bG rfl hg) (v_pick_true (bool_ev rfl hg1) rfl) ?_)))
        exact hcut _ (ssub_head (by first | rfl | (rw [hg1]; rfl) | simp_all) (uS rfl (uS rfl (uS rfl (ssub_refl)))))
      refine sV (vP (bool_ev rfl hg) rfl) ?_
      exact hcut _ (ssub_head (by first | rfl | (rw [hg]; rfl) | simp_all) (by repeat (first | exact ssub_refl | refine uS rfl ?_)))
    refine sV (vA rfl) (sN (nK [2] rfl (nT (cT ?_))))
    exact xt_rt rfl ⟨rfl, rfl⟩
end
end Go.Proofs.YtmhmpjgkkpbnnaaGreat
namespace Go.Ck
open Go Go.RowKit Go.ChangeShapes Go.WideShapes
theorem cells_one {v : Value} (h : v.oneCell' = true) : v.cells.toList = [v] := by
  cases v <;> first | rfl | (simp [Value.oneCell'] at h)
theorem arg_one {H : Type} {enc : TypeId × Value → H} {P : Program} {W : World} {ty : Ty} {t : TypeId} {v : Value} {d : DataW H} {ps : List MemPlace} {b : Nat} (hf : fitB P ty t = true)
    (hs : (match P.underlying t with | some (.struct _) | some (.array _ _) => false | some _ => true | none => false) = true) (hv : Value.okWide P W .any b t v) (h : DataW.Trod enc P W 0 (fun _ => true) true t v d ps) : ∃ y, Rep (old W) ty [v] y := by
  have := arg_rep hf h
  rwa [cells_one (okWide_one hs hv)] at this
end Go.Ck
namespace Go.Proofs.YtmhmpjgkkpbnnaaGreat
open Go Go.RowKit Go.ChangeShapes Go.WideShapes Go.Ck
theorem own' : ownKnob Tryz.prog.godebug = none := by kernel_rfl
theorem wf_I64' {n : Int} (h : (Lit.int .i64 n).wf = true) : I64 n := by
  unfold Lit.wf at h
  simp [IntKind.min, IntKind.max, IntKind.signed, IntKind.bits] at h
  unfold I64; omega
theorem rds_one {r : Res} {b o : Nat} {us : List Value} (hl : us.length = 1) (h : Rds r b o us) : ∃ u, us = [u] ∧ Rd r ⟨b, o, none⟩ u := by
  match us, hl with
  | [u], _ => exact ⟨u, rfl, by have := h 0 (by simp); rwa [Nat.add_zero] at this⟩
theorem rowB_of {r : Res} {u : Value} {y : (Ty.slice .bool).D} (h : Rep r (.slice .bool) [u] y) : RowB r u (show List Bool from y) := by
  simp only [Rep] at h
  obtain ⟨a, cap, h1, _, _, _, h2⟩ := h
  refine ⟨a, cap, (List.cons.inj h1).1, h2.imp id ?_⟩
  rintro ⟨b, o, h3, h4⟩
  refine ⟨b, o, h3, fun j hj => ?_⟩
  obtain ⟨us, h5, h6, h7⟩ := h4 j _ (List.getElem?_eq_getElem hj)
  obtain ⟨u, rfl, h8⟩ := rds_one h5 h6
  rw [show o + j = o + j * Ty.bool.sz by simp [Ty.sz]]
  have : u = .bool ((show List Bool from y)[j]) := by simpa using h7
  rw [← this]; exact h8
theorem shp_of {r : Res} {v : Value} {y : (Ty.slice (.slice .bool)).D} (h : Rep r (.slice (.slice .bool)) [v] y) : Shp r v (show List (List Bool) from y) ∧ (show List (List Bool) from y).length ≤ maxLen := by
  unfold Rep at h
  obtain ⟨a, cap, h1, hl, hm, _, h2⟩ := h
  refine ⟨⟨a, cap, (List.cons.inj h1).1, h2.imp id ?_⟩, Nat.le_trans hl hm⟩
  rintro ⟨b, o, h3, h4⟩
  refine ⟨b, o, h3, fun i hi => ?_⟩
  obtain ⟨us, h5, h6, h7⟩ := h4 i _ (List.getElem?_eq_getElem hi)
  obtain ⟨u, rfl, h8⟩ := rds_one h5 h6
  exact ⟨u, by rw [show o + i = o + i * (Ty.slice .bool).sz by simp [Ty.sz]]; exact h8, rowB_of h7⟩
theorem rep_kind {k : IntKind} {r : Res} {v : Value} {n : Int} (h : Rep r (.int k) [v] n) : v = .int k n ∧ (Lit.int k n).wf = true := by
  simp only [Rep] at h
  exact ⟨by simpa using h.1, h.2⟩
end Go.Proofs.YtmhmpjgkkpbnnaaGreat
namespace Go.Proofs.YtmhmpjgkkpbnnaaGreat
open Go.Ck Fx Go.Hm Go.Hm.AM
attribute [local irreducible] St Cd Xt Nx DrL LsW
def rowsI (us : List Value) (rows : List (List Int)) : SH := (us.zip rows).map fun q => vec q.1 3 1 q.2.length (ints q.2)
theorem rowsI_snoc {us : List Value} {rows : List (List Int)} {u : Value} {l : List Int} (h : us.length = rows.length) : rowsI (us ++ [u]) (rows ++ [l]) = rowsI us rows ++ [vec u 3 1 l.length (ints l)] := by
  unfold rowsI
  rw [List.zip_append h]; simp
def RowsI (r : Res) (v : Value) (rows : List (List Int)) : Prop := ∃ a cp, v = .slice a rows.length cp ∧ (rows = [] ∨ ∃ b o, a = some ⟨b, o, none⟩ ∧ ∀ i (h : i < rows.length), ∃ u, Rd r ⟨b, o + i, none⟩ u ∧ RowI r u rows[i])
theorem RowsI.row {r : Res} {v : Value} {rows : List (List Int)} (h : RowsI r v rows) {i : Nat} (hi : i < rows.length) : ∃ b o cp u, v = .slice (some ⟨b, o, none⟩) rows.length cp ∧ Rd r ⟨b, o + i, none⟩ u ∧ RowI r u rows[i] := by
  obtain ⟨a, cp, hv, hn⟩ := h
  rcases hn with e | ⟨b, o, ha, hr⟩
  · rw [e] at hi; simp at hi
  obtain ⟨u, h1, h2⟩ := hr i hi
  exact ⟨b, o, cp, u, by rw [hv, ha], h1, h2⟩
structure PF (sv fv rv : Value) (us : List Value) (p : Pic) : Prop where
  s : VForm sv p.shapes.length (ints p.shapes)
  r : VForm rv p.roots.length (ints p.roots)
  f : VForm fv p.fields.length us
  l : us.length = p.fields.length
  u : ∀ (j : Nat) (u : Value) (l : List Int), us[j]? = some u → p.fields[j]? = some l → VForm u l.length (ints l)
def pR (sv fv rv : Value) (us : List Value) (p : Pic) : Res := Res.star [vec sv 3 1 p.shapes.length (ints p.shapes), vec rv 3 1 p.roots.length (ints p.roots), vec fv 27 1 p.fields.length us, Res.star (rowsI us p.fields)]
structure PicV (r : Res) (sv fv rv : Value) (p : Pic) : Prop where
  ps : RowI r sv p.shapes
  pr : RowI r rv p.roots
  pf : RowsI r fv p.fields
theorem rowI_star2 {k : SH} {r : Res} {v : Value} {l : List Int} (hm : r ∈ k) (h : RowI r v l) : RowI (Res.star k) v l := by
  obtain ⟨a, cp, h1, h2 | ⟨b, o, h3, h4⟩⟩ := h
  · exact ⟨a, cp, h1, .inl h2⟩
  · exact ⟨a, cp, h1, .inr ⟨b, o, h3, fun j hj => rd_star_mem hm (h4 j hj)⟩⟩
theorem rowI_star {k : SH} {v : Value} {l : List Int} (hm : vec v 3 1 l.length (ints l) ∈ k) (hv : VForm v l.length (ints l)) : RowI (Res.star k) v l := by
  rcases hv with ⟨h1, h2, h3⟩ | ⟨b', cp', h1⟩
  · refine ⟨none, 0, by rw [h1, h2], .inl (List.eq_nil_of_length_eq_zero h2)⟩
  · refine ⟨_, cp', h1, .inr ⟨b', 0, rfl, fun j hj => ?_⟩⟩
    rw [Nat.zero_add]
    exact rd_star_mem hm (rd_vec h1 (by simp [ints, hj]))
theorem PF.v {sv fv rv : Value} {us : List Value} {p : Pic} (h : PF sv fv rv us p) : PicV (pR sv fv rv us p) sv fv rv p := by
  have hl := h.l
  refine ⟨rowI_star (by simp) h.s, rowI_star (by simp) h.r, ?_⟩
  rcases h.f with ⟨h0, h1, h2⟩ | ⟨b, cp, h0⟩
  · exact ⟨none, 0, by rw [h0, h1], .inl (List.eq_nil_of_length_eq_zero h1)⟩
  · refine ⟨_, cp, h0, .inr ⟨b, 0, rfl, fun i hi => ⟨us[i]'(by omega), ?_, ?_⟩⟩⟩
    · rw [Nat.zero_add]
      exact rd_star_mem (r := vec fv 27 1 p.fields.length us) (by simp) (rd_vec h0 (List.getElem?_eq_getElem (by omega)))
    · refine rowI_star2 (r := Res.star (rowsI us p.fields)) (by simp) (rowI_star ?_ (h.u i _ _ (List.getElem?_eq_getElem (by omega)) (List.getElem?_eq_getElem hi)))
      have hm : vec (us[i]'(by omega)) 3 1 p.fields[i].length (ints p.fields[i]) ∈ rowsI us p.fields := by
        refine List.mem_map.2 ⟨(us[i]'(by omega), p.fields[i]), ?_, rfl⟩
        have : (us.zip p.fields)[i]'(by simp; omega) = (us[i]'(by omega), p.fields[i]) := by simp
        rw [← this]; exact List.getElem_mem _
      exact hm
theorem row_step {A : List Int} {k n : Nat} (hA : A.length = n) (hk : k < n) (x : Int) : (A.take k ++ List.replicate (n - k) 0).set k x = A.take k ++ x :: List.replicate (n - (k + 1)) 0 := by
  rw [List.set_append_right _ _ (by rw [List.length_take]; omega), List.length_take, Nat.min_eq_left (by omega), Nat.sub_self, show n - k = (n - (k + 1)) + 1 by omega, List.replicate_succ, List.set_cons_zero]
theorem row_step2 {A : List Int} {k n : Nat} (hA : A.length = n) (hk : k < n) (x y : Int) : (A.take k ++ x :: List.replicate (n - (k + 1)) 0).set k y = A.take k ++ y :: List.replicate (n - (k + 1)) 0 := by
  rw [List.set_append_right _ _ (by rw [List.length_take]; omega), List.length_take, Nat.min_eq_left (by omega), Nat.sub_self, List.set_cons_zero]
theorem row_next {A : List Int} {k n : Nat} (hA : A.length = n) (hk : k < n) {x : Int} (hx : A[k]? = some x) : A.take k ++ x :: List.replicate (n - (k + 1)) 0 = A.take (k + 1) ++ List.replicate (n - (k + 1)) 0 := by
  rw [List.getElem?_eq_getElem (by omega)] at hx
  rw [List.take_succ_eq_append_getElem (by omega), List.append_assoc]
  cases hx; rfl
theorem row_get {A : List Int} {k n : Nat} (hA : A.length = n) (hk : k < n) (x : Int) : (A.take k ++ x :: List.replicate (n - (k + 1)) 0)[k]? = some x := by
  rw [List.getElem?_append_right (by rw [List.length_take]; omega), List.length_take, Nat.min_eq_left (by omega), Nat.sub_self]; rfl
section
variable {m : AM} {S R : Res} {t k a : Int} {ly ln lf N rl rs : List Int} {sp : Int} {v : Value} {roots : List Int} {φ : Int → Option Nat} {A : Store}
structure Ob (m : AM) (t : Int) : Prop where
  t0 : 0 ≤ t
  t1 : t < m.Y + 2 * m.H + 1
  h0 : 0 < m.head t
  h1 : m.head t ≤ m.sh.length
  h2 : t + m.size t ≤ m.Y + 2 * m.H + 1
theorem ob_y (h : Gd m ly ln lf N rl sp rs) {t : Int} (ht : t ∈ ly) : Ob m t := by
  have h1 := h.ybd ht; have h2 := h.yl; have h3 := h.sz.H0
  exact ⟨by omega, by omega, h.yhead ht, h.y.ok t ht, by omega⟩
theorem ob_n (h : Gd m ly ln lf N rl sp rs) {t : Int} (ht : t ∈ ln) : Ob m t := by
  have h1 := h.obd ht; have h2 := h.oldle; have h3 := h.sz.H0; have h4 := h.sz.Y0; have h5 := m.base_former
  exact ⟨by omega, by omega, h.ohead ht, h.o.ok t ht, by omega⟩
theorem ob_f (h : Gd m ly ln lf N rl sp rs) {t : Int} (ht : t ∈ lf) : Ob m t := by
  obtain ⟨fe, h6, h7⟩ := h.f
  have h1 := h.fbd ht; have h3 := h.sz.H0; have h4 := h.sz.Y0; have h5 := m.base_former
  exact ⟨by omega, by omega, h.fhead ht, h7.ok t ht, by omega⟩
theorem ob_cur (h : Gd m ly ln lf N rl sp rs) {t : Int} (hc : m.cur t = true) : Ob m t := by
  rcases h.cur_iff.1 hc with h1 | h1
  · exact ob_y h h1
  · exact ob_n h h1
theorem Ob.i (o : Ob m t) : (m.head t - 1).toNat < m.sh.length := by have := o.h0; have := o.h1; omega
theorem Ob.row (o : Ob m t) : m.row t = m.sh[(m.head t - 1).toNat]'o.i := by
  unfold AM.row; rw [List.getD_eq_getElem?_getD, List.getElem?_eq_getElem o.i]; rfl
theorem Ob.len (o : Ob m t) (z : Sz m) : (m.row t).length ≤ 100 := by rw [o.row]; exact z.w _ (List.getElem_mem _)
theorem ob_obj (h : Gd m ly ln lf N rl sp rs) {t : Int} (ht : AM.Obj ly ln lf t) : Ob m t := by
  rcases ht with ht | ht | ht
  · exact ob_y h ht
  · exact ob_n h ht
  · exact ob_f h ht
theorem pic_parts (m : AM) (roots : List Int) : (m.pic roots).shapes = (m.gr.met m.T roots).map (fun t => m.head t - 1) ∧ (m.pic roots).fields = (m.gr.met m.T roots).map (m.gr.prow (m.gr.met m.T roots)) ∧ (m.pic roots).roots = roots.map fun r => 1 + idx (m.gr.met m.T roots) r := ⟨rfl, rfl, rfl⟩
theorem take_map_succ {α β : Type} {f : α → β} {l : List α} {i : Nat} (h : i < l.length) : (l.map f).take (i + 1) = (l.map f).take i ++ [f l[i]] := by
  rw [List.take_succ_eq_append_getElem (by simpa using h)]; simp
theorem gr_flag {k : Nat} (hk : k < (m.row t).length) : ((m.gr.fs t)[k]'(by rw [gr_len]; exact hk)) = ((m.row t)[k], if (m.row t)[k] then m.seen (m.word (t + 1 + k)) else m.word (t + 1 + k)) := by
  rw [gr_get, List.getD_eq_getElem?_getD, List.getElem?_eq_getElem hk]; rfl
theorem prow_len (m : AM) (M : List Int) (t : Int) : (m.gr.prow M t).length = (m.row t).length := by unfold Gr.prow; rw [List.length_map, gr_len]
theorem prow_get {M : List Int} {k : Nat} (hk : k < (m.row t).length) : (m.gr.prow M t)[k]? = some (if (m.row t)[k] then 1 + idx M (m.seen (m.word (t + 1 + k))) else m.word (t + 1 + k)) := by
  unfold Gr.prow
  rw [List.getElem?_map, List.getElem?_eq_getElem (by rw [gr_len]; exact hk), gr_flag hk]
  simp only [Option.map_some]
  split <;> rfl
theorem snoc_all {α β : Type} {P : α → β → Prop} {us : List α} {fs : List β} {x0 : α} {y0 : β} {i : Nat} (hul : us.length = i) (hf : ∀ (j : Nat) (u : α) (x : β), us[j]? = some u → fs[j]? = some x → P u x) (hi : fs[i]? = some y0) (h0 : P x0 y0) : ∀ (j : Nat) (u : α) (x : β), (us ++ [x0])[j]? = some u → fs[j]? = some x → P u x := fun j u x hu hx => by
  rcases Nat.lt_or_ge j us.length with hj | hj
  · exact hf j u x (by rw [List.getElem?_append_left hj] at hu; exact hu) hx
  · have hji : j = us.length := by
      have := (List.getElem?_eq_some_iff.1 hu).1
      simp at this; omega
    subst hji
    rw [List.getElem?_append_right (Nat.le_refl _)] at hu
    rw [hul, hi] at hx
    simp at hu hx
    rw [← hu, ← hx]; exact h0
theorem VForm.one {v : Value} {n : Nat} {l : List Value} (h : VForm v n l) : v.oneCell' = true := by
  rcases h with ⟨h, _⟩ | ⟨b, cp, h⟩ <;> rw [h] <;> rfl
end
end Go.Proofs.YtmhmpjgkkpbnnaaGreat
namespace Go.Proofs.YtmhmpjgkkpbnnaaGreat
open Go.Ck Fx Go.Hm Go.Hm.AM
attribute [local irreducible] St Cd Xt Nx DrL LsW
section
variable {R : Res} {v : Value} {t : Int} {sh : List (List Bool)}
set_option maxRecDepth 100000 in
theorem in_ct {a lo hi : Int} : Reads Tryz.prog 95 #[.int .i64 a, .int .i64 lo, .int .i64 hi] [] (.bool (decide (lo ≤ a) && decide (a ≤ hi))) := by
  refine ct_of (n := 15) Tryz.func95 rfl rfl (len rfl) fun hr w0 => ?_
  simp only [List.nil_append]
  refine cS (cR (sV (vA rfl) (sN (nT (cS (cR (sV (vM rfl) (sV (vM rfl) (sV (v_geq rfl rfl) (sV (vM rfl) ?_))))))))))
  cases hc : decide (lo ≤ a)
  · skip
    refine st_sk rfl rfl rfl ?_
    refine st_sk rfl rfl rfl ?_
    refine st_sk rfl rfl rfl ?_
    refine sV (vP rfl rfl) (sV (vA rfl) (sN (nK [6] rfl (nT (cT ?_)))))
    exact xt_rt rfl ⟨rfl, rfl⟩
  · skip
    refine st_vg rfl rfl (vM rfl) (st_vg rfl rfl (vM rfl) (st_vg rfl rfl (v_leq rfl rfl) (sV (v_pick_true rfl rfl) (sV (vA rfl) (sN (nK [6] rfl (nT (cT ?_))))))))
    exact xt_rt rfl ⟨rfl, rfl⟩
set_option maxRecDepth 100000 in
theorem rindex_ct {l : List Int} (hv : RowI R v l) (hl : l.length ≤ 1000000) : Reads Tryz.prog 40 #[v, .int .i64 t] [R] (.int .i64 (idx l t)) := by
  obtain ⟨ra, rcp, hv1, _⟩ := id hv
  refine ct_of (n := 19) Tryz.func40 rfl rfl (len rfl) fun hr w0 => ?_
  refine cS (cR (sV (vA rfl) (sN (nT (cS (cS (cR (sV (vA rfl) (sN (nT (cd_block (cd_loop (σ := Nat) (fun i => [(0, v), (1, .int .i64 t), (5, .int .i64 (i : Nat))]) (fun _ => R :: hr) (fun i => i ≤ l.length ∧ t ∉ l.take i) (fun i => l.length - i) 0 ⟨Nat.zero_le _, by simp⟩ ⟨rfl, rfl, rfl, trivial⟩ (Sub.refl _) ?_))))))))))))
  rintro i ⟨hi, hne⟩
  refine cS (cS (cR (sV (vM rfl) (sV (vM rfl) (sV (v_len (congrArg some hv1) Tryz.underlying27) (sV (v_lss rfl rfl) (sN (nK [0, 1, 5, 9] rfl (nT (cC rfl (fun hd => ?_) (fun hd => ?_)))))))))))
  · skip
    have hlt : i < l.length := by simpa using hd
    obtain ⟨b, q, cp', hv2, hrd⟩ := hv.at hlt
    refine cK (xT (cS (cd_block (cS (cR (sV (vM rfl) (sV (vM rfl) (sV (v_ixo i (congrArg some hv2) rfl sl27 rfl hlt) (sV (vL rfl ld3) ?_)))))))))
    refine sV (vM rfl) (sV (v_eql rfl rfl) (sN (nK [0, 1, 5, 17] rfl (nT (cC rfl (fun he => ?_) (fun he => ?_))))))
    · skip
      have hx : l[i] = t := by simpa using he
      rw [idx_at hlt hx hne]
      refine cS (cR (sV (vM rfl) (sV (vA rfl) (sN (nK [0, 1, 4, 5] rfl (nT (cT (xt_ret_block (xR (xR (xt_ret_block (xR ?_))))))))))))
      exact xt_rt rfl ⟨rfl, rfl⟩
    · skip
      refine cK (xB (xT (cR (sV (vM rfl) (sV (v_add rfl rfl (by unfold I64 at *; omega)) (sV (vA rfl) (sN (nK [0, 1, 5] rfl (nx_xt ?_)))))))))
      refine xt_ag (i + 1) ⟨hlt, by rw [List.take_succ_eq_append_getElem hlt, List.mem_append]; rintro (g | g); exact hne g; simp at he g; exact he g.symm⟩ (by omega)
  · skip
    have hge : i = l.length := by have : ¬ i < l.length := by simpa using hd
                                  omega
    rw [hge, List.take_length] at hne
    rw [idx_no hne]
    refine cd_exit (xE (xE (xt_exit_block (xT (cS (cR (sV (vA rfl) (sN (nK [4] rfl (nT (cT ?_)))))))))))
    exact xt_rt rfl ⟨rfl, rfl⟩
set_option maxRecDepth 100000 in
theorem rmeet_ct {l : List Int} {lv : Value} {t : Int} (hl : l.length ≤ 1000000) : Ct Tryz.prog 37 #[lv, .int .i64 t] [vec lv 3 1 l.length (ints l)] fun u h' => h' = [vec u 3 1 (pmeet l t).length (ints (pmeet l t))] := by
  have hb : (t == 0 || decide (0 ≤ idx l t)) = (t == 0 || l.contains t) := by
    congr 1
    by_cases hm : t ∈ l
    · obtain ⟨i, h1, h2, h3⟩ := idx_get hm
      simp [hm, h1]
    · simp [hm, idx_no hm]
  unfold pmeet
  refine ct_of (n := 18) Tryz.func37 rfl rfl (len rfl) fun hr w0 => ?_
  refine cd_vecshape (v := lv) (E := 3) (sz := 1) (n := l.length) (l := ints l) (by repeat (first | exact Sel.here | apply Sel.there)) fun la lcp hlv hla => ?_
  refine cS (cR (sV (vA rfl) (sN (nT (cS (cS (cR (sV (vM rfl) (sV (v_eql rfl rfl) (sV (vM rfl) (st_cut (k := 8) (d := 12) (v := .bool (t == 0 || decide (0 ≤ idx l t))) (fun hcut => bool_want (b := t == 0) false (fun hg => ?_) (fun hg => ?_)) ?_)))))))))))
  · refine st_sk rfl rfl hg ?_
    refine st_sk rfl rfl hg ?_
    refine st_sk rfl rfl hg ?_
    refine st_sk rfl rfl hg ?_
    refine sV (v_pick_true (bool_ev rfl hg) rfl) ?_
    exact hcut _ (ssub_head (by first | rfl | (rw [hg]; rfl) | simp_all) (uS rfl (uS rfl (uS rfl (uS rfl (ssub_refl))))))
  · skip
    refine st_vg rfl (bG rfl hg) (vM rfl) (st_vg rfl (bG rfl hg) (vM rfl) (st_clrg rfl (bG rfl hg) rfl rfl en40 rfl (rindex_ct (rowI_vec hlv hla rfl) hl) ?_))
    refine st_vg rfl (bG rfl hg) (v_geq rfl rfl) (sV (vP (bool_ev rfl hg) rfl) ?_)
    exact hcut _ (ssub_head (by first | rfl | (rw [hg]; rfl) | simp_all) (uS rfl (uS rfl (uS rfl (uS rfl (ssub_refl))))))
  refine sN (nK [0, 1, 4, 12] rfl (nT ?_))
  rw [hb]
  refine cC rfl (fun hc => ?_) (fun hc => ?_)
  · skip
    rw [if_pos hc]
    refine cS (cR (sV (vM rfl) (sV (vA rfl) (sN (nK [0, 1, 4] rfl (nT (cT (xR ?_))))))))
    exact xt_rt rfl rfl
  · skip
    rw [if_neg (by rw [hc]; simp)]
    refine cK (xT (cS (cR (sV (vM rfl) (sV (vM rfl) (st_buildSlice (cells := [.int .i64 t]) rfl Tryz.underlying27 inf3 rfl rfl (by kernel_rfl) (ltn rfl) fun b30 => ?_))))))
    refine st_append (news := [.int .i64 t]) rfl rfl Tryz.underlying27 inf3 rfl (ltn rfl) (by repeat (first | exact Sel.here | apply Sel.there)) rfl (fun j u hu => by repeat (first | exact at_here (rd_cl (by simpa using hu)) | apply at_there)) (ones rfl) (by omega) (by omega) (ltn rfl) fun lv' hlv' hv1 => ?_
    refine sV (vA rfl) (sN (nK [4] rfl (nT (cT ?_))))
    rw [show ints l ++ [.int .i64 t] = ints (l ++ [t]) by simp [ints], show l.length + 1 = (l ++ [t]).length by simp]
    exact xt_rt rfl rfl
set_option maxRecDepth 100000 in
theorem rchecked_ct (h : Shp R v sh) (hl : sh.length ≤ 1000000) : Reads Tryz.prog 62 #[v] [R] (.int .i64 (sized sh)) := by
  obtain ⟨a, cp, hv, _⟩ := id h
  unfold sized
  refine ct_of (n := 19) Tryz.func62 rfl rfl (len rfl) fun hr w0 => ?_
  refine cS (cR (sV (vA rfl) (sN (nT (cS (cS (cR (sV (vM rfl) (sV (v_len (congrArg some hv) Tryz.underlying22) (sV (v_gtr rfl rfl) (sN (nK [0, 2, 6] rfl (nT (cC rfl (fun hc => ?_) (fun hc => ?_)))))))))))))))
  · skip
    rw [hc, Bool.true_or, if_pos rfl]
    refine cS (cR (sV (vA rfl) (sN (nK [0, 2] rfl (nT (cT (xR ?_)))))))
    exact xt_rt rfl ⟨rfl, rfl⟩
  · skip
    rw [hc, Bool.false_or]
    refine cK (xT (cS (cS (cR (sV (vA rfl) (sN (nK [0, 2, 3] rfl (nT (cd_block (cd_loop (σ := Nat) (fun i => [(0, v), (3, .int .i64 (i : Nat))]) (fun _ => R :: hr) (fun i => i ≤ sh.length ∧ (sh.take i).any long = false) (fun i => sh.length - i) 0 ⟨Nat.zero_le _, rfl⟩ ⟨rfl, rfl, trivial⟩ (Sub.refl _) ?_))))))))))
    rintro i ⟨hi, hne⟩
    refine cS (cS (cR (sV (vM rfl) (sV (vM rfl) (sV (v_len (congrArg some hv) Tryz.underlying22) (sV (v_lss rfl rfl) (sN (nK [0, 3, 10] rfl (nT (cC rfl (fun hd => ?_) (fun hd => ?_)))))))))))
    · skip
      have hlt : i < sh.length := by simpa using hd
      obtain ⟨b, o, cp', u, hv', hrd, hu⟩ := h.row hlt
      obtain ⟨ua, ucp, hue, _⟩ := id hu
      subst hue
      refine cK (xT (cS (cd_block (cS (cR (sV (vM rfl) (sV (vM rfl) (sV (v_ixo i (congrArg some hv') rfl sl22 rfl hlt) (sV (vL rfl ld55) ?_)))))))))
      refine sV (v_len rfl Tryz.underlying55) (sV (v_gtr rfl rfl) (sN (nK [0, 3, 18] rfl (nT (cC rfl (fun he => ?_) (fun he => ?_))))))
      · skip
        have hany : sh.any long = true := List.any_eq_true.2 ⟨sh[i], List.getElem_mem hlt, he⟩
        rw [if_pos hany]
        refine cS (cR (sV (vA rfl) (sN (nK [0, 2, 3] rfl (nT (cT (xt_ret_block (xR (xR (xt_ret_block (xR ?_)))))))))))
        exact xt_rt rfl ⟨rfl, rfl⟩
      · skip
        refine cK (xB (xT (cR (sV (vM rfl) (sV (v_add rfl rfl (by unfold I64 at *; omega)) (sV (vA rfl) (sN (nK [0, 3] rfl (nx_xt ?_)))))))))
        refine xt_ag (i + 1) ⟨hlt, by rw [List.take_succ_eq_append_getElem hlt, List.any_append, hne, Bool.false_or]; simp only [List.any_cons, List.any_nil, Bool.or_false]; exact he⟩ (by omega)
    · skip
      have hge : sh.length ≤ i := by simpa using hd
      rw [List.take_of_length_le hge] at hne
      rw [hne, if_neg (by simp)]
      refine cd_exit (xE (xE (xt_exit_block (xT (cS (cR (sV (vA rfl) (sN (nK [2] rfl (nT (cT ?_)))))))))))
      exact xt_rt rfl ⟨rfl, rfl⟩
end
end Go.Proofs.YtmhmpjgkkpbnnaaGreat
namespace Go.Proofs.YtmhmpjgkkpbnnaaGreat
open Go.Ck Fx Go.Hm Go.Hm.AM
attribute [local irreducible] St Cd Xt Nx DrL LsW
section
variable {L : MemL} {μ : Mem} {S R : Res} {m : AM} {ly ln lf : List Int} {φ : Int → Option Nat} {A : Store} {v : Value} {roots : List Int} {t : Int}
theorem seen_of (I : MI L μ S m) (h : AM.Good m ly ln lf φ A) (t : Int) : (ml μ.mv t = none → m.seen t = t) ∧ ∀ to, ml μ.mv t = some to → m.seen t = if μ.bu && μ.o.begins t then to else t := by
  have hb := I.r.bo t
  unfold AM.seen
  cases hF : m.isF t with
  | false =>
    rw [hF, Bool.false_and] at hb
    exact ⟨fun _ => rfl, fun to _ => by rw [hb, Bool.and_false]; rfl⟩
  | true =>
    rw [hF, Bool.true_and] at hb
    have hmv := I.r.mv t hF
    by_cases hm : m.moved t = 0
    · rw [if_pos hm] at hmv
      exact ⟨fun _ => by rw [hm]; rfl, fun to hto => by rw [hmv] at hto; cases hto⟩
    · rw [if_neg hm] at hmv
      have hp := h.g.mpos t hm
      have hf := h.ym t hm
      have hh := h.g.fhead hf
      have hbz : m.busy = true := by
        cases hz : m.busy with
        | true => rfl
        | false => rw [h.g.nb hz] at hf; cases hf
      refine ⟨fun hn => (by rw [hmv] at hn; cases hn), fun to hto => ?_⟩
      rw [hmv] at hto
      cases hto
      rw [hb, I.r.bu, hbz]
      simp [hp, hh]
set_option maxRecDepth 100000 in
theorem hseen_ct (I : MI L μ S m) (h : AM.Good m ly ln lf φ A) : Reads Tryz.prog 33 #[.pointer (some ⟨L.mb, 0, none⟩), .int .i64 t] [mb L μ, mpr L.mvb (mvv μ.mv), sb L.o μ.o, tb L.o μ.o] (.int .i64 (m.seen t)) := by
  have oo := I.r.oko h.g
  obtain ⟨q1, q2⟩ := seen_of I h t
  cases hq : ml μ.mv t with
  | none =>
    rw [q1 hq]
    refine ct_of (n := 33) Tryz.func33 rfl rfl (len rfl) fun hr w0 => ?_
    refine cS (cR (sV (vA rfl) (sN (nT (cS (cS (cR (sV (vM rfl) (sV (vN rfl) (sV (vF rfl fa90_7 rfl) (sV (vL rfl ld77) ?_)))))))))))
    refine sV (vM rfl) (sV (v_lookup_ok rfl rfl mp77 inf3 (by repeat (first | exact Sel.here | apply Sel.there))) ?_)
    rw [mlook_mvv, hq]
    refine sV (vM rfl) (sV (v_extract rfl rfl) (sV (v_extract rfl rfl) (sV (vA rfl) (sV (vA rfl) (sN (nK [0, 1, 4, 5, 6] rfl (nT (cS (cR (sV (vM rfl) (sV (vM rfl) (st_sk rfl rfl rfl ?_))))))))))))
    refine st_sk rfl rfl rfl ?_
    refine st_sk rfl rfl rfl ?_
    refine st_sk rfl rfl rfl ?_
    refine sV (vP rfl rfl) (sV (vM rfl) (st_sk rfl rfl rfl ?_))
    refine st_sk rfl rfl rfl ?_
    refine st_sk rfl rfl rfl ?_
    refine st_sk rfl rfl rfl ?_
    refine st_sk rfl rfl rfl ?_
    refine st_sk rfl rfl rfl ?_
    refine sV (vP rfl rfl) (sN (nK [1, 4, 5, 30] rfl (nT (cd_false rfl ?_))))
    refine cK (xT (cS (cR (sV (vM rfl) (sV (vA rfl) (sN (nK [4] rfl (nT (cT ?_)))))))))
    exact xt_rt rfl ⟨rfl, rfl⟩
  | some to =>
    rw [q2 to hq]
    refine ct_of (n := 33) Tryz.func33 rfl rfl (len rfl) fun hr w0 => ?_
    refine cS (cR (sV (vA rfl) (sN (nT (cS (cS (cR (sV (vM rfl) (sV (vN rfl) (sV (vF rfl fa90_7 rfl) (sV (vL rfl ld77) ?_)))))))))))
    refine sV (vM rfl) (sV (v_lookup_ok rfl rfl mp77 inf3 (by repeat (first | exact Sel.here | apply Sel.there))) ?_)
    rw [mlook_mvv, hq]
    refine sV (vM rfl) (sV (v_extract rfl rfl) (sV (v_extract rfl rfl) (sV (vA rfl) (sV (vA rfl) (sN (nK [0, 1, 4, 5, 6] rfl (nT (cS (cR (sV (vM rfl) (sV (vM rfl) (st_vg rfl rfl (vM rfl) (st_vg rfl rfl (vN rfl) (st_vg rfl rfl (vF rfl fa90_5 rfl) (st_vg rfl rfl (vL rfl ld4) ?_)))))))))))))))
    refine sV (v_pick_true rfl rfl) (sV (vM rfl) (st_cut (k := 15) (d := 30) (v := .bool (μ.bu && μ.o.begins t)) (fun hcut => bool_want (b := μ.bu) true (fun hg => ?_) (fun hg => ?_)) ?_))
    · refine st_sk rfl rfl hg ?_
      refine st_sk rfl rfl hg ?_
      refine st_sk rfl rfl hg ?_
      refine st_sk rfl rfl hg ?_
      refine st_sk rfl rfl hg ?_
      refine st_sk rfl rfl hg ?_
      refine sV (vP (bool_ev rfl hg) rfl) ?_
      exact hcut _ (ssub_head (by first | rfl | (rw [hg]; rfl) | simp_all) (uS rfl (uS rfl (uS rfl (uS rfl (uS rfl (uS rfl (ssub_refl))))))))
    · skip
      refine st_vg rfl (bG rfl hg) (vM rfl) (st_vg rfl (bG rfl hg) (vN rfl) (st_vg rfl (bG rfl hg) (vF rfl fa90_3 rfl) (st_vg rfl (bG rfl hg) (vL rfl ld80) ?_)))
      refine st_vg rfl (bG rfl hg) (vM rfl) (st_clrg rfl (bG rfl hg) rfl rfl en50 rfl (begins_ct (l := L.o) (s := μ.o) oo) ?_)
      refine sV (v_pick_true (bool_ev rfl hg) rfl) ?_
      exact hcut _ (ssub_head (by first | rfl | (rw [hg]; rfl) | simp_all) (uS rfl (uS rfl (uS rfl (uS rfl (uS rfl (uS rfl (ssub_refl))))))))
    refine sN (nK [1, 4, 5, 30] rfl (nT (cC rfl (fun hc => ?_) (fun hc => ?_))))
    · skip
      rw [if_pos hc]
      refine cS (cR (sV (vM rfl) (sV (vA rfl) (sN (nK [1, 4] rfl (nT (cT (xR ?_))))))))
      exact xt_rt rfl ⟨rfl, rfl⟩
    · skip
      rw [if_neg (by rw [hc]; simp)]
      refine cK (xT (cS (cR (sV (vM rfl) (sV (vA rfl) (sN (nK [4] rfl (nT (cT ?_)))))))))
      exact xt_rt rfl ⟨rfl, rfl⟩
def inP (L : MemL) (μ : Mem) (t : Int) : Option Addr := if μ.y.begins t then some ⟨L.y.sb, 0, none⟩ else if μ.n.begins t then some ⟨L.n.sb, 0, none⟩ else if μ.o.begins t then some ⟨L.o.sb, 0, none⟩ else none
set_option maxRecDepth 100000 in
theorem in1_ct {l : SpL} {s : Sp} {t : Int} {bx : Nat} (ok : s.Ok) : Reads Tryz.prog 72 #[.pointer (some ⟨l.sb, 0, none⟩), .pointer (some ⟨bx, 0, none⟩)] [pt bx (cl [.int .i64 t] 3), sb l s, tb l s] (.bool (s.begins t)) := by
  refine ct_of (n := 7) Tryz.func72 rfl rfl (len rfl) fun hr w0 => ?_
  refine cS (cR (sV (vA rfl) (sN (nT (cS (cR (sV (vM rfl) (sV (vL rfl ld3) ?_))))))))
  refine st_clr rfl rfl en50 rfl (begins_ct (l := l) (s := s) ok) ?_
  refine sV (vA rfl) (sN (nK [3] rfl (nT (cT ?_))))
  exact xt_rt rfl ⟨rfl, rfl⟩
def inSH (L : MemL) (μ : Mem) : SH := [mb L μ, sb L.y μ.y, tb L.y μ.y, sb L.n μ.n, tb L.n μ.n, sb L.o μ.o, tb L.o μ.o]
theorem in1_all (I : MI L μ S m) (h : AM.Good m ly ln lf φ A) {t : Int} {b : Nat} : ∀ p ∈ [L.y.sb, L.n.sb, L.o.sb], Reads Tryz.prog 72 (#[.pointer (some ⟨p, 0, none⟩)] ++ #[.pointer (some ⟨b, 0, none⟩)])
    [pt b (cl [.int .i64 t] 3), sb L.y μ.y, tb L.y μ.y, sb L.n μ.n, tb L.n μ.n, sb L.o μ.o, tb L.o μ.o] (.bool (if p = L.y.sb then μ.y.begins t else if p = L.n.sb then μ.n.begins t else μ.o.begins t)) := by
  have oy := I.r.oky h.g; have on := I.r.okn h.g; have oo := I.r.oko h.g
  have h1 := I.yn; have h2 := I.yo; have h3 := I.no
  intro p hp
  simp only [List.mem_cons, List.not_mem_nil, or_false] at hp
  rcases hp with rfl | rfl | rfl
  · rw [if_pos rfl]; exact Reads.more (x := [sb L.n μ.n, tb L.n μ.n, sb L.o μ.o, tb L.o μ.o]) (in1_ct (l := L.y) oy) (by repeat (first | exact Pk.nil | (apply Pk.cons; (repeat (first | exact Sel.here | apply Sel.there)))))
  · rw [if_neg (Ne.symm h1), if_pos rfl]; exact Reads.more (x := [sb L.y μ.y, tb L.y μ.y, sb L.o μ.o, tb L.o μ.o]) (in1_ct (l := L.n) on) (by repeat (first | exact Pk.nil | (apply Pk.cons; (repeat (first | exact Sel.here | apply Sel.there)))))
  · rw [if_neg (Ne.symm h2), if_neg (Ne.symm h3)]; exact Reads.more (x := [sb L.y μ.y, tb L.y μ.y, sb L.n μ.n, tb L.n μ.n]) (in1_ct (l := L.o) oo) (by repeat (first | exact Pk.nil | (apply Pk.cons; (repeat (first | exact Sel.here | apply Sel.there)))))
set_option maxRecDepth 100000 in
theorem hin_ct (I : MI L μ S m) (h : AM.Good m ly ln lf φ A) {t : Int} : Reads Tryz.prog 34 #[.pointer (some ⟨L.mb, 0, none⟩), .int .i64 t] (inSH L μ) (.pointer (inP L μ t)) := by
  have h1 := I.yn; have h2 := I.yo; have h3 := I.no
  unfold inSH
  refine ct_of (n := 26) Tryz.func34 rfl rfl (len rfl) fun hr w0 => ?_
  refine cS (cR (st_bx rfl rfl fun b3 => ?_))
  refine sV (vA rfl) (sN (nK [0, 3, 4] rfl (nT (cS (cd_drawh (ork [(0, 2), (1, 2), (2, 2), (3, 2), (4, 1), (5, 2), (6, 2), (7, 2), (8, 1), (9, 2), (10, 2), (11, 2), (12, 1), (13, 0), (14, 0), (15, 2), (16, 2), (17, 2), (18, 2), (19, 2)] .nil) (fun i => !(Nat.beq i 13 || Nat.beq i 14)) mixed (by kernel_rfl) ?_)))))
  refine dV rfl (v_makeFunc rfl rfl) (dV rfl (vM rfl) (dV rfl (vN rfl) (dV rfl (vF rfl fa90_1 rfl) (dr_v rfl (vL rfl ld80) ?_))))
  refine dV rfl (vM rfl) (dV rfl (vN rfl) (dV rfl (vF rfl fa90_2 rfl) (dr_v rfl (vL rfl ld80) ?_)))
  refine dV rfl (vM rfl) (dV rfl (vN rfl) (dV rfl (vF rfl fa90_3 rfl) (dr_v rfl (vL rfl ld80) ?_)))
  refine dr_eff rfl (st_buildSlice (cells := [.pointer (some ⟨L.y.sb, 0, none⟩), .pointer (some ⟨L.n.sb, 0, none⟩), .pointer (some ⟨L.o.sb, 0, none⟩)]) rfl Tryz.underlying148 inf80 rfl rfl (by kernel_rfl) (ltn rfl) fun b21 => dr_nx ?_)
  refine dr_eff rfl (st_cl rfl rfl en71 rfl (find_ct (bs := b21) (k := 72) (cp := #[.pointer (some ⟨b3, 0, none⟩)]) (ps := [L.y.sb, L.n.sb, L.o.sb]) (hf := [pt b3 (cl [.int .i64 t] 3), sb L.y μ.y, tb L.y μ.y, sb L.n μ.n, tb L.n μ.n, sb L.o μ.o, tb L.o μ.o]) (is := fun p => if p = L.y.sb then μ.y.begins t else if p = L.n.sb then μ.n.begins t else μ.o.begins t) (by simp) en72 (in1_all I h)) ?_)
  rintro v h' ⟨rfl, rfl⟩
  have hc : ((List.find? (fun p => if p = L.y.sb then μ.y.begins t else if p = L.n.sb then μ.n.begins t else μ.o.begins t) [L.y.sb, L.n.sb, L.o.sb]).map (fun b => (⟨b, 0, none⟩ : Addr))) = inP L μ t := by
    unfold inP
    cases e1 : μ.y.begins t <;> cases e2 : μ.n.begins t <;> cases e3 : μ.o.begins t <;> simp [e1, e2, e3, List.find?_cons, Ne.symm h1, Ne.symm h2, Ne.symm h3]
  rw [hc]
  refine dr_nx ?_
  refine dV rfl (vM rfl) (dV rfl (v_extract rfl rfl) (dV rfl (v_extract rfl rfl) (dV rfl (vA rfl) (dV rfl (vA rfl) (dr_nil (nK [4, 5] rfl (nT (cS (cR (sV (vM rfl) (sV (vA rfl) (sN (nK [4] rfl (nT (cT ?_)))))))))))))))
  exact xt_rt rfl ⟨rfl, rfl⟩
def nmF : Nat → List Int → List (Int × Value)
  | _, [] => []
  | j, x :: r => (x, .int .i64 ((j : Int) + 1)) :: nmF (j + 1) r
def nmv (l : List Int) : List (Int × Value) := nmF 0 l
theorem mlook_nmF (t : Int) : ∀ (l : List Int) (j : Nat), mlook (nmF j l) t = if t ∈ l then some (.int .i64 ((j : Int) + 1 + idx l t)) else none
  | [], j => rfl
  | x :: r, j => by
    have ih := mlook_nmF t r (j + 1)
    unfold mlook at ih ⊢
    unfold nmF
    simp only [List.find?_cons]
    by_cases hx : x = t
    · subst hx
      simp [idx_has (List.mem_cons_self ..)]
    · rw [show (x == t) = false by simp [hx]]
      dsimp only
      rw [ih]
      by_cases hm : t ∈ r
      · rw [if_pos hm, if_pos (List.mem_cons_of_mem _ hm), idx_has hm, idx_has (List.mem_cons_of_mem _ hm), List.idxOf_cons, show (x == t) = false by simp [hx]]
        simp only [cond_false, Option.some.injEq, Value.int.injEq, true_and]
        omega
      · rw [if_neg hm, if_neg (by simp [hm, Ne.symm hx])]
theorem mlook_nmv (t : Int) (l : List Int) : mlook (nmv l) t = if t ∈ l then some (.int .i64 (1 + idx l t)) else none := by
  unfold nmv; rw [mlook_nmF]; simp
theorem mupd_nmF {t : Int} : ∀ {l : List Int} {j : Nat}, t ∉ l → mupd (nmF j l) t (.int .i64 ((j : Int) + l.length + 1)) = nmF j (l ++ [t])
  | [], j, _ => by simp [nmF, mupd]
  | x :: r, j, h => by
    have h1 : x ≠ t := fun e => h (by simp [e])
    have h2 : t ∉ r := fun e => h (by simp [e])
    have ih := mupd_nmF (j := j + 1) h2
    unfold nmF mupd
    rw [if_neg h1, List.cons_append]
    dsimp only
    rw [← ih]
    congr 3
    simp; omega
theorem mupd_nmv {t : Int} {l : List Int} (h : t ∉ l) : mupd (nmv l) t (.int .i64 ((l.length : Int) + 1)) = nmv (l ++ [t]) := by
  have := mupd_nmF (j := 0) h
  unfold nmv; rw [← this]; simp
def pcSH (L : MemL) (μ : Mem) (b1 b2 b3 mp : Nat) (lv : Value) (l : List Int) : SH :=
  [pt b1 (cl [.pointer (some ⟨L.mb, 0, none⟩)] 26), pt b2 (cl [.map (some mp)] 77), pt b3 (cl [lv] 27), mpr mp (nmv l), vec lv 3 1 l.length (ints l), mb L μ, mpr L.mvb (mvv μ.mv), sb L.o μ.o, tb L.o μ.o]
theorem seen_ne (h : AM.Good m ly ln lf φ A) {t : Int} (ht : AM.Obj ly ln lf t) : m.seen t ≠ 0 := by
  have h1 := (h.g.obj_bd ht).1
  unfold AM.seen
  split
  · rename_i hc; simp only [Bool.and_eq_true, decide_eq_true_eq] at hc; omega
  · omega
theorem seen_zero (h : AM.Good m ly ln lf φ A) : m.seen 0 = 0 := by
  have hb := m.base_former; have := h.g.sz.Y0; have := h.g.sz.H0
  unfold AM.seen
  rw [if_neg]
  simp only [Bool.and_eq_true, isF_iff]
  omega
set_option maxRecDepth 100000 in
theorem hpmeet_ct (I : MI L μ S m) (h : AM.Good m ly ln lf φ A) {b1 b2 b3 mp : Nat} {lv : Value} {l : List Int} {t : Int} (hl : PM (AM.Obj ly ln lf) l) (ht : t = 0 ∨ AM.Obj ly ln lf t) :
    Ct Tryz.prog 32 #[.int .i64 t, .pointer (some ⟨b1, 0, none⟩), .pointer (some ⟨b2, 0, none⟩), .pointer (some ⟨b3, 0, none⟩)] (pcSH L μ b1 b2 b3 mp lv l)
      fun v h' => v = .int .i64 (1 + idx (pmeet l (m.seen t)) (m.seen t)) ∧ ∃ lv', h' = pcSH L μ b1 b2 b3 mp lv' (pmeet l (m.seen t)) := by
  have hll := h.g.pm_len hl; have hT := h.g.T_le
  unfold pcSH
  refine ct_of (n := 32) Tryz.func32 rfl rfl (len rfl) fun hr w0 => ?_
  refine cS (cR (sV (vA rfl) (sN (nT (cS (cS (cR (sV (vM rfl) (sV (v_eql rfl rfl) (sN (nK [0, 1, 2, 3, 5, 9] rfl (nT (cC rfl (fun hc => ?_) (fun hc => ?_))))))))))))))
  · skip
    have h0 : t = 0 := by simpa using hc
    have hn0 : (0 : Int) ∉ l := fun hm => by have := (h.g.obj_bd (hl.s 0 hm)).1; omega
    have hres : (1 : Int) + idx (pmeet l (m.seen t)) (m.seen t) = 0 := by rw [h0, seen_zero h, pmeet_zero, idx_no hn0]; rfl
    have hpm : pmeet l (m.seen t) = l := by rw [h0, seen_zero h, pmeet_zero]
    rw [hres, hpm]
    refine cS (cR (sV (vA rfl) (sN (nK [0, 1, 2, 3, 5] rfl (nT (cT (xR ?_)))))))
    exact xt_rt rfl ⟨rfl, lv, rfl⟩
  · skip
    have h0 : t ≠ 0 := by simpa using hc
    have hne := seen_ne h (ht.resolve_left h0)
    refine cd_vecshape (v := lv) (E := 3) (sz := 1) (n := l.length) (l := ints l) (by repeat (first | exact Sel.here | apply Sel.there)) fun la lcp hlv hla => ?_
    refine cK (xT (cS (cR (sV (vL rfl ld26) ?_))))
    refine sV (vM rfl) (st_clr rfl rfl en33 rfl (hseen_ct I h) ?_)
    refine sV (vA rfl) (sN (nK [0, 2, 3, 5] rfl (nT (cS (cS (cR (sV (vL rfl ld77) ?_)))))))
    refine sV (vM rfl) (sV (v_lookup_ok rfl rfl mp77 inf3 (by repeat (first | exact Sel.here | apply Sel.there))) ?_)
    rw [mlook_nmv]
    by_cases hm : m.seen t ∈ l
    · rw [if_pos hm, pmeet_old hm]
      refine sV (vM rfl) (sV (v_extract rfl rfl) (sV (v_extract rfl rfl) (sV (vA rfl) (sV (vA rfl) (sN (nK [0, 2, 3, 5, 7] rfl (nT (cS (cR (sV (vM rfl) (sV (v_not rfl) (sN (nK [0, 2, 3, 5, 20] rfl (nT (cd_false rfl ?_)))))))))))))))
      refine cK (xT (cS (cR (sV (vL rfl ld77) ?_))))
      refine sV (vM rfl) (sV (v_lookup rfl rfl mp77 inf3 (by repeat (first | exact Sel.here | apply Sel.there))) ?_)
      rw [mlook_nmv, if_pos hm]
      refine sV (vA rfl) (sN (nK [5] rfl (nT (cT ?_))))
      exact xt_rt rfl ⟨rfl, lv, rfl⟩
    · rw [if_neg hm, pmeet_new hne hm, idx_new hm]
      refine sV (vM rfl) (sV (v_extract rfl rfl) (sV (v_extract rfl rfl) (sV (vA rfl) (sV (vA rfl) (sN (nK [0, 2, 3, 5, 7] rfl (nT (cS (cR (sV (vM rfl) (sV (v_not rfl) (sN (nK [0, 2, 3, 5, 20] rfl (nT (cd_true rfl ?_)))))))))))))))
      refine cS (cR (sV (vL rfl ld27) ?_))
      refine sV (vM rfl) (st_buildSlice (cells := [.int .i64 (m.seen t)]) rfl Tryz.underlying27 inf3 rfl rfl (by kernel_rfl) (ltn rfl) fun b23 => ?_)
      refine st_append (news := [.int .i64 (m.seen t)]) rfl rfl Tryz.underlying27 inf3 rfl (ltn rfl) (by repeat (first | exact Sel.here | apply Sel.there)) rfl (fun j u hu => by repeat (first | exact at_here (rd_cl (by simpa using hu)) | apply at_there)) (ones rfl) (by omega) (by omega) (ltn rfl) fun lv' hlv' hv1 => ?_
      refine st_vecshape (v := lv') (E := 3) (sz := 1) (n := l.length + 1) (l := ints l ++ [.int .i64 (m.seen t)]) (by repeat (first | exact Sel.here | apply Sel.there)) fun la' lcp' hlv2 hla' => ?_
      refine st_sto rfl rfl sz27 ?_
      refine sN (nK [0, 2, 3, 5] rfl (nT (cR (sV (vL rfl ld77) ?_))))
      refine sV (vM rfl) (sV (vL rfl ld27) ?_)
      refine sV (v_len (congrArg some hlv2) Tryz.underlying27) (st_mapUpdate rfl rfl rfl mp77 (by repeat (first | exact Sel.here | apply Sel.there)) ?_)
      rw [show ((l.length + 1 : Nat) : Int) = (l.length : Int) + 1 by omega, mupd_nmv hm]
      refine sN (nK [0, 2, 5] rfl (nT (cS (cR (sV (vL rfl ld77) ?_)))))
      refine sV (vM rfl) (sV (v_lookup rfl rfl mp77 inf3 (by repeat (first | exact Sel.here | apply Sel.there))) ?_)
      rw [mlook_nmv, if_pos (by simp), idx_new hm]
      refine sV (vA rfl) (sN (nK [5] rfl (nT (cT ?_))))
      rw [show ints l ++ [.int .i64 (m.seen t)] = ints (l ++ [m.seen t]) by simp [ints], show l.length + 1 = (l ++ [m.seen t]).length by simp]
      exact xt_rt rfl ⟨rfl, lv', rfl⟩
end
end Go.Proofs.YtmhmpjgkkpbnnaaGreat
namespace Go.Proofs.YtmhmpjgkkpbnnaaGreat
open Go.Ck Fx Go.Hm Go.Hm.AM
attribute [local irreducible] St Cd Xt Nx DrL LsW
section
variable {L : MemL} {μ : Mem} {S R : Res} {m : AM} {ly ln lf : List Int} {φ : Int → Option Nat} {A : Store} {v u : Value} {roots l M : List Int} {t : Int} {w0 : World} {hr : SH} {Q : Exit → Act → World → Prop} {b2 b4 b7 b8 b10 mp : Nat} {lv : Value}
set_option maxHeartbeats 2000000 in
set_option maxRecDepth 100000 in
theorem hrow_y_c (I : MI L μ S m) (h : AM.Good m ly ln lf φ A) {i : Nat} (hi : i < l.length) (ht : l[i] ∈ ly) (hl : PM (AM.Obj ly ln lf) l) (hu : RowB S u (m.row l[i])) (hM : ∃ k, M = (m.gr.succ l[i]).foldl pmeet l ++ k) (hM0 : (0 : Int) ∉ M) (sw : Value)
    (hcont : ∀ lv' rv', Xt ⟨Tryz.prog, none, 114, [], w0⟩ .normal Q [(2, .pointer (some ⟨b2, 0, none⟩)), (4, .pointer (some ⟨b4, 0, none⟩)), (8, .pointer (some ⟨b8, 0, none⟩)), (9, .func (.func 32) #[] #[.pointer (some ⟨b2, 0, none⟩), .pointer (some ⟨b7, 0, none⟩), .pointer (some ⟨b8, 0, none⟩)]), (10, .pointer (some ⟨b10, 0, none⟩)), (13, .int .i64 (i : Nat)), (15, sw), (16, rv')] (vec rv' 3 1 (m.row l[i]).length (ints (m.gr.prow M l[i])) :: (pcSH L μ b2 b7 b8 mp lv' ((m.gr.succ l[i]).foldl pmeet l) ++ ([sb L.y μ.y, wb L.y μ.y, tb L.y μ.y, sb L.n μ.n, wb L.n μ.n, tb L.n μ.n, wb L.o μ.o, S] ++ hr)))) :
    Cd ⟨Tryz.prog, none, 114, [], w0⟩ (cdr (cdl (cdr (cdr (cdr (cdl (cdl (cdr (cdl (cdl (cdr (cdl (cdr (cdr (cdr (cdr (cdr (cdr (cdr (fbody Tryz.f8)))))))))))))))))))) Q [(2, .pointer (some ⟨b2, 0, none⟩)), (4, .pointer (some ⟨b4, 0, none⟩)), (8, .pointer (some ⟨b8, 0, none⟩)), (9, .func (.func 32) #[] #[.pointer (some ⟨b2, 0, none⟩), .pointer (some ⟨b7, 0, none⟩), .pointer (some ⟨b8, 0, none⟩)]), (10, .pointer (some ⟨b10, 0, none⟩)), (13, .int .i64 (i : Nat)), (14, .pointer (some ⟨L.y.sb, 0, none⟩)), (15, sw), (16, .slice none 0 0), (72, u), (73, .int .i64 (m.row l[i]).length), (74, .int .i64 0)] (pcSH L μ b2 b7 b8 mp lv l ++ ([sb L.y μ.y, wb L.y μ.y, tb L.y μ.y, sb L.n μ.n, wb L.n μ.n, tb L.n μ.n, wb L.o μ.o, S] ++ hr)) := by
  have z := h.g.sz
  have h1 := z.Y0; have h2 := z.Y1; have h3 := z.H0; have h4 := z.H1; have h5 := m.base_former
  have hob : AM.Obj ly ln lf l[i] := hl.s _ (List.getElem_mem hi)
  have hbd := h.g.ybd ht
  have hlen := (ob_obj h.g hob).len z
  have hsz : m.size l[i] = 1 + (m.row l[i]).length := rfl
  have ok := I.r.oky h.g
  have k1 := ok.us; have k2 := ok.fr; have k3 := ok.ws
  have e1 := I.r.y.fr; have e2 := I.r.y.ln; have e3 := h.g.yl
  obtain ⟨ua, ucp, hue, _⟩ := id hu
  have hT := h.g.T_le
  have hn0 : ∀ {l'}, PM (AM.Obj ly ln lf) l' → (0 : Int) ∉ l' := fun hp hm => by have := (h.g.obj_bd (hp.s 0 hm)).1; omega
  refine cd_vecnil 3 1 ?_
  refine cd_block (cd_loop (σ := Nat × Value × Value) (fun q => [(2, .pointer (some ⟨b2, 0, none⟩)), (4, .pointer (some ⟨b4, 0, none⟩)), (8, .pointer (some ⟨b8, 0, none⟩)), (9, .func (.func 32) #[] #[.pointer (some ⟨b2, 0, none⟩), .pointer (some ⟨b7, 0, none⟩), .pointer (some ⟨b8, 0, none⟩)]), (10, .pointer (some ⟨b10, 0, none⟩)), (13, .int .i64 (i : Nat)), (14, .pointer (some ⟨L.y.sb, 0, none⟩)), (15, sw), (16, q.2.2), (72, u), (73, .int .i64 (m.row l[i]).length), (74, .int .i64 (q.1 : Nat))]) (fun q => vec q.2.2 3 1 q.1 (ints ((m.gr.prow M l[i]).take q.1)) :: (pcSH L μ b2 b7 b8 mp q.2.1 ((m.gr.succTo l[i] q.1).foldl pmeet l) ++ ([sb L.y μ.y, wb L.y μ.y, tb L.y μ.y, sb L.n μ.n, wb L.n μ.n, tb L.n μ.n, wb L.o μ.o, S] ++ hr))) (fun q => q.1 ≤ (m.row l[i]).length ∧ PM (AM.Obj ly ln lf) ((m.gr.succTo l[i] q.1).foldl pmeet l)) (fun q => (m.row l[i]).length - q.1) (0, lv, .slice none 0 0) ⟨Nat.zero_le _, hl⟩ ⟨rfl, rfl, rfl, rfl, rfl, rfl, rfl, rfl, rfl, rfl, rfl, rfl, trivial⟩ (Sub.refl _) ?_)
  rintro ⟨k, lw, rw_⟩ ⟨hk, hmk⟩
  dsimp only at hk hmk ⊢
  have hmkl := h.g.pm_len hmk
  obtain ⟨ex, hex⟩ := pmeets_pre (m.gr.succTo l[i] k) l
  have hxl : i < ((m.gr.succTo l[i] k).foldl pmeet l).length := by rw [hex, List.length_append]; omega
  have hxi : ((m.gr.succTo l[i] k).foldl pmeet l)[i]? = some l[i] := by rw [hex, List.getElem?_append_left hi, List.getElem?_eq_getElem hi]
  unfold pcSH
  simp only [List.cons_append, List.nil_append]
  refine cd_vecshape (v := lw) (E := 3) (sz := 1) (n := ((m.gr.succTo l[i] k).foldl pmeet l).length) (l := ints ((m.gr.succTo l[i] k).foldl pmeet l)) (by repeat (first | exact Sel.here | apply Sel.there)) fun wa wcp hlw hwa => ?_
  obtain ⟨wbk, rfl⟩ := hwa (by omega)
  have hrdw : Rd (vec lw 3 1 ((m.gr.succTo l[i] k).foldl pmeet l).length (ints ((m.gr.succTo l[i] k).foldl pmeet l))) ⟨wbk, i, none⟩ (.int .i64 l[i]) := rd_vec hlw (by simp only [ints, List.getElem?_map, hxi, Option.map_some])
  refine cS (cR (sV (v_lss rfl rfl) (sN (nT (cS (cC rfl (fun hc4 => ?_) (fun hc4 => ?_)))))))
  · skip
    have hkl : k < (m.row l[i]).length := by simpa using hc4
    obtain ⟨ub, uo2, ucp', hue2, hrdu⟩ := hu.at hkl
    have hps := Gr.succTo_succ (g := m.gr) (t := l[i]) (k := k) (by rw [gr_len]; exact hkl)
    rw [gr_flag hkl] at hps
    have hpg := prow_get (M := M) hkl
    have hAl : (m.gr.prow M l[i]).length = (m.row l[i]).length := prow_len _ _ _
    have hwd : μ.y.ws.getD (l[i] + 1 + k - μ.y.fr).toNat 0 = m.word (l[i] + 1 + k) := I.r.wordy (by omega) (by omega) (Gd.innery h.g ht (by omega) (by unfold AM.size; omega))
    have hrdx : Rd (wb L.y μ.y) ⟨L.y.wb, (l[i] + 1 + k - μ.y.fr).toNat, none⟩ (.int .i64 (m.word (l[i] + 1 + k))) := by rw [← hwd]; exact rd_ints (by omega)
    refine cK (xT (cS (cd_block (cS (cR (sV (vM rfl) (sV (v_ixo k (congrArg some hue2) rfl sl55 rfl hkl) (sV (vL rfl ld4) ?_))))))))
    refine sV (vA rfl) (sV (vA rfl) (sN (nK [2, 4, 8, 9, 10, 13, 14, 15, 16, 17, 18, 72, 73, 74] rfl (nT (cS (cd_drawh (ork [(0, 2), (1, 2), (2, 2), (3, 1), (4, 2), (5, 2), (6, 1), (7, 2), (8, 2), (9, 2), (10, 1), (11, 2), (12, 1), (13, 2)] .nil) (fun _ => true) mixed (by kernel_rfl) ?_))))))
    refine dV rfl (vM rfl) (dV rfl (vN rfl) (dV rfl (vF rfl fa87_0 rfl) (dr_v rfl (vL rfl ld27) ?_)))
    refine dV rfl (vM rfl) (dV rfl (v_idx i (congrArg some hlw) rfl sl27 rfl hxl) (dr_v rfl (vL rfl ld3) ?_))
    refine dV rfl (v_add rfl rfl (by unfold I64 at *; omega)) (dV rfl (vM rfl) (dV rfl (v_add rfl rfl (by unfold I64 at *; omega)) (dr_clr rfl rfl rfl en35 rfl (word_ct (l := L.y) (s := μ.y) ok (by omega) (by omega)) ?_)))
    refine dV rfl (vN rfl) (dr_v rfl (vL rfl ld3) ?_)
    refine dV rfl (vA rfl) (dr_nil (nK [2, 4, 8, 9, 10, 13, 14, 15, 16, 18, 19, 72, 73, 74] rfl (nT (cS (cS (cR (sV (vM rfl) (sN (nK [2, 4, 8, 9, 10, 13, 14, 15, 16, 19, 72, 73, 74, 92] rfl (nT (cC rfl (fun hb => ?_) (fun hb => ?_))))))))))))
    · skip
      rw [hb] at hps hpg
      simp only [if_true] at hps hpg
      have hpm : l[i] + 1 + (k : Int) ∈ m.pl l[i] := mem_pl.2 ⟨k, by rw [List.getElem?_eq_getElem hkl, hb], rfl⟩
      have htk : (m.gr.succTo l[i] (k + 1)).foldl pmeet l = pmeet ((m.gr.succTo l[i] k).foldl pmeet l) (m.seen (m.word (l[i] + 1 + k))) := by rw [hps, pmeets_snoc]
      have hwo := h.g.word_obj hob hpm
      have hidx : idx (pmeet ((m.gr.succTo l[i] k).foldl pmeet l) (m.seen (m.word (l[i] + 1 + k)))) (m.seen (m.word (l[i] + 1 + k))) = idx M (m.seen (m.word (l[i] + 1 + k))) :=
        idx_pre (pre_trans (by rw [← htk]; exact m.gr.meets_to l[i] (k + 1) l) hM) pmeet_has hM0
      have hix := idx_lt (l := M) (t := m.seen (m.word (l[i] + 1 + k)))
      have hmk1 : PM (AM.Obj ly ln lf) ((m.gr.succTo l[i] (k + 1)).foldl pmeet l) := by rw [htk]; exact hmk.meet (h.g.seen_obj hwo)
      have hta : (m.gr.prow M l[i]).take (k + 1) = (m.gr.prow M l[i]).take k ++ [1 + idx M (m.seen (m.word (l[i] + 1 + k)))] := by
        rw [List.take_succ_eq_append_getElem (by omega)]
        rw [List.getElem?_eq_getElem (by omega), Option.some.injEq] at hpg
        rw [hpg]
      refine cR (sV (vM rfl) (sV (vM rfl) (st_cl rfl rfl en32 rfl (hpmeet_ct (b1 := b2) (b2 := b7) (b3 := b8) (mp := mp) (lv := lw) I h hmk hwo) ?_)))
      rintro v' h' ⟨rfl, lv', rfl⟩
      rw [hidx]
      unfold pcSH
      simp only [List.cons_append, List.nil_append]
      refine sV (vA rfl) (sN (nK [2, 4, 8, 9, 10, 13, 14, 15, 16, 19, 72, 73, 74] rfl (nT (cR (sV (vM rfl) (sV (vM rfl) (st_buildSlice (cells := [.int .i64 (1 + idx M (m.seen (m.word (l[i] + 1 + k))))]) rfl Tryz.underlying27 inf3 rfl rfl (by kernel_rfl) (ltn rfl) fun b98 => ?_)))))))
      refine st_append (news := [.int .i64 (1 + idx M (m.seen (m.word (l[i] + 1 + k))))]) rfl rfl Tryz.underlying27 inf3 rfl (ltn rfl) (by repeat (first | exact Sel.here | apply Sel.there)) rfl (fun j u hu => by repeat (first | exact at_here (rd_cl (by simpa using hu)) | apply at_there)) (ones rfl) (by omega) (by omega) (ltn rfl) fun rv' hrv' hv1 => ?_
      refine sV (vA rfl) (sN (nK [2, 4, 8, 9, 10, 13, 14, 15, 16, 72, 73, 74] rfl (nx_xt (xB (xT (cR (sV (v_add rfl rfl (by unfold I64 at *; omega)) (sV (vM rfl) (sN (nK [2, 4, 8, 9, 10, 13, 14, 15, 16, 72, 73, 74] rfl (nx_xt ?_)))))))))))
      rw [show ints ((m.gr.prow M l[i]).take k) ++ [.int .i64 (1 + idx M (m.seen (m.word (l[i] + 1 + k))))] = ints ((m.gr.prow M l[i]).take (k + 1)) by rw [hta]; simp [ints], ← htk]
      refine xt_ag (k + 1, lv', rv') ⟨hkl, hmk1⟩ (by show _ - _ < _ - _; omega)
    · skip
      rw [hb] at hps hpg
      simp only [Bool.false_eq_true, if_false, List.append_nil] at hps hpg
      have hta : (m.gr.prow M l[i]).take (k + 1) = (m.gr.prow M l[i]).take k ++ [m.word (l[i] + 1 + k)] := by
        rw [List.take_succ_eq_append_getElem (by omega)]
        rw [List.getElem?_eq_getElem (by omega), Option.some.injEq] at hpg
        rw [hpg]
      refine cK (xT (cR (sV (vM rfl) (sV (vM rfl) (st_buildSlice (cells := [.int .i64 (m.word (l[i] + 1 + k))]) rfl Tryz.underlying27 inf3 rfl rfl (by kernel_rfl) (ltn rfl) fun b98 => ?_)))))
      refine st_append (news := [.int .i64 (m.word (l[i] + 1 + k))]) rfl rfl Tryz.underlying27 inf3 rfl (ltn rfl) (by repeat (first | exact Sel.here | apply Sel.there)) rfl (fun j u hu => by repeat (first | exact at_here (rd_cl (by simpa using hu)) | apply at_there)) (ones rfl) (by omega) (by omega) (ltn rfl) fun rv' hrv' hv1 => ?_
      refine sV (vA rfl) (sN (nK [2, 4, 8, 9, 10, 13, 14, 15, 16, 72, 73, 74] rfl (nx_xt (xB (xT (cR (sV (v_add rfl rfl (by unfold I64 at *; omega)) (sV (vM rfl) (sN (nK [2, 4, 8, 9, 10, 13, 14, 15, 16, 72, 73, 74] rfl (nx_xt ?_)))))))))))
      rw [show ints ((m.gr.prow M l[i]).take k) ++ [.int .i64 (m.word (l[i] + 1 + k))] = ints ((m.gr.prow M l[i]).take (k + 1)) by rw [hta]; simp [ints], ← hps]
      refine xt_ag (k + 1, lw, rv') ⟨hkl, by rw [hps]; exact hmk⟩ (by show _ - _ < _ - _; omega)
  · skip
    have hkg : k = (m.row l[i]).length := by
      have : ¬ k < (m.row l[i]).length := by simpa using hc4
      omega
    have hpa : m.gr.succTo l[i] k = m.gr.succ l[i] := by rw [hkg, ← gr_len]; exact Gr.succTo_all _ _
    have hAl : (m.gr.prow M l[i]).length = (m.row l[i]).length := prow_len _ _ _
    rw [hpa, List.take_of_length_le (by omega), hkg]
    refine cd_exit (xE (xE (xt_exit_block ?_)))
    have hc := hcont lw rw_
    unfold pcSH at hc
    simp only [List.cons_append, List.nil_append] at hc
    exact xt_use hc
set_option maxHeartbeats 2000000 in
set_option maxRecDepth 100000 in
theorem hrow_n_c (I : MI L μ S m) (h : AM.Good m ly ln lf φ A) {i : Nat} (hi : i < l.length) (ht : l[i] ∈ ln) (hl : PM (AM.Obj ly ln lf) l) (hu : RowB S u (m.row l[i])) (hM : ∃ k, M = (m.gr.succ l[i]).foldl pmeet l ++ k) (hM0 : (0 : Int) ∉ M) (sw : Value)
    (hcont : ∀ lv' rv', Xt ⟨Tryz.prog, none, 114, [], w0⟩ .normal Q [(2, .pointer (some ⟨b2, 0, none⟩)), (4, .pointer (some ⟨b4, 0, none⟩)), (8, .pointer (some ⟨b8, 0, none⟩)), (9, .func (.func 32) #[] #[.pointer (some ⟨b2, 0, none⟩), .pointer (some ⟨b7, 0, none⟩), .pointer (some ⟨b8, 0, none⟩)]), (10, .pointer (some ⟨b10, 0, none⟩)), (13, .int .i64 (i : Nat)), (15, sw), (16, rv')] (vec rv' 3 1 (m.row l[i]).length (ints (m.gr.prow M l[i])) :: (pcSH L μ b2 b7 b8 mp lv' ((m.gr.succ l[i]).foldl pmeet l) ++ ([sb L.y μ.y, wb L.y μ.y, tb L.y μ.y, sb L.n μ.n, wb L.n μ.n, tb L.n μ.n, wb L.o μ.o, S] ++ hr)))) :
    Cd ⟨Tryz.prog, none, 114, [], w0⟩ (cdr (cdl (cdr (cdr (cdr (cdl (cdl (cdr (cdl (cdl (cdr (cdl (cdr (cdr (cdr (cdr (cdr (cdr (cdr (fbody Tryz.f8)))))))))))))))))))) Q [(2, .pointer (some ⟨b2, 0, none⟩)), (4, .pointer (some ⟨b4, 0, none⟩)), (8, .pointer (some ⟨b8, 0, none⟩)), (9, .func (.func 32) #[] #[.pointer (some ⟨b2, 0, none⟩), .pointer (some ⟨b7, 0, none⟩), .pointer (some ⟨b8, 0, none⟩)]), (10, .pointer (some ⟨b10, 0, none⟩)), (13, .int .i64 (i : Nat)), (14, .pointer (some ⟨L.n.sb, 0, none⟩)), (15, sw), (16, .slice none 0 0), (72, u), (73, .int .i64 (m.row l[i]).length), (74, .int .i64 0)] (pcSH L μ b2 b7 b8 mp lv l ++ ([sb L.y μ.y, wb L.y μ.y, tb L.y μ.y, sb L.n μ.n, wb L.n μ.n, tb L.n μ.n, wb L.o μ.o, S] ++ hr)) := by
  have z := h.g.sz
  have h1 := z.Y0; have h2 := z.Y1; have h3 := z.H0; have h4 := z.H1; have h5 := m.base_former
  have hob : AM.Obj ly ln lf l[i] := hl.s _ (List.getElem_mem hi)
  have hbd := h.g.obd ht
  have hlen := (ob_obj h.g hob).len z
  have hsz : m.size l[i] = 1 + (m.row l[i]).length := rfl
  have ok := I.r.okn h.g
  have k1 := ok.us; have k2 := ok.fr; have k3 := ok.ws
  have e1 := I.r.n.fr; have e2 := I.r.n.ln; have e3 := h.g.oldle
  obtain ⟨ua, ucp, hue, _⟩ := id hu
  have hT := h.g.T_le
  have hn0 : ∀ {l'}, PM (AM.Obj ly ln lf) l' → (0 : Int) ∉ l' := fun hp hm => by have := (h.g.obj_bd (hp.s 0 hm)).1; omega
  refine cd_vecnil 3 1 ?_
  refine cd_block (cd_loop (σ := Nat × Value × Value) (fun q => [(2, .pointer (some ⟨b2, 0, none⟩)), (4, .pointer (some ⟨b4, 0, none⟩)), (8, .pointer (some ⟨b8, 0, none⟩)), (9, .func (.func 32) #[] #[.pointer (some ⟨b2, 0, none⟩), .pointer (some ⟨b7, 0, none⟩), .pointer (some ⟨b8, 0, none⟩)]), (10, .pointer (some ⟨b10, 0, none⟩)), (13, .int .i64 (i : Nat)), (14, .pointer (some ⟨L.n.sb, 0, none⟩)), (15, sw), (16, q.2.2), (72, u), (73, .int .i64 (m.row l[i]).length), (74, .int .i64 (q.1 : Nat))]) (fun q => vec q.2.2 3 1 q.1 (ints ((m.gr.prow M l[i]).take q.1)) :: (pcSH L μ b2 b7 b8 mp q.2.1 ((m.gr.succTo l[i] q.1).foldl pmeet l) ++ ([sb L.y μ.y, wb L.y μ.y, tb L.y μ.y, sb L.n μ.n, wb L.n μ.n, tb L.n μ.n, wb L.o μ.o, S] ++ hr))) (fun q => q.1 ≤ (m.row l[i]).length ∧ PM (AM.Obj ly ln lf) ((m.gr.succTo l[i] q.1).foldl pmeet l)) (fun q => (m.row l[i]).length - q.1) (0, lv, .slice none 0 0) ⟨Nat.zero_le _, hl⟩ ⟨rfl, rfl, rfl, rfl, rfl, rfl, rfl, rfl, rfl, rfl, rfl, rfl, trivial⟩ (Sub.refl _) ?_)
  rintro ⟨k, lw, rw_⟩ ⟨hk, hmk⟩
  dsimp only at hk hmk ⊢
  have hmkl := h.g.pm_len hmk
  obtain ⟨ex, hex⟩ := pmeets_pre (m.gr.succTo l[i] k) l
  have hxl : i < ((m.gr.succTo l[i] k).foldl pmeet l).length := by rw [hex, List.length_append]; omega
  have hxi : ((m.gr.succTo l[i] k).foldl pmeet l)[i]? = some l[i] := by rw [hex, List.getElem?_append_left hi, List.getElem?_eq_getElem hi]
  unfold pcSH
  simp only [List.cons_append, List.nil_append]
  refine cd_vecshape (v := lw) (E := 3) (sz := 1) (n := ((m.gr.succTo l[i] k).foldl pmeet l).length) (l := ints ((m.gr.succTo l[i] k).foldl pmeet l)) (by repeat (first | exact Sel.here | apply Sel.there)) fun wa wcp hlw hwa => ?_
  obtain ⟨wbk, rfl⟩ := hwa (by omega)
  have hrdw : Rd (vec lw 3 1 ((m.gr.succTo l[i] k).foldl pmeet l).length (ints ((m.gr.succTo l[i] k).foldl pmeet l))) ⟨wbk, i, none⟩ (.int .i64 l[i]) := rd_vec hlw (by simp only [ints, List.getElem?_map, hxi, Option.map_some])
  refine cS (cR (sV (v_lss rfl rfl) (sN (nT (cS (cC rfl (fun hc4 => ?_) (fun hc4 => ?_)))))))
  · skip
    have hkl : k < (m.row l[i]).length := by simpa using hc4
    obtain ⟨ub, uo2, ucp', hue2, hrdu⟩ := hu.at hkl
    have hps := Gr.succTo_succ (g := m.gr) (t := l[i]) (k := k) (by rw [gr_len]; exact hkl)
    rw [gr_flag hkl] at hps
    have hpg := prow_get (M := M) hkl
    have hAl : (m.gr.prow M l[i]).length = (m.row l[i]).length := prow_len _ _ _
    have hwd : μ.n.ws.getD (l[i] + 1 + k - μ.n.fr).toNat 0 = m.word (l[i] + 1 + k) := I.r.wordn (by omega) (by omega) (h.g.inner ht (by omega) (by unfold AM.size; omega))
    have hrdx : Rd (wb L.n μ.n) ⟨L.n.wb, (l[i] + 1 + k - μ.n.fr).toNat, none⟩ (.int .i64 (m.word (l[i] + 1 + k))) := by rw [← hwd]; exact rd_ints (by omega)
    refine cK (xT (cS (cd_block (cS (cR (sV (vM rfl) (sV (v_ixo k (congrArg some hue2) rfl sl55 rfl hkl) (sV (vL rfl ld4) ?_))))))))
    refine sV (vA rfl) (sV (vA rfl) (sN (nK [2, 4, 8, 9, 10, 13, 14, 15, 16, 17, 18, 72, 73, 74] rfl (nT (cS (cd_drawh (ork [(0, 2), (1, 2), (2, 2), (3, 1), (4, 2), (5, 2), (6, 1), (7, 2), (8, 2), (9, 2), (10, 1), (11, 2), (12, 1), (13, 2)] .nil) (fun _ => true) mixed (by kernel_rfl) ?_))))))
    refine dV rfl (vM rfl) (dV rfl (vN rfl) (dV rfl (vF rfl fa87_0 rfl) (dr_v rfl (vL rfl ld27) ?_)))
    refine dV rfl (vM rfl) (dV rfl (v_idx i (congrArg some hlw) rfl sl27 rfl hxl) (dr_v rfl (vL rfl ld3) ?_))
    refine dV rfl (v_add rfl rfl (by unfold I64 at *; omega)) (dV rfl (vM rfl) (dV rfl (v_add rfl rfl (by unfold I64 at *; omega)) (dr_clr rfl rfl rfl en35 rfl (word_ct (l := L.n) (s := μ.n) ok (by omega) (by omega)) ?_)))
    refine dV rfl (vN rfl) (dr_v rfl (vL rfl ld3) ?_)
    refine dV rfl (vA rfl) (dr_nil (nK [2, 4, 8, 9, 10, 13, 14, 15, 16, 18, 19, 72, 73, 74] rfl (nT (cS (cS (cR (sV (vM rfl) (sN (nK [2, 4, 8, 9, 10, 13, 14, 15, 16, 19, 72, 73, 74, 92] rfl (nT (cC rfl (fun hb => ?_) (fun hb => ?_))))))))))))
    · skip
      rw [hb] at hps hpg
      simp only [if_true] at hps hpg
      have hpm : l[i] + 1 + (k : Int) ∈ m.pl l[i] := mem_pl.2 ⟨k, by rw [List.getElem?_eq_getElem hkl, hb], rfl⟩
      have htk : (m.gr.succTo l[i] (k + 1)).foldl pmeet l = pmeet ((m.gr.succTo l[i] k).foldl pmeet l) (m.seen (m.word (l[i] + 1 + k))) := by rw [hps, pmeets_snoc]
      have hwo := h.g.word_obj hob hpm
      have hidx : idx (pmeet ((m.gr.succTo l[i] k).foldl pmeet l) (m.seen (m.word (l[i] + 1 + k)))) (m.seen (m.word (l[i] + 1 + k))) = idx M (m.seen (m.word (l[i] + 1 + k))) :=
        idx_pre (pre_trans (by rw [← htk]; exact m.gr.meets_to l[i] (k + 1) l) hM) pmeet_has hM0
      have hix := idx_lt (l := M) (t := m.seen (m.word (l[i] + 1 + k)))
      have hmk1 : PM (AM.Obj ly ln lf) ((m.gr.succTo l[i] (k + 1)).foldl pmeet l) := by rw [htk]; exact hmk.meet (h.g.seen_obj hwo)
      have hta : (m.gr.prow M l[i]).take (k + 1) = (m.gr.prow M l[i]).take k ++ [1 + idx M (m.seen (m.word (l[i] + 1 + k)))] := by
        rw [List.take_succ_eq_append_getElem (by omega)]
        rw [List.getElem?_eq_getElem (by omega), Option.some.injEq] at hpg
        rw [hpg]
      refine cR (sV (vM rfl) (sV (vM rfl) (st_cl rfl rfl en32 rfl (hpmeet_ct (b1 := b2) (b2 := b7) (b3 := b8) (mp := mp) (lv := lw) I h hmk hwo) ?_)))
      rintro v' h' ⟨rfl, lv', rfl⟩
      rw [hidx]
      unfold pcSH
      simp only [List.cons_append, List.nil_append]
      refine sV (vA rfl) (sN (nK [2, 4, 8, 9, 10, 13, 14, 15, 16, 19, 72, 73, 74] rfl (nT (cR (sV (vM rfl) (sV (vM rfl) (st_buildSlice (cells := [.int .i64 (1 + idx M (m.seen (m.word (l[i] + 1 + k))))]) rfl Tryz.underlying27 inf3 rfl rfl (by kernel_rfl) (ltn rfl) fun b98 => ?_)))))))
      refine st_append (news := [.int .i64 (1 + idx M (m.seen (m.word (l[i] + 1 + k))))]) rfl rfl Tryz.underlying27 inf3 rfl (ltn rfl) (by repeat (first | exact Sel.here | apply Sel.there)) rfl (fun j u hu => by repeat (first | exact at_here (rd_cl (by simpa using hu)) | apply at_there)) (ones rfl) (by omega) (by omega) (ltn rfl) fun rv' hrv' hv1 => ?_
      refine sV (vA rfl) (sN (nK [2, 4, 8, 9, 10, 13, 14, 15, 16, 72, 73, 74] rfl (nx_xt (xB (xT (cR (sV (v_add rfl rfl (by unfold I64 at *; omega)) (sV (vM rfl) (sN (nK [2, 4, 8, 9, 10, 13, 14, 15, 16, 72, 73, 74] rfl (nx_xt ?_)))))))))))
      rw [show ints ((m.gr.prow M l[i]).take k) ++ [.int .i64 (1 + idx M (m.seen (m.word (l[i] + 1 + k))))] = ints ((m.gr.prow M l[i]).take (k + 1)) by rw [hta]; simp [ints], ← htk]
      refine xt_ag (k + 1, lv', rv') ⟨hkl, hmk1⟩ (by show _ - _ < _ - _; omega)
    · skip
      rw [hb] at hps hpg
      simp only [Bool.false_eq_true, if_false, List.append_nil] at hps hpg
      have hta : (m.gr.prow M l[i]).take (k + 1) = (m.gr.prow M l[i]).take k ++ [m.word (l[i] + 1 + k)] := by
        rw [List.take_succ_eq_append_getElem (by omega)]
        rw [List.getElem?_eq_getElem (by omega), Option.some.injEq] at hpg
        rw [hpg]
      refine cK (xT (cR (sV (vM rfl) (sV (vM rfl) (st_buildSlice (cells := [.int .i64 (m.word (l[i] + 1 + k))]) rfl Tryz.underlying27 inf3 rfl rfl (by kernel_rfl) (ltn rfl) fun b98 => ?_)))))
      refine st_append (news := [.int .i64 (m.word (l[i] + 1 + k))]) rfl rfl Tryz.underlying27 inf3 rfl (ltn rfl) (by repeat (first | exact Sel.here | apply Sel.there)) rfl (fun j u hu => by repeat (first | exact at_here (rd_cl (by simpa using hu)) | apply at_there)) (ones rfl) (by omega) (by omega) (ltn rfl) fun rv' hrv' hv1 => ?_
      refine sV (vA rfl) (sN (nK [2, 4, 8, 9, 10, 13, 14, 15, 16, 72, 73, 74] rfl (nx_xt (xB (xT (cR (sV (v_add rfl rfl (by unfold I64 at *; omega)) (sV (vM rfl) (sN (nK [2, 4, 8, 9, 10, 13, 14, 15, 16, 72, 73, 74] rfl (nx_xt ?_)))))))))))
      rw [show ints ((m.gr.prow M l[i]).take k) ++ [.int .i64 (m.word (l[i] + 1 + k))] = ints ((m.gr.prow M l[i]).take (k + 1)) by rw [hta]; simp [ints], ← hps]
      refine xt_ag (k + 1, lw, rv') ⟨hkl, by rw [hps]; exact hmk⟩ (by show _ - _ < _ - _; omega)
  · skip
    have hkg : k = (m.row l[i]).length := by
      have : ¬ k < (m.row l[i]).length := by simpa using hc4
      omega
    have hpa : m.gr.succTo l[i] k = m.gr.succ l[i] := by rw [hkg, ← gr_len]; exact Gr.succTo_all _ _
    have hAl : (m.gr.prow M l[i]).length = (m.row l[i]).length := prow_len _ _ _
    rw [hpa, List.take_of_length_le (by omega), hkg]
    refine cd_exit (xE (xE (xt_exit_block ?_)))
    have hc := hcont lw rw_
    unfold pcSH at hc
    simp only [List.cons_append, List.nil_append] at hc
    exact xt_use hc
set_option maxHeartbeats 2000000 in
set_option maxRecDepth 100000 in
theorem hrow_o_c (I : MI L μ S m) (h : AM.Good m ly ln lf φ A) {i : Nat} (hi : i < l.length) (ht : l[i] ∈ lf) (hl : PM (AM.Obj ly ln lf) l) (hu : RowB S u (m.row l[i])) (hM : ∃ k, M = (m.gr.succ l[i]).foldl pmeet l ++ k) (hM0 : (0 : Int) ∉ M) (sw : Value)
    (hcont : ∀ lv' rv', Xt ⟨Tryz.prog, none, 114, [], w0⟩ .normal Q [(2, .pointer (some ⟨b2, 0, none⟩)), (4, .pointer (some ⟨b4, 0, none⟩)), (8, .pointer (some ⟨b8, 0, none⟩)), (9, .func (.func 32) #[] #[.pointer (some ⟨b2, 0, none⟩), .pointer (some ⟨b7, 0, none⟩), .pointer (some ⟨b8, 0, none⟩)]), (10, .pointer (some ⟨b10, 0, none⟩)), (13, .int .i64 (i : Nat)), (15, sw), (16, rv')] (vec rv' 3 1 (m.row l[i]).length (ints (m.gr.prow M l[i])) :: (pcSH L μ b2 b7 b8 mp lv' ((m.gr.succ l[i]).foldl pmeet l) ++ ([sb L.y μ.y, wb L.y μ.y, tb L.y μ.y, sb L.n μ.n, wb L.n μ.n, tb L.n μ.n, wb L.o μ.o, S] ++ hr)))) :
    Cd ⟨Tryz.prog, none, 114, [], w0⟩ (cdr (cdl (cdr (cdr (cdr (cdl (cdl (cdr (cdl (cdl (cdr (cdl (cdr (cdr (cdr (cdr (cdr (cdr (cdr (fbody Tryz.f8)))))))))))))))))))) Q [(2, .pointer (some ⟨b2, 0, none⟩)), (4, .pointer (some ⟨b4, 0, none⟩)), (8, .pointer (some ⟨b8, 0, none⟩)), (9, .func (.func 32) #[] #[.pointer (some ⟨b2, 0, none⟩), .pointer (some ⟨b7, 0, none⟩), .pointer (some ⟨b8, 0, none⟩)]), (10, .pointer (some ⟨b10, 0, none⟩)), (13, .int .i64 (i : Nat)), (14, .pointer (some ⟨L.o.sb, 0, none⟩)), (15, sw), (16, .slice none 0 0), (72, u), (73, .int .i64 (m.row l[i]).length), (74, .int .i64 0)] (pcSH L μ b2 b7 b8 mp lv l ++ ([sb L.y μ.y, wb L.y μ.y, tb L.y μ.y, sb L.n μ.n, wb L.n μ.n, tb L.n μ.n, wb L.o μ.o, S] ++ hr)) := by
  have z := h.g.sz
  have h1 := z.Y0; have h2 := z.Y1; have h3 := z.H0; have h4 := z.H1; have h5 := m.base_former
  have hob : AM.Obj ly ln lf l[i] := hl.s _ (List.getElem_mem hi)
  have hbd := h.g.fbd ht
  have hlen := (ob_obj h.g hob).len z
  have hsz : m.size l[i] = 1 + (m.row l[i]).length := rfl
  have ok := I.r.oko h.g
  have k1 := ok.us; have k2 := ok.fr; have k3 := ok.ws
  obtain ⟨uo, o1, o2⟩ := I.r.o; have e1 := o1.fr; have e2 := o1.ln; have e3 := o1.us; have e4 := o2 l[i] (by omega) (by omega) (h.g.fhead ht)
  obtain ⟨ua, ucp, hue, _⟩ := id hu
  have hT := h.g.T_le
  have hn0 : ∀ {l'}, PM (AM.Obj ly ln lf) l' → (0 : Int) ∉ l' := fun hp hm => by have := (h.g.obj_bd (hp.s 0 hm)).1; omega
  refine cd_vecnil 3 1 ?_
  refine cd_block (cd_loop (σ := Nat × Value × Value) (fun q => [(2, .pointer (some ⟨b2, 0, none⟩)), (4, .pointer (some ⟨b4, 0, none⟩)), (8, .pointer (some ⟨b8, 0, none⟩)), (9, .func (.func 32) #[] #[.pointer (some ⟨b2, 0, none⟩), .pointer (some ⟨b7, 0, none⟩), .pointer (some ⟨b8, 0, none⟩)]), (10, .pointer (some ⟨b10, 0, none⟩)), (13, .int .i64 (i : Nat)), (14, .pointer (some ⟨L.o.sb, 0, none⟩)), (15, sw), (16, q.2.2), (72, u), (73, .int .i64 (m.row l[i]).length), (74, .int .i64 (q.1 : Nat))]) (fun q => vec q.2.2 3 1 q.1 (ints ((m.gr.prow M l[i]).take q.1)) :: (pcSH L μ b2 b7 b8 mp q.2.1 ((m.gr.succTo l[i] q.1).foldl pmeet l) ++ ([sb L.y μ.y, wb L.y μ.y, tb L.y μ.y, sb L.n μ.n, wb L.n μ.n, tb L.n μ.n, wb L.o μ.o, S] ++ hr))) (fun q => q.1 ≤ (m.row l[i]).length ∧ PM (AM.Obj ly ln lf) ((m.gr.succTo l[i] q.1).foldl pmeet l)) (fun q => (m.row l[i]).length - q.1) (0, lv, .slice none 0 0) ⟨Nat.zero_le _, hl⟩ ⟨rfl, rfl, rfl, rfl, rfl, rfl, rfl, rfl, rfl, rfl, rfl, rfl, trivial⟩ (Sub.refl _) ?_)
  rintro ⟨k, lw, rw_⟩ ⟨hk, hmk⟩
  dsimp only at hk hmk ⊢
  have hmkl := h.g.pm_len hmk
  obtain ⟨ex, hex⟩ := pmeets_pre (m.gr.succTo l[i] k) l
  have hxl : i < ((m.gr.succTo l[i] k).foldl pmeet l).length := by rw [hex, List.length_append]; omega
  have hxi : ((m.gr.succTo l[i] k).foldl pmeet l)[i]? = some l[i] := by rw [hex, List.getElem?_append_left hi, List.getElem?_eq_getElem hi]
  unfold pcSH
  simp only [List.cons_append, List.nil_append]
  refine cd_vecshape (v := lw) (E := 3) (sz := 1) (n := ((m.gr.succTo l[i] k).foldl pmeet l).length) (l := ints ((m.gr.succTo l[i] k).foldl pmeet l)) (by repeat (first | exact Sel.here | apply Sel.there)) fun wa wcp hlw hwa => ?_
  obtain ⟨wbk, rfl⟩ := hwa (by omega)
  have hrdw : Rd (vec lw 3 1 ((m.gr.succTo l[i] k).foldl pmeet l).length (ints ((m.gr.succTo l[i] k).foldl pmeet l))) ⟨wbk, i, none⟩ (.int .i64 l[i]) := rd_vec hlw (by simp only [ints, List.getElem?_map, hxi, Option.map_some])
  refine cS (cR (sV (v_lss rfl rfl) (sN (nT (cS (cC rfl (fun hc4 => ?_) (fun hc4 => ?_)))))))
  · skip
    have hkl : k < (m.row l[i]).length := by simpa using hc4
    obtain ⟨ub, uo2, ucp', hue2, hrdu⟩ := hu.at hkl
    have hps := Gr.succTo_succ (g := m.gr) (t := l[i]) (k := k) (by rw [gr_len]; exact hkl)
    rw [gr_flag hkl] at hps
    have hpg := prow_get (M := M) hkl
    have hAl : (m.gr.prow M l[i]).length = (m.row l[i]).length := prow_len _ _ _
    have hwd : μ.o.ws.getD (l[i] + 1 + k - μ.o.fr).toNat 0 = m.word (l[i] + 1 + k) := (by rw [o1.wd _ (by omega), show m.former + (((l[i] + 1 + k - μ.o.fr).toNat : Nat) : Int) = l[i] + 1 + k by omega, hw_word (Gd.innerf h.g ht (by omega) (by unfold AM.size; omega))])
    have hrdx : Rd (wb L.o μ.o) ⟨L.o.wb, (l[i] + 1 + k - μ.o.fr).toNat, none⟩ (.int .i64 (m.word (l[i] + 1 + k))) := by rw [← hwd]; exact rd_ints (by omega)
    refine cK (xT (cS (cd_block (cS (cR (sV (vM rfl) (sV (v_ixo k (congrArg some hue2) rfl sl55 rfl hkl) (sV (vL rfl ld4) ?_))))))))
    refine sV (vA rfl) (sV (vA rfl) (sN (nK [2, 4, 8, 9, 10, 13, 14, 15, 16, 17, 18, 72, 73, 74] rfl (nT (cS (cd_drawh (ork [(0, 2), (1, 2), (2, 2), (3, 1), (4, 2), (5, 2), (6, 1), (7, 2), (8, 2), (9, 2), (10, 1), (11, 2), (12, 1), (13, 2)] .nil) (fun _ => true) mixed (by kernel_rfl) ?_))))))
    refine dV rfl (vM rfl) (dV rfl (vN rfl) (dV rfl (vF rfl fa87_0 rfl) (dr_v rfl (vL rfl ld27) ?_)))
    refine dV rfl (vM rfl) (dV rfl (v_idx i (congrArg some hlw) rfl sl27 rfl hxl) (dr_v rfl (vL rfl ld3) ?_))
    refine dV rfl (v_add rfl rfl (by unfold I64 at *; omega)) (dV rfl (vM rfl) (dV rfl (v_add rfl rfl (by unfold I64 at *; omega)) (dr_clr rfl rfl rfl en35 rfl (word_ct (l := L.o) (s := μ.o) ok (by omega) (by omega)) ?_)))
    refine dV rfl (vN rfl) (dr_v rfl (vL rfl ld3) ?_)
    refine dV rfl (vA rfl) (dr_nil (nK [2, 4, 8, 9, 10, 13, 14, 15, 16, 18, 19, 72, 73, 74] rfl (nT (cS (cS (cR (sV (vM rfl) (sN (nK [2, 4, 8, 9, 10, 13, 14, 15, 16, 19, 72, 73, 74, 92] rfl (nT (cC rfl (fun hb => ?_) (fun hb => ?_))))))))))))
    · skip
      rw [hb] at hps hpg
      simp only [if_true] at hps hpg
      have hpm : l[i] + 1 + (k : Int) ∈ m.pl l[i] := mem_pl.2 ⟨k, by rw [List.getElem?_eq_getElem hkl, hb], rfl⟩
      have htk : (m.gr.succTo l[i] (k + 1)).foldl pmeet l = pmeet ((m.gr.succTo l[i] k).foldl pmeet l) (m.seen (m.word (l[i] + 1 + k))) := by rw [hps, pmeets_snoc]
      have hwo := h.g.word_obj hob hpm
      have hidx : idx (pmeet ((m.gr.succTo l[i] k).foldl pmeet l) (m.seen (m.word (l[i] + 1 + k)))) (m.seen (m.word (l[i] + 1 + k))) = idx M (m.seen (m.word (l[i] + 1 + k))) :=
        idx_pre (pre_trans (by rw [← htk]; exact m.gr.meets_to l[i] (k + 1) l) hM) pmeet_has hM0
      have hix := idx_lt (l := M) (t := m.seen (m.word (l[i] + 1 + k)))
      have hmk1 : PM (AM.Obj ly ln lf) ((m.gr.succTo l[i] (k + 1)).foldl pmeet l) := by rw [htk]; exact hmk.meet (h.g.seen_obj hwo)
      have hta : (m.gr.prow M l[i]).take (k + 1) = (m.gr.prow M l[i]).take k ++ [1 + idx M (m.seen (m.word (l[i] + 1 + k)))] := by
        rw [List.take_succ_eq_append_getElem (by omega)]
        rw [List.getElem?_eq_getElem (by omega), Option.some.injEq] at hpg
        rw [hpg]
      refine cR (sV (vM rfl) (sV (vM rfl) (st_cl rfl rfl en32 rfl (hpmeet_ct (b1 := b2) (b2 := b7) (b3 := b8) (mp := mp) (lv := lw) I h hmk hwo) ?_)))
      rintro v' h' ⟨rfl, lv', rfl⟩
      rw [hidx]
      unfold pcSH
      simp only [List.cons_append, List.nil_append]
      refine sV (vA rfl) (sN (nK [2, 4, 8, 9, 10, 13, 14, 15, 16, 19, 72, 73, 74] rfl (nT (cR (sV (vM rfl) (sV (vM rfl) (st_buildSlice (cells := [.int .i64 (1 + idx M (m.seen (m.word (l[i] + 1 + k))))]) rfl Tryz.underlying27 inf3 rfl rfl (by kernel_rfl) (ltn rfl) fun b98 => ?_)))))))
      refine st_append (news := [.int .i64 (1 + idx M (m.seen (m.word (l[i] + 1 + k))))]) rfl rfl Tryz.underlying27 inf3 rfl (ltn rfl) (by repeat (first | exact Sel.here | apply Sel.there)) rfl (fun j u hu => by repeat (first | exact at_here (rd_cl (by simpa using hu)) | apply at_there)) (ones rfl) (by omega) (by omega) (ltn rfl) fun rv' hrv' hv1 => ?_
      refine sV (vA rfl) (sN (nK [2, 4, 8, 9, 10, 13, 14, 15, 16, 72, 73, 74] rfl (nx_xt (xB (xT (cR (sV (v_add rfl rfl (by unfold I64 at *; omega)) (sV (vM rfl) (sN (nK [2, 4, 8, 9, 10, 13, 14, 15, 16, 72, 73, 74] rfl (nx_xt ?_)))))))))))
      rw [show ints ((m.gr.prow M l[i]).take k) ++ [.int .i64 (1 + idx M (m.seen (m.word (l[i] + 1 + k))))] = ints ((m.gr.prow M l[i]).take (k + 1)) by rw [hta]; simp [ints], ← htk]
      refine xt_ag (k + 1, lv', rv') ⟨hkl, hmk1⟩ (by show _ - _ < _ - _; omega)
    · skip
      rw [hb] at hps hpg
      simp only [Bool.false_eq_true, if_false, List.append_nil] at hps hpg
      have hta : (m.gr.prow M l[i]).take (k + 1) = (m.gr.prow M l[i]).take k ++ [m.word (l[i] + 1 + k)] := by
        rw [List.take_succ_eq_append_getElem (by omega)]
        rw [List.getElem?_eq_getElem (by omega), Option.some.injEq] at hpg
        rw [hpg]
      refine cK (xT (cR (sV (vM rfl) (sV (vM rfl) (st_buildSlice (cells := [.int .i64 (m.word (l[i] + 1 + k))]) rfl Tryz.underlying27 inf3 rfl rfl (by kernel_rfl) (ltn rfl) fun b98 => ?_)))))
      refine st_append (news := [.int .i64 (m.word (l[i] + 1 + k))]) rfl rfl Tryz.underlying27 inf3 rfl (ltn rfl) (by repeat (first | exact Sel.here | apply Sel.there)) rfl (fun j u hu => by repeat (first | exact at_here (rd_cl (by simpa using hu)) | apply at_there)) (ones rfl) (by omega) (by omega) (ltn rfl) fun rv' hrv' hv1 => ?_
      refine sV (vA rfl) (sN (nK [2, 4, 8, 9, 10, 13, 14, 15, 16, 72, 73, 74] rfl (nx_xt (xB (xT (cR (sV (v_add rfl rfl (by unfold I64 at *; omega)) (sV (vM rfl) (sN (nK [2, 4, 8, 9, 10, 13, 14, 15, 16, 72, 73, 74] rfl (nx_xt ?_)))))))))))
      rw [show ints ((m.gr.prow M l[i]).take k) ++ [.int .i64 (m.word (l[i] + 1 + k))] = ints ((m.gr.prow M l[i]).take (k + 1)) by rw [hta]; simp [ints], ← hps]
      refine xt_ag (k + 1, lw, rv') ⟨hkl, by rw [hps]; exact hmk⟩ (by show _ - _ < _ - _; omega)
  · skip
    have hkg : k = (m.row l[i]).length := by
      have : ¬ k < (m.row l[i]).length := by simpa using hc4
      omega
    have hpa : m.gr.succTo l[i] k = m.gr.succ l[i] := by rw [hkg, ← gr_len]; exact Gr.succTo_all _ _
    have hAl : (m.gr.prow M l[i]).length = (m.row l[i]).length := prow_len _ _ _
    rw [hpa, List.take_of_length_le (by omega), hkg]
    refine cd_exit (xE (xE (xt_exit_block ?_)))
    have hc := hcont lw rw_
    unfold pcSH at hc
    simp only [List.cons_append, List.nil_append] at hc
    exact xt_use hc
end
end Go.Proofs.YtmhmpjgkkpbnnaaGreat
