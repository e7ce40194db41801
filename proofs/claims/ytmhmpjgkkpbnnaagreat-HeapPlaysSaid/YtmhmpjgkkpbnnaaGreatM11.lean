/-
  The player of package heap: the table of deeds, and one act. Conditions: what the heap holds, that the machine is in order.
  Package heap's Play: the player's acts from a fresh memory. Conditions: what the heap holds.
  What a list of acts reads as. No condition.
  Pictures and acts in blocks of their own, several kept as one; comparing what is equal. Conditions: what the heap holds, that the machine is in order.
  Package heap's Play: the player's acts from a fresh memory. Conditions: what the heap holds.
  The reference's memory where it lies; its small functions: where halves begin, what is young, old or current, the shape of an object. Conditions: what the heap holds, sizes that are small, addresses within the memory.
  The reference's memory: shape, size, field, rooted, Alloc, Shape, RoomOf. Conditions: what the heap holds, that the machine is in order.
  The reference's memory: move, forward, Get. Conditions: what the heap holds, that the machine is in order.
  The reference's memory: Get, Set. Conditions: what the heap holds, that the machine is in order.
  Arrays of numbers loaded and held against each other; the reference's Set. Conditions: what the heap holds, that the machine is in order.
  The reference's memory: remember, Set. Conditions: what the heap holds, that the machine is in order.
  The reference's memory: add, clear. Conditions: what the heap holds, that sizes are small.
-/
import Derived.Test.YtmhmpjgkkpbnnaaGreatM10
import Derived.Test.YtmhmpjgkkpbnnaaGreatM9
import Derived.Test.YtmhmpjgkkpbnnaaGreatM8
import Derived.ChangeKeysEq
namespace Go.Ck
open Go Go.RowKit
section
variable {P : Program} {e : Env} {h : SH} {ty : TypeId}
theorem v_ixArrN {T E : TypeId} {x y : Operand} {b o n k s : Nat} {kd : IntKind} {i : Int} (hx : e.ev? x = some (.pointer (some ⟨b, o, none⟩))) (hy : e.ev? y = some (.int kd i)) (hT : P.underlying T = some (.array n E)) (hE : Sz P E s) (hi : i = (k : Int)) (hk : k < n) :
    Vop P e h (.indexAddr T x y) ty (.pointer (some ⟨b, o + k * s, none⟩)) :=
  ⟨by simp, by simp, fun ρ w d pos after g hρ _ => by
    subst hi
    have h0 : (0 : Int) ≤ k ∧ (k : Int) < n := by omega
    simp only [execOp, hρ x _ hx, hρ y _ hy, Instr.indexAt, Instr.sureAddr, Sem.run_bind, asIntOf, Sem.run_pure, Result.andThen_ok, run_underlying hT, if_pos h0, hE w, Int.toNat_natCast, Addr.add_lit]⟩
end
end Go.Ck
namespace Go.Proofs.YtmhmpjgkkpbnnaaGreat
open Go.Ck Fx Go.Hm Go.Hm.AM
attribute [local irreducible] St Cd Xt Nx DrL LsW
theorem ld121 : LdN Tryz.prog 121 30 := LdN.ofArr Tryz.underlying121 sz121
def deed (f : Nat) (a b : Bool) : List Value := [.func (.func f) #[] #[], .bool a, .bool b]
def deedL : List Value := [.nilFunc, .bool false, .bool false] ++ deed 86 true false ++ deed 87 true true ++ deed 88 true true ++ deed 89 true false ++ deed 90 true false ++ deed 91 true true ++ deed 92 false false ++ deed 93 false false ++ deed 94 false false
set_option maxRecDepth 100000 in
theorem deeds_ct : Ct Tryz.prog 61 #[] [] fun u h' => u = .agg deedL.toArray ∧ h' = [] := by
  refine ct_of (n := 11) Tryz.func61 rfl rfl (len rfl) fun hr w0 => ?_
  refine cS (cR (st_alc al121 fun b0 => ?_))
  refine sN (nT (cS (cR (sV (v_build (cells := deed 86 true false) rfl (fun _ => by kernel_rfl)) ?_))))
  refine sV (v_build (cells := deed 87 true true) rfl (fun _ => by kernel_rfl)) ?_
  refine sV (v_build (cells := deed 88 true true) rfl (fun _ => by kernel_rfl)) ?_
  refine sV (v_build (cells := deed 89 true false) rfl (fun _ => by kernel_rfl)) ?_
  refine sV (v_build (cells := deed 90 true false) rfl (fun _ => by kernel_rfl)) ?_
  refine sV (v_build (cells := deed 91 true true) rfl (fun _ => by kernel_rfl)) ?_
  refine sV (v_build (cells := deed 92 false false) rfl (fun _ => by kernel_rfl)) ?_
  refine sV (v_build (cells := deed 93 false false) rfl (fun _ => by kernel_rfl)) ?_
  refine sV (v_build (cells := deed 94 false false) rfl (fun _ => by kernel_rfl)) ?_
  refine sV (v_build (cells := deedL) rfl (fun _ => by kernel_rfl)) ?_
  refine st_stoW rfl rfl sz121 rfl rfl ?_
  refine sN (nK [0] rfl (nT (cT ?_)))
  exact xt_retV (.cellN rfl ld121 rfl (by repeat (first | exact Sel.here | apply Sel.there)) .nil) ⟨rfl, rfl⟩ (by repeat (first | exact Sub.refl _ | exact Sub.nil _ | refine Sub.sel (by repeat (first | exact Sel.here | apply Sel.there)) ?_ | apply Sub.cons))
theorem deedL_at {j : Nat} (h1 : 1 ≤ j) (h9 : j ≤ 9) : deedL[3 * j]? = some (.func (.func (85 + j)) #[] #[]) ∧ deedL[3 * j + 1]? = some (.bool (rootA j)) ∧ deedL[3 * j + 2]? = some (.bool (rootB j)) := by
  have : ∀ j : Fin 10, 1 ≤ j.val → deedL[3 * j.val]? = some (.func (.func (85 + j.val)) #[] #[]) ∧ deedL[3 * j.val + 1]? = some (.bool (rootA (j.val : Nat))) ∧ deedL[3 * j.val + 2]? = some (.bool (rootB (j.val : Nat))) := by
    intro j hj
    match j with
    | ⟨0, _⟩ => simp at hj
    | ⟨1, _⟩ => exact ⟨rfl, rfl, rfl⟩
    | ⟨2, _⟩ => exact ⟨rfl, rfl, rfl⟩
    | ⟨3, _⟩ => exact ⟨rfl, rfl, rfl⟩
    | ⟨4, _⟩ => exact ⟨rfl, rfl, rfl⟩
    | ⟨5, _⟩ => exact ⟨rfl, rfl, rfl⟩
    | ⟨6, _⟩ => exact ⟨rfl, rfl, rfl⟩
    | ⟨7, _⟩ => exact ⟨rfl, rfl, rfl⟩
    | ⟨8, _⟩ => exact ⟨rfl, rfl, rfl⟩
    | ⟨9, _⟩ => exact ⟨rfl, rfl, rfl⟩
  exact this ⟨j, by omega⟩ h1
section
variable {L : MemL} {μ : Mem} {S : Res} {m : AM} {ly ln lf : List Int} {φ : Int → Option Nat} {A : Store} {r : List Int} {rv : Value} {pb : Nat} {en : Bool} {k a b c : Int}
theorem en_deed {j : Nat} (h1 : 1 ≤ j) (h9 : j ≤ 9) : Enters Tryz.prog (85 + j) := by
  have : j = 1 ∨ j = 2 ∨ j = 3 ∨ j = 4 ∨ j = 5 ∨ j = 6 ∨ j = 7 ∨ j = 8 ∨ j = 9 := by omega
  rcases this with rfl | rfl | rfl | rfl | rfl | rfl | rfl | rfl | rfl
  · exact en86
  · exact en87
  · exact en88
  · exact en89
  · exact en90
  · exact en91
  · exact en92
  · exact en93
  · exact en94
set_option maxRecDepth 100000 in
theorem deed_c (I : MI L μ S m) (h : AM.Good m ly ln lf φ A) (hrl : r.length ≤ 1000000) (ha64 : I64 a) {j : Nat} (h1 : 1 ≤ j) (h9 : j ≤ 9) (hk : k = j) (hac : ((rootA k && oob a r) || (rootB k && oob b r)) = false) :
    Ct Tryz.prog (85 + j) #[.pointer (some ⟨pb, 0, none⟩), .agg #[.int .i64 k, .int .i64 a, .int .i64 b, .int .i64 c]] (playSH L μ S pb rv r en) (Acted L S pb en (AM.act en m r ⟨k, a, b, c⟩)) := by
  unfold AM.act
  rw [if_neg (by simp; omega)]
  dsimp only
  rw [hac, if_neg (by simp)]
  subst hk
  simp only [Bool.or_eq_false_iff] at hac
  have : j = 1 ∨ j = 2 ∨ j = 3 ∨ j = 4 ∨ j = 5 ∨ j = 6 ∨ j = 7 ∨ j = 8 ∨ j = 9 := by omega
  rcases this with rfl | rfl | rfl | rfl | rfl | rfl | rfl | rfl | rfl
  · exact fresh_c I h hrl (by simpa [rootA] using hac.1)
  · exact pget_c I h (by simpa [rootA] using hac.1) (by simpa [rootB] using hac.2)
  · exact pset_c I h (by simpa [rootA] using hac.1) (by simpa [rootB] using hac.2)
  · exact pput_c I h (by simpa [rootA] using hac.1) trivial
  · exact drop_c I (by simpa [rootA] using hac.1)
  · exact copied_c I (by simpa [rootA] using hac.1) (by simpa [rootB] using hac.2)
  · exact pclear_c I h hrl
  · exact pflip_c I h hrl
  · exact plook_c I h ha64
set_option maxHeartbeats 2000000 in
set_option maxRecDepth 100000 in
theorem act_c (I : MI L μ S m) (h : AM.Good m ly ln lf φ A) (hrl : r.length ≤ 1000000) (ha64 : I64 a) : Ct Tryz.prog 27 #[.pointer (some ⟨pb, 0, none⟩), .agg #[.int .i64 k, .int .i64 a, .int .i64 b, .int .i64 c]] (playSH L μ S pb rv r en) (Acted L S pb en (AM.act en m r ⟨k, a, b, c⟩)) := by
  have hdc := fun {j : Nat} h1 h9 hk hac => deed_c (pb := pb) (rv := rv) (en := en) (k := k) (a := a) (b := b) (c := c) (j := j) I h hrl ha64 h1 h9 hk hac
  unfold playSH memSH plR at hdc
  unfold playSH memSH plR
  refine ct_of (n := 61) Tryz.func27 rfl rfl (len rfl) fun hr w0 => ?_
  refine cd_vecshape (v := rv) (E := 3) (sz := 1) (n := r.length) (l := ints r) (by repeat (first | exact Sel.here | apply Sel.there)) fun ra rcp hrv hra => ?_
  simp only [List.cons_append, List.nil_append] at hdc ⊢
  refine cS (cR (st_bx rfl rfl fun b3 => ?_))
  refine sV (vA rfl) (sN (nK [0, 3, 4] rfl (nT (cS (cR (st_cl rfl rfl en61 rfl (deeds_ct) ?_))))))
  rintro v' h' ⟨rfl, rfl⟩
  simp only [List.nil_append]
  refine st_alc al121 fun b5 => ?_
  refine st_stoW rfl rfl sz121 rfl rfl ?_
  refine sN (nK [0, 3, 4, 5] rfl (nT (cS (cS (cR (sV (vF rfl fa71_0 rfl) (sV (vL rfl ld3) ?_)))))))
  refine sV (v_lss rfl rfl) (sV (vM rfl) (st_cut (k := 8) (d := 15) (v := .bool (decide (k < 1) || decide (9 < k))) (fun hcut => bool_want (b := decide (k < 1)) false (fun hg => ?_) (fun hg => ?_)) ?_))
  · refine st_sk rfl rfl hg ?_
    refine st_sk rfl rfl hg ?_
    refine st_sk rfl rfl hg ?_
    refine sV (v_pick_true (bool_ev rfl hg) rfl) ?_
    exact hcut _ (ssub_head (by first | rfl | (rw [hg]; rfl) | simp_all) (uS rfl (uS rfl (uS rfl (ssub_refl)))))
  · skip
    refine st_vg rfl (bG rfl hg) (vF rfl fa71_0 rfl) (st_vg rfl (bG rfl hg) (vL rfl ld3) ?_)
    refine st_vg rfl (bG rfl hg) (v_gtr rfl rfl) (sV (vP (bool_ev rfl hg) rfl) ?_)
    exact hcut _ (ssub_head (by first | rfl | (rw [hg]; rfl) | simp_all) (uS rfl (uS rfl (uS rfl (ssub_refl)))))
  refine sN (nK [0, 3, 4, 5, 15] rfl (nT (cC rfl (fun hc => ?_) (fun hc => ?_))))
  · skip
    refine cS (cR (sV (vA rfl) (sN (nK [0, 3, 4, 5] rfl (nT (cT (xR ?_)))))))
    rw [show AM.act en m r ⟨k, a, b, c⟩ = (1, m, r) by unfold AM.act; rw [if_pos hc]]
    refine xt_rt rfl ⟨L, μ, rv, rfl, I, rfl, rfl⟩ ?_
    unfold playSH memSH plR
    simp only [List.cons_append, List.nil_append]
    exact (by repeat (first | exact Sub.refl _ | exact Sub.nil _ | refine Sub.sel (by repeat (first | exact Sel.here | apply Sel.there)) ?_ | apply Sub.cons))
  · skip
    have hc0 := hc
    simp only [Bool.or_eq_false_iff, decide_eq_false_iff_not, Int.not_lt] at hc
    obtain ⟨j, hj⟩ : ∃ j : Nat, k = j := ⟨k.toNat, by omega⟩
    have h1 : 1 ≤ j := by omega
    have h9 : j ≤ 9 := by omega
    obtain ⟨q0, q1, q2⟩ := deedL_at h1 h9
    refine cK (xT (cS (cR (sV (vF rfl fa71_0 rfl) (sV (vL rfl ld3) ?_)))))
    have hq : ∀ i (hi : i < 3), deedL[0 + j * 3 + i]? = some (([.func (.func (85 + j)) #[] #[], .bool (rootA j), .bool (rootB j)] : List Value)[i]) := fun i hi => by
      match i, hi with
      | 0, _ => rw [show 0 + j * 3 + 0 = 3 * j by omega, q0]; rfl
      | 1, _ => rw [show 0 + j * 3 + 1 = 3 * j + 1 by omega, q1]; rfl
      | 2, _ => rw [show 0 + j * 3 + 2 = 3 * j + 2 by omega, q2]; rfl
    refine sV (v_ixArrN (k := j) rfl rfl Tryz.underlying121 sz120 hj (by omega)) (sV (v_loadR (vs := [.func (.func (85 + j)) #[] #[], .bool (rootA j), .bool (rootB j)]) rfl ld120 rfl (by repeat (first | exact Sel.here | apply Sel.there)) (fun i hi => rd_cl (hq i hi))) ?_)
    refine st_alc al120 fun b6 => ?_
    refine st_stoW rfl rfl sz120 rfl rfl ?_
    refine sN (nK [0, 3, 4, 6] rfl (nT (cS (cS (cd_drawh (ork [(0, 2), (1, 1), (2, 2), (3, 2), (4, 1), (5, 2), (6, 2), (7, 2), (8, 1), (9, 2), (10, 2), (11, 2), (12, 1), (13, 2), (14, 2), (15, 2), (16, 2), (17, 2), (18, 2), (19, 1), (20, 2), (21, 2), (22, 1), (23, 2), (24, 2), (25, 2), (26, 1), (27, 2), (28, 2), (29, 2), (30, 1), (31, 2), (32, 2), (33, 2), (34, 2), (35, 2)] .nil) (fun _ => true) mixed (by kernel_rfl) ?_)))))
    refine dV rfl (vF rfl fa120_1 rfl) (dr_v rfl (vL rfl ld4) ?_)
    refine dV rfl (vM rfl) (dr_cut (k := 14) (d := 36) (v := .bool (rootA j && (decide (a < 0) || decide ((r.length : Int) ≤ a)))) (fun hcut => bool_want (b := rootA j) true (fun hg => ?_) (fun hg => ?_)) ?_)
    · refine dp_sk rfl rfl rfl hg ?_
      refine dr_sk rfl rfl rfl hg ?_
      refine dp_sk rfl rfl rfl hg ?_
      refine dp_sk rfl rfl rfl hg ?_
      refine dp_sku rfl rfl rfl ?_
      refine dr_sku rfl rfl rfl ?_
      refine dp_sku rfl rfl rfl ?_
      refine dp_sku rfl rfl rfl ?_
      refine dp_sku rfl rfl rfl ?_
      refine dr_sku rfl rfl rfl ?_
      refine dp_sku rfl rfl rfl ?_
      refine dp_sku rfl rfl rfl ?_
      refine dp_sk rfl rfl rfl hg ?_
      refine dV rfl (vP (bool_ev rfl hg) rfl) ?_
      exact hcut _ (ssub_head (by first | rfl | (rw [hg]; rfl) | simp_all) (uS rfl (uS rfl (uS rfl (uS rfl (uS rfl (uS rfl (uS rfl (uS rfl (uS rfl (uS rfl (uS rfl (uS rfl (uS rfl (ssub_refl)))))))))))))))
    · skip
      refine dp_vg rfl rfl (bG rfl hg) (vF rfl fa71_1 rfl) (dr_vg rfl rfl (bG rfl hg) (vL rfl ld3) ?_)
      refine dp_vg rfl rfl (bG rfl hg) (v_lss rfl rfl) (dp_vg rfl rfl (bG rfl hg) (vM rfl) (dr_cut (k := 9) (d := 35) (v := .bool (decide (a < 0) || decide ((r.length : Int) ≤ a))) (fun hcut => bool_want (b := decide (a < 0)) false (fun hg1 => ?_) (fun hg1 => ?_)) ?_))
      · refine dp_sk rfl rfl rfl hg1 ?_
        refine dr_sk rfl rfl rfl hg1 ?_
        refine dp_sk rfl rfl rfl hg1 ?_
        refine dp_sk rfl rfl rfl hg1 ?_
        refine dp_sk rfl rfl rfl hg1 ?_
        refine dr_sk rfl rfl rfl hg1 ?_
        refine dp_sk rfl rfl rfl hg1 ?_
        refine dp_sk rfl rfl rfl hg1 ?_
        refine dp_vg rfl rfl (bG rfl hg) (v_pick_true (bool_ev rfl hg1) rfl) ?_
        exact hcut _ (ssub_head (by first | rfl | (rw [hg1]; rfl) | simp_all) (uS rfl (uS rfl (uS rfl (uS rfl (uS rfl (uS rfl (uS rfl (uS rfl (ssub_refl))))))))))
      · skip
        refine dp_vg rfl rfl (bG rfl hg1) (vF rfl fa71_1 rfl) (dr_vg rfl rfl (bG rfl hg1) (vL rfl ld3) ?_)
        refine dp_vg rfl rfl (bG rfl hg1) (vM rfl) (dp_vg rfl rfl (bG rfl hg1) (vN rfl) (dp_vg rfl rfl (bG rfl hg1) (vF rfl fa69_1 rfl) (dr_vg rfl rfl (bG rfl hg1) (vL rfl ld27) ?_)))
        refine dp_vg rfl rfl (bG rfl hg1) (v_len (congrArg some hrv) Tryz.underlying27) (dp_vg rfl rfl (bG rfl hg1) (v_geq rfl rfl) (dp_vg rfl rfl (bG rfl hg) (vP (bool_ev rfl hg1) rfl) ?_))
        exact hcut _ (ssub_head (by first | rfl | (rw [hg1]; rfl) | simp_all) (uS rfl (uS rfl (uS rfl (uS rfl (uS rfl (uS rfl (uS rfl (uS rfl (ssub_refl))))))))))
      refine dV rfl (v_pick_true (bool_ev rfl hg) rfl) ?_
      exact hcut _ (ssub_head (by first | rfl | (rw [hg]; rfl) | simp_all) (by repeat (first | exact ssub_refl | refine uS rfl ?_)))
    refine dV rfl (vM rfl) (dr_cut (k := 18) (d := 55) (v := .bool ((rootA j && (decide (a < 0) || decide ((r.length : Int) ≤ a))) || (rootB j && (decide (b < 0) || decide ((r.length : Int) ≤ b))))) (fun hcut => bool_want (b := (rootA j && (decide (a < 0) || decide ((r.length : Int) ≤ a)))) false (fun hg => ?_) (fun hg => ?_)) ?_)
    · refine dp_sk rfl rfl rfl hg ?_
      refine dr_sk rfl rfl rfl hg ?_
      refine dp_sk rfl rfl rfl hg ?_
      refine dp_sku rfl rfl rfl ?_
      refine dr_sku rfl rfl rfl ?_
      refine dp_sku rfl rfl rfl ?_
      refine dp_sku rfl rfl rfl ?_
      refine dp_sku rfl rfl rfl ?_
      refine dr_sku rfl rfl rfl ?_
      refine dp_sku rfl rfl rfl ?_
      refine dp_sku rfl rfl rfl ?_
      refine dp_sku rfl rfl rfl ?_
      refine dr_sku rfl rfl rfl ?_
      refine dp_sku rfl rfl rfl ?_
      refine dp_sku rfl rfl rfl ?_
      refine dp_sku rfl rfl rfl ?_
      refine dp_sk rfl rfl rfl hg ?_
      refine dV rfl (v_pick_true (bool_ev rfl hg) rfl) ?_
      exact hcut _ (ssub_head (by first | rfl | (rw [hg]; rfl) | simp_all) (uS rfl (uS rfl (uS rfl (uS rfl (uS rfl (uS rfl (uS rfl (uS rfl (uS rfl (uS rfl (uS rfl (uS rfl (uS rfl (uS rfl (uS rfl (uS rfl (uS rfl (ssub_refl)))))))))))))))))))
    · skip
      refine dp_vg rfl rfl (bG rfl hg) (vF rfl fa120_2 rfl) (dr_vg rfl rfl (bG rfl hg) (vL rfl ld4) ?_)
      refine dp_vg rfl rfl (bG rfl hg) (vM rfl) (dr_cut (k := 14) (d := 54) (v := .bool (rootB j && (decide (b < 0) || decide ((r.length : Int) ≤ b)))) (fun hcut => bool_want (b := rootB j) true (fun hg1 => ?_) (fun hg1 => ?_)) ?_)
      · refine dp_sk rfl rfl rfl hg1 ?_
        refine dr_sk rfl rfl rfl hg1 ?_
        refine dp_sk rfl rfl rfl hg1 ?_
        refine dp_sk rfl rfl rfl hg1 ?_
        refine dp_sku rfl rfl rfl ?_
        refine dr_sku rfl rfl rfl ?_
        refine dp_sku rfl rfl rfl ?_
        refine dp_sku rfl rfl rfl ?_
        refine dp_sku rfl rfl rfl ?_
        refine dr_sku rfl rfl rfl ?_
        refine dp_sku rfl rfl rfl ?_
        refine dp_sku rfl rfl rfl ?_
        refine dp_sk rfl rfl rfl hg1 ?_
        refine dp_vg rfl rfl (bG rfl hg) (vP (bool_ev rfl hg1) rfl) ?_
        exact hcut _ (ssub_head (by first | rfl | (rw [hg1]; rfl) | simp_all) (uS rfl (uS rfl (uS rfl (uS rfl (uS rfl (uS rfl (uS rfl (uS rfl (uS rfl (uS rfl (uS rfl (uS rfl (uS rfl (ssub_refl)))))))))))))))
      · skip
        refine dp_vg rfl rfl (bG rfl hg1) (vF rfl fa71_2 rfl) (dr_vg rfl rfl (bG rfl hg1) (vL rfl ld3) ?_)
        refine dp_vg rfl rfl (bG rfl hg1) (v_lss rfl rfl) (dp_vg rfl rfl (bG rfl hg1) (vM rfl) (dr_cut (k := 9) (d := 53) (v := .bool (decide (b < 0) || decide ((r.length : Int) ≤ b))) (fun hcut => bool_want (b := decide (b < 0)) false (fun hg2 => ?_) (fun hg2 => ?_)) ?_))
        · refine dp_sk rfl rfl rfl hg2 ?_
          refine dr_sk rfl rfl rfl hg2 ?_
          refine dp_sk rfl rfl rfl hg2 ?_
          refine dp_sk rfl rfl rfl hg2 ?_
          refine dp_sk rfl rfl rfl hg2 ?_
          refine dr_sk rfl rfl rfl hg2 ?_
          refine dp_sk rfl rfl rfl hg2 ?_
          refine dp_sk rfl rfl rfl hg2 ?_
          refine dp_vg rfl rfl (bG rfl hg1) (v_pick_true (bool_ev rfl hg2) rfl) ?_
          exact hcut _ (ssub_head (by first | rfl | (rw [hg2]; rfl) | simp_all) (uS rfl (uS rfl (uS rfl (uS rfl (uS rfl (uS rfl (uS rfl (uS rfl (ssub_refl))))))))))
        · skip
          refine dp_vg rfl rfl (bG rfl hg2) (vF rfl fa71_2 rfl) (dr_vg rfl rfl (bG rfl hg2) (vL rfl ld3) ?_)
          refine dp_vg rfl rfl (bG rfl hg2) (vM rfl) (dp_vg rfl rfl (bG rfl hg2) (vN rfl) (dp_vg rfl rfl (bG rfl hg2) (vF rfl fa69_1 rfl) (dr_vg rfl rfl (bG rfl hg2) (vL rfl ld27) ?_)))
          refine dp_vg rfl rfl (bG rfl hg2) (v_len (congrArg some hrv) Tryz.underlying27) (dp_vg rfl rfl (bG rfl hg2) (v_geq rfl rfl) (dp_vg rfl rfl (bG rfl hg1) (vP (bool_ev rfl hg2) rfl) ?_))
          exact hcut _ (ssub_head (by first | rfl | (rw [hg2]; rfl) | simp_all) (uS rfl (uS rfl (uS rfl (uS rfl (uS rfl (uS rfl (uS rfl (uS rfl (ssub_refl))))))))))
        refine dp_vg rfl rfl (bG rfl hg) (v_pick_true (bool_ev rfl hg1) rfl) ?_
        exact hcut _ (ssub_head (by first | rfl | (rw [hg1]; rfl) | simp_all) (by repeat (first | exact ssub_refl | refine uS rfl ?_)))
      refine dV rfl (vP (bool_ev rfl hg) rfl) ?_
      exact hcut _ (ssub_head (by first | rfl | (rw [hg]; rfl) | simp_all) (by repeat (first | exact ssub_refl | refine uS rfl ?_)))
    refine dr_nil (nK [0, 3, 4, 6, 55] rfl (nT (cC rfl (fun hd => ?_) (fun hd => ?_))))
    · skip
      have hd' : ((rootA k && oob a r) || (rootB k && oob b r)) = true := by rw [hj]; exact hd
      refine cS (cR (sV (vA rfl) (sN (nK [0, 3, 4, 6] rfl (nT (cT (xR ?_)))))))
      rw [show AM.act en m r ⟨k, a, b, c⟩ = (1, m, r) by unfold AM.act; rw [if_neg (by rw [hc0]; simp)]; dsimp only; rw [if_pos hd']]
      refine xt_rt rfl ⟨L, μ, rv, rfl, I, rfl, rfl⟩ ?_
      unfold playSH memSH plR
      simp only [List.cons_append, List.nil_append]
      exact (by repeat (first | exact Sub.refl _ | exact Sub.nil _ | refine Sub.sel (by repeat (first | exact Sel.here | apply Sel.there)) ?_ | apply Sub.cons))
    · skip
      have hd' : ((rootA k && oob a r) || (rootB k && oob b r)) = false := by rw [hj]; exact hd
      refine cK (xT (cS (cR (sV (vF rfl fa120_0 rfl) (sV (vL rfl ld118) ?_)))))
      refine sV (vM rfl) (sV (v_loadW rfl ld71 rfl (by repeat (first | exact Sel.here | apply Sel.there))) ?_)
      have hen := en_deed h1 h9
      refine st_cl rfl rfl hen rfl (hdc h1 h9 hj hd') ?_
      rintro v' h' ⟨L1, μ1, rv1, rfl, I1, hL1, rfl⟩
      refine sV (vA rfl) (sN (nK [4] rfl (nT (cT (xt_rt rfl ⟨L1, μ1, rv1, rfl, I1, hL1, rfl⟩ ?_)))))
      unfold playSH memSH plR
      simp only [List.cons_append, List.nil_append]
      exact (by repeat (first | exact Sub.refl _ | exact Sub.nil _ | refine Sub.sel (by repeat (first | exact Sel.here | apply Sel.there)) ?_ | apply Sub.cons))
end
end Go.Proofs.YtmhmpjgkkpbnnaaGreat
namespace Go.Hm.AM
theorem clr_len {en : Bool} {m : AM} {r : List Int} : (clr en m r).2.2.length = r.length := by
  unfold clr
  split
  · rfl
  · simp only
    split
    · rename_i h
      unfold AM.minor at h ⊢
      split
      · rename_i h1; rw [if_pos h1] at h; exact absurd h h1
      · exact fwdL_len true r m
    · rfl
theorem flp_len {en : Bool} {m : AM} {r : List Int} : (flp en m r).2.2.length = r.length := by
  unfold flp
  split
  · rfl
  · simp only
    split
    · rename_i h
      unfold AM.flip at h ⊢
      split
      · rename_i h1; rw [if_pos h1] at h; simp at h
      · rename_i h1
        rw [if_neg h1] at h
        simp only at h ⊢
        split
        · rename_i h2; rw [if_pos h2] at h; exact absurd h h2
        · rw [fwdL_len]
          rename_i h2
          unfold AM.minor at h2 ⊢
          split
          · rename_i h3; rw [if_pos h3] at h2; exact absurd h3 h2
          · exact fwdL_len true r m
    · rfl
theorem newAt_len {m : AM} {r : List Int} {x : Act} : (newAt m r x).2.2.length = r.length := by
  unfold newAt; simp only; split
  · exact List.length_set
  · rfl
theorem act_len (en : Bool) (m : AM) (r : List Int) (x : Act) : (act en m r x).2.2.length = r.length := by
  unfold act
  split; rfl
  split; rfl
  split
  · unfold fresh
    split; rfl
    split
    · split
      · exact clr_len
      · exact newAt_len.trans clr_len
    · exact newAt_len
  split
  · unfold getA
    split; rfl
    simp only; split
    · exact List.length_set
    · rfl
  split
  · unfold setA; split <;> rfl
  split
  · unfold putA; split <;> rfl
  split; exact List.length_set
  split; exact List.length_set
  split; exact clr_len
  split; exact flp_len
  unfold lok; split <;> rfl
theorem acts_len (en : Bool) : ∀ (l : List Act) (m : AM) (r : List Int), (acts en l m r).2.2.length = r.length
  | [], _, _ => rfl
  | x :: t, m, r => (acts_len en t _ _).trans (act_len en m r x)
theorem acts_errs (en : Bool) : ∀ (l : List Act) (m : AM) (r : List Int), (acts en l m r).1.length = l.length
  | [], _, _ => rfl
  | x :: t, m, r => congrArg (· + 1) (acts_errs en t _ _)
end Go.Hm.AM
namespace Go.Proofs.YtmhmpjgkkpbnnaaGreat
open Go.Ck Fx Go.Hm Go.Hm.AM
theorem Fine.clr {m : AM} (h : Fine m) (en : Bool) (r : List Int) : Fine (clr en m r).2.1 := by
  unfold AM.clr; split
  · exact h
  · exact h.minor r
theorem Fine.newAt {m : AM} (h : Fine m) (r : List Int) (x : Go.Hm.Act) : Fine (newAt m r x).2.1 := h.alloc x.b
theorem Fine.act {m : AM} (h : Fine m) (en : Bool) (r : List Int) (x : Go.Hm.Act) : Fine (AM.act en m r x).2.1 := by
  unfold AM.act
  split; exact h
  split; exact h
  split
  · unfold AM.fresh
    split; exact h
    split
    · split
      · exact h.clr en r
      · exact (h.clr en r).newAt _ x
    · exact h.newAt r x
  split
  · unfold AM.getA; split
    · exact h
    · exact h.get _ _
  split
  · unfold AM.setA; split
    · exact h
    · exact h.set _ _ _
  split
  · unfold AM.putA; split
    · exact h
    · exact h.set _ _ _
  split; exact h
  split; exact h
  split; exact h.clr en r
  split
  · unfold AM.flp; split
    · exact h
    · exact h.flip r
  unfold AM.lok; split
  · exact h
  · exact h.step x.a
theorem Fine.acts (en : Bool) : ∀ (l : List Go.Hm.Act) {m : AM}, Fine m → (r : List Int) → Fine (AM.acts en l m r).2.1
  | [], _, h, _ => h
  | x :: t, _, h, r => Fine.acts en t (h.act en r x) _
attribute [local irreducible] St Cd Xt Nx DrL LsW
section
variable {R : Res} {v0 v4 : Value} {sh : List (List Bool)} {xs : List Go.Hm.Act} {half young n : Int}
def ActsV (r : Res) (v : Value) (xs : List Go.Hm.Act) : Prop := ∃ a cp, v = .slice a xs.length cp ∧ (xs = [] ∨ ∃ b o, a = some ⟨b, o, none⟩ ∧ ∀ i (h : i < xs.length), Rds r b (o + i * 4) [.int .i64 xs[i].k, .int .i64 xs[i].a, .int .i64 xs[i].b, .int .i64 xs[i].c])
theorem ActsV.at {r : Res} {v : Value} {xs : List Go.Hm.Act} (h : ActsV r v xs) {i : Nat} (hi : i < xs.length) : ∃ b o cp, v = .slice (some ⟨b, o, none⟩) xs.length cp ∧ Rds r b (o + i * 4) [.int .i64 xs[i].k, .int .i64 xs[i].a, .int .i64 xs[i].b, .int .i64 xs[i].c] := by
  obtain ⟨a, cp, hv, hn⟩ := h
  rcases hn with e | ⟨b, o, ha, hr⟩
  · rw [e] at hi; simp at hi
  exact ⟨b, o, cp, by rw [hv, ha], hr i hi⟩
def playedErr (n : Int) (xs : List Go.Hm.Act) : Int := if decide (200 < n) || decide (2000 < (xs.length : Int)) then 3 else if n < 0 then 1 else 0
set_option maxRecDepth 100000 in
theorem played_ct (h : ActsV R v4 xs) : Reads Tryz.prog 26 #[.int .i64 n, v4] [R] (.int .i64 (playedErr n xs)) := by
  obtain ⟨a, cp, hv, _⟩ := id h
  unfold playedErr
  refine ct_of (n := 14) Tryz.func26 rfl rfl (len rfl) fun hr w0 => ?_
  refine cS (cR (sV (vA rfl) (sN (nT (cS (cd_block (cS (cS (cR (sV (vM rfl) (sV (v_gtr rfl rfl) (sV (vA rfl) (sN (nK [0, 1, 4, 5] rfl (nT (cC rfl (fun hA => ?_) (fun hA => ?_)))))))))))))))))
  · skip
    rw [hA, Bool.true_or, if_pos rfl]
    refine cK (xT (cd_true rfl ?_))
    refine cS (cR (sV (vA rfl) (sN (nK [4] rfl (nT (cT (xt_ret_block (xR ?_))))))))
    exact xt_rt rfl ⟨rfl, rfl⟩
  · skip
    rw [hA, Bool.false_or]
    refine cR (sV (vM rfl) (sV (v_len (congrArg some hv) Tryz.underlying23) (sV (v_gtr rfl rfl) (sV (vA rfl) (sN (nK [0, 4, 5] rfl (nT (cC rfl (fun hB => ?_) (fun hB => ?_)))))))))
    · skip
      rw [if_pos hB]
      refine cS (cR (sV (vA rfl) (sN (nK [4] rfl (nT (cT (xt_ret_block (xR ?_))))))))
      exact xt_rt rfl ⟨rfl, rfl⟩
    · skip
      rw [if_neg (by rw [hB]; simp)]
      refine cS (cR (sV (vM rfl) (sV (v_lss rfl rfl) (sV (vA rfl) (sN (nK [4, 11] rfl (nT (cC rfl (fun hC => ?_) (fun hC => ?_)))))))))
      · skip
        rw [if_pos (of_decide_eq_true hC)]
        refine cS (cR (sV (vA rfl) (sN (nK [4] rfl (nT (cT (xt_ret_block (xR ?_))))))))
        exact xt_rt rfl ⟨rfl, rfl⟩
      · skip
        rw [if_neg (of_decide_eq_false hC)]
        refine cK (xB (xT (cS (cR (sV (vA rfl) (sN (nK [4] rfl (nT (cT ?_)))))))))
        exact xt_rt rfl ⟨rfl, rfl⟩
end
end Go.Proofs.YtmhmpjgkkpbnnaaGreat
namespace Go.Proofs.YtmhmpjgkkpbnnaaGreat
open Go Go.RowKit Go.ChangeShapes Go.WideShapes Go.Ck
def actTy : Ty := .struct [.int .i64, .int .i64, .int .i64, .int .i64]
def actOf (x : actTy.D) : Go.Hm.Act := ⟨x.1, x.2.1, x.2.2.1, x.2.2.2.1⟩
theorem acts_of {r : Res} {v : Value} {y : (Ty.slice actTy).D} (h : Rep r (.slice actTy) [v] y) : ActsV r v ((show List actTy.D from y).map actOf) ∧ ∀ x ∈ (show List actTy.D from y).map actOf, I64 x.a := by
  unfold Rep at h
  obtain ⟨a, cap, h1, hl, hm, _, h2⟩ := h
  have one : ∀ (us : List Value) (x : actTy.D), Rep r actTy us x → us = [.int .i64 (actOf x).k, .int .i64 (actOf x).a, .int .i64 (actOf x).b, .int .i64 (actOf x).c] ∧ I64 (actOf x).a := fun us x hx => by
    obtain ⟨x1, x2, x3, x4, x5⟩ := x
    simp only [actTy, Rep, Reps] at hx
    obtain ⟨u1, us1, e1, l1, r1, u2, us2, e2, l2, r2, u3, us3, e3, l3, r3, u4, us4, e4, l4, r4, r5⟩ := hx
    obtain ⟨rfl, _⟩ := r1
    obtain ⟨rfl, w2⟩ := r2
    obtain ⟨rfl, _⟩ := r3
    obtain ⟨rfl, _⟩ := r4
    subst r5 e4 e3 e2
    exact ⟨by rw [e1]; rfl, wf_I64' w2⟩
  refine ⟨⟨a, cap, by rw [List.length_map]; exact (List.cons.inj h1).1, h2.imp (fun e => by rw [show (show List actTy.D from y) = [] from e]; rfl) ?_⟩, fun x hx => ?_⟩
  · rintro ⟨b, o, h3, h4⟩
    refine ⟨b, o, h3, fun i hi => ?_⟩
    have hi' : i < (show List actTy.D from y).length := by rw [List.length_map] at hi; exact hi
    obtain ⟨us, h5, h6, h7⟩ := h4 i _ (List.getElem?_eq_getElem hi')
    obtain ⟨h8, _⟩ := one us _ h7
    rw [List.getElem_map, ← h8]
    exact h6
  · obtain ⟨z, hz, rfl⟩ := List.mem_map.1 hx
    rcases h2 with h0 | ⟨b, o, h3, h4⟩
    · rw [show (show List actTy.D from y) = [] from h0] at hz; cases hz
    · obtain ⟨i, hi, rfl⟩ := List.getElem_of_mem hz
      obtain ⟨us, h5, h6, h7⟩ := h4 i _ (List.getElem?_eq_getElem hi)
      exact (one us _ h7).2
end Go.Proofs.YtmhmpjgkkpbnnaaGreat
namespace Go.Ck
open Go
section
variable {P : Program} {e : Env} {h h' : SH} {ty : TypeId}
theorem v_neq_self {t t' : TypeId} {x y : Operand} {k : IntKind} {a : Int} (hx : e.ev? x = some (.int k a)) (hy : e.ev? y = some (.int k a)) : Vop P e h (.binOp .neq t x y t') ty (.bool false) := by
  have := v_neq (P := P) (h := h) (ty := ty) (t := t) (t' := t') hx hy
  rwa [bne_self_eq_false] at this
theorem v_neqb_self {T t' : TypeId} {x y : Operand} {a : Bool} (hT : P.underlying T = some .bool) (hx : e.ev? x = some (.bool a)) (hy : e.ev? y = some (.bool a)) : Vop P e h (.binOp .neq T x y t') ty (.bool false) := by
  have := v_neq_bool (P := P) (h := h) (ty := ty) (t' := t') hT hx hy
  rwa [beq_self_eq_true] at this
theorem rds_pre {b : Nat} {vs ws : List Value} {E : TypeId} : Rds (pt b (cl (vs ++ ws) E)) b 0 vs := fun i hi => rd_cl (by rw [Nat.zero_add, List.getElem?_append_left hi, List.getElem?_eq_getElem hi])
end
section
variable {c : Cx} {x : Code} {ex : Exit} {Q : Exit → Act → World → Prop} {e : Env} {h h' k : SH}
end
end Go.Ck
namespace Go.Proofs.YtmhmpjgkkpbnnaaGreat
open Go.Ck Fx Go.Hm Go.Hm.AM
theorem pictured_sz {m : AM} (h : Fine m) {roots : List Int} (hr : roots.length ≤ 1000000) : PicSz (m.pictured roots).1 := by
  obtain ⟨ly, ln, lf, φ, A, g⟩ := h
  unfold AM.pictured
  by_cases hro : m.rooted roots ≠ 0
  · rw [if_pos hro]; exact ⟨Nat.zero_le _, Nat.zero_le _, Nat.zero_le _, fun x hx => by cases hx⟩
  · rw [if_neg hro]
    have hro : m.rooted roots = 0 := by simpa using hro
    have hp : PM (AM.Obj ly ln lf) (roots.foldl pmeet []) := PM.meets _ PM.nil (g.root_obj hro)
    obtain ⟨hM, _⟩ := met_pm g hp
    have hl := g.g.pm_len hM
    have hT := g.g.T_le
    obtain ⟨p1, p2, p3⟩ := pic_parts m roots
    refine ⟨by rw [p1, List.length_map]; omega, by rw [p3, List.length_map]; omega, by rw [p2, List.length_map]; omega, fun x hx => ?_⟩
    rw [p2] at hx
    obtain ⟨t, ht, rfl⟩ := List.mem_map.1 hx
    rw [prow_len]
    have := (ob_obj g.g (hM.s t ht)).len g.g.sz
    omega
theorem PicV.star {k k' : SH} {r : Res} {sv fv rv : Value} {p : Pic} (s : Sel k r k') (h : PicV r sv fv rv p) : PicV (Res.star k) sv fv rv p := by
  refine ⟨h.ps.star s, h.pr.star s, ?_⟩
  obtain ⟨a, cp, h1, h2 | ⟨b, o, h3, h4⟩⟩ := h.pf
  · exact ⟨a, cp, h1, .inl h2⟩
  · exact ⟨a, cp, h1, .inr ⟨b, o, h3, fun i hi => by
      obtain ⟨u, g1, g2⟩ := h4 i hi
      exact ⟨u, rd_star s g1, g2.star s⟩⟩⟩
theorem samePic_self (p : Pic) : samePic p p = true := by unfold samePic; simp
theorem rowI_vecE {E : TypeId} {v : Value} {n : Nat} {l : List Int} {a : Option Addr} {cp : Nat} (hv : v = .slice a n cp) (ha : 0 < n → ∃ b, a = some ⟨b, 0, none⟩) (hn : l.length = n) : RowI (vec v E 1 n (ints l)) v l := by
  subst hn
  refine ⟨a, cp, hv, ?_⟩
  by_cases h0 : l.length = 0
  · exact .inl (List.eq_nil_of_length_eq_zero h0)
  · obtain ⟨b, rfl⟩ := ha (by omega)
    exact .inr ⟨b, 0, rfl, fun j hj => by rw [Nat.zero_add]; exact rd_vec hv (by simp [ints, hj])⟩
theorem RowB.star {k k' : SH} {r : Res} {v : Value} {l : List Bool} (s : Sel k r k') (h : RowB r v l) : RowB (Res.star k) v l := by
  obtain ⟨a, cp, h1, h2 | ⟨b, o, h3, h4⟩⟩ := h
  · exact ⟨a, cp, h1, .inl h2⟩
  · exact ⟨a, cp, h1, .inr ⟨b, o, h3, fun i hi => rd_star s (h4 i hi)⟩⟩
theorem Shp.star {k k' : SH} {r : Res} {v : Value} {sh : List (List Bool)} (s : Sel k r k') (h : Shp r v sh) : Shp (Res.star k) v sh := by
  obtain ⟨a, cp, h1, h2 | ⟨b, o, h3, h4⟩⟩ := h
  · exact ⟨a, cp, h1, .inl h2⟩
  · exact ⟨a, cp, h1, .inr ⟨b, o, h3, fun i hi => by
      obtain ⟨u, g1, g2⟩ := h4 i hi
      exact ⟨u, rd_star s g1, g2.star s⟩⟩⟩
theorem ActsV.star {k k' : SH} {r : Res} {v : Value} {xs : List Go.Hm.Act} (s : Sel k r k') (h : ActsV r v xs) : ActsV (Res.star k) v xs := by
  obtain ⟨a, cp, h1, h2 | ⟨b, o, h3, h4⟩⟩ := h
  · exact ⟨a, cp, h1, .inl h2⟩
  · exact ⟨a, cp, h1, .inr ⟨b, o, h3, fun i hi j hj => rd_star s (h4 i hi j hj)⟩⟩
def actC (x : Go.Hm.Act) : List Value := [.int .i64 x.k, .int .i64 x.a, .int .i64 x.b, .int .i64 x.c]
def actsC (xs : List Go.Hm.Act) : List Value := xs.flatMap actC
end Go.Proofs.YtmhmpjgkkpbnnaaGreat
namespace Go.Proofs.YtmhmpjgkkpbnnaaGreat
open Go.Ck Fx Go.Hm Go.Hm.AM
attribute [local irreducible] St Cd Xt Nx DrL LsW
section
variable {R : Res} {v0 v4 : Value} {sh : List (List Bool)} {xs : List Go.Hm.Act} {half young n : Int}
def playErr (sh : List (List Bool)) (half young n : Int) (xs : List Go.Hm.Act) : Int := if newErr sh half young = 0 then playedErr n xs else newErr sh half young
structure PlS where
  i : Nat
  L : MemL
  μ : Mem
  rv : Value
  ev : Value
set_option maxHeartbeats 4000000 in
set_option maxRecDepth 100000 in
theorem play_c (hS : Shp R v0 sh) (hs0 : sh.length ≤ 1000000) (hX : ActsV R v4 xs) (ha : ∀ x ∈ xs, I64 x.a) : Ct Tryz.prog 6 #[v0, .int .i64 half, .int .i64 young, .int .i64 n, v4] [R] fun u h' =>
    (playErr sh half young n xs ≠ 0 ∧ u = .tuple #[.pointer none, .slice none 0 0, .slice none 0 0, .int .i64 (playErr sh half young n xs)] ∧ h' = [R]) ∨
    (playErr sh half young n xs = 0 ∧ newErr sh half young = 0 ∧ 0 ≤ n ∧ n ≤ 200 ∧ xs.length ≤ 2000 ∧ ∃ L μ S rv ev, u = .tuple #[.pointer (some ⟨L.mb, 0, none⟩), rv, ev, .int .i64 0] ∧
      MI L μ S (AM.acts false xs (new' sh half young) (List.replicate n.toNat 0)).2.1 ∧
      h' = memSH L μ S ++ [vec rv 3 1 (AM.acts false xs (new' sh half young) (List.replicate n.toNat 0)).2.2.length (ints (AM.acts false xs (new' sh half young) (List.replicate n.toNat 0)).2.2),
        vec ev 29 1 (AM.acts false xs (new' sh half young) (List.replicate n.toNat 0)).1.length (ints (AM.acts false xs (new' sh half young) (List.replicate n.toNat 0)).1), R]) := by
  obtain ⟨xa, xcp, hxv, _⟩ := id hX
  unfold playErr
  refine ct_of (n := 59) Tryz.func6 rfl rfl (len rfl) fun hr w0 => ?_
  simp only [List.cons_append, List.nil_append]
  refine cS (cR (sV (vA rfl) (sV (vA rfl) (sV (vA rfl) (sV (vA rfl) (sN (nT (cS (cR (sV (vM rfl) (sV (vM rfl) (sV (vM rfl) (st_cl rfl rfl en16 rfl (new_c (half := half) (young := young) hS hs0) ?_)))))))))))))
  rintro v' h' hu
  rcases hu with ⟨hne, rfl, rfl⟩ | ⟨hne, L0, μ0, S1, rfl, I0, rfl⟩
  · skip
    rw [if_neg hne]
    have hb : (newErr sh half young == 0) = false := by simpa using hne
    have hb2 : (newErr sh half young != 0) = true := by simpa using hne
    simp only [List.cons_append, List.nil_append]
    refine sV (vM rfl) (sV (v_extract rfl rfl) (sV (v_extract rfl rfl) (sV (vA rfl) (sV (vA rfl) (sN (nK [3, 4, 10, 11, 12, 13, 14, 15] rfl (nT (cS (cS (cR (sV (vM rfl) (sV (v_eql rfl rfl) (sN (nK [3, 4, 10, 11, 12, 13, 14, 15, 28] rfl (nT (cC rfl (fun hA => ?_) (fun hA => ?_)))))))))))))))))
    · skip
      exact absurd (by simpa using hA) hne
    · skip
      refine cK (xT (cS (cS (cR (sV (vM rfl) (sV (v_neq rfl rfl) (sN (nK [3, 4, 10, 11, 12, 13, 14, 15, 33] rfl (nT (cC rfl (fun hB => ?_) (fun hB => ?_)))))))))))
      · skip
        refine cS (cR (sV (vM rfl) (sV (vA rfl) (sV (vA rfl) (sV (vA rfl) (sV (vA rfl) (sN (nK [3, 4, 10, 11, 12, 13, 14] rfl (nT (cT (xR ?_)))))))))))
        exact xt_rt rfl (.inl ⟨hne, rfl, rfl⟩)
      · skip
        exact absurd (by simpa using hB) hne
  · skip
    rw [if_pos hne, hne]
    simp only [List.cons_append, List.nil_append]
    refine sV (vM rfl) (sV (v_extract rfl rfl) (sV (v_extract rfl rfl) (sV (vA rfl) (sV (vA rfl) (sN (nK [3, 4, 10, 11, 12, 13, 14, 15] rfl (nT (cS (cS (cR (sV (vM rfl) (sV (v_eql rfl rfl) (sN (nK [3, 4, 10, 11, 12, 13, 14, 15, 28] rfl (nT (cd_true rfl ?_))))))))))))))))
    refine cR (sV (vM rfl) (sV (vM rfl) (st_clr rfl rfl en26 rfl (played_ct hX) ?_)))
    refine sV (vA rfl) (sN (nK [3, 4, 10, 11, 12, 13, 14, 15] rfl (nT (cS (cS (cR (sV (vM rfl) (sV (v_neq rfl rfl) (sN (nK [3, 4, 10, 11, 12, 13, 14, 15, 33] rfl (nT (cC rfl (fun hB => ?_) (fun hB => ?_)))))))))))))
    · skip
      refine cS (cR (sV (vM rfl) (sV (vA rfl) (sV (vA rfl) (sV (vA rfl) (sV (vA rfl) (sN (nK [3, 4, 10, 11, 12, 13, 14] rfl (nT (cT (xR ?_)))))))))))
      exact xt_rt rfl (.inl ⟨by simpa using hB, rfl, rfl⟩)
    · skip
      refine cK (xT (cS (cR (sV (vM rfl) (sV (vM rfl) ?_)))))
      have hp : playedErr n xs = 0 := by simpa using hB
      have hp' := hp
      unfold playedErr at hp'
      have hq : ¬ (decide (200 < n) || decide (2000 < (xs.length : Int))) = true := fun hh => by rw [if_pos hh] at hp'; cases hp'
      rw [if_neg hq] at hp'
      have hn0 : 0 ≤ n := by
        by_cases h0 : n < 0
        · rw [if_pos h0] at hp'; cases hp'
        · omega
      simp only [Bool.or_eq_true, decide_eq_true_eq, not_or] at hq
      obtain ⟨N, rfl⟩ : ∃ N : Nat, n = N := ⟨n.toNat, by omega⟩
      rw [hp, Int.toNat_natCast]
      refine st_make (n := N) rfl rfl rfl Tryz.underlying27 inf3 rfl (by omega) (by omega) (ltn rfl) fun b1 => ?_
      refine sV (v_build (cells := [.pointer (some ⟨L0.mb, 0, none⟩), .slice (some ⟨b1, 0, none⟩) N N, .bool false]) rfl (fun _ => by kernel_rfl)) ?_
      refine st_bx rfl rfl fun b39 => ?_
      refine sV (vA rfl) (sN (nK [4, 10, 11, 12, 13, 14, 16] rfl (nT (cS (cR (sV (vA rfl) (sN (nT (cS (cS (cR (sV (vM rfl) (sV (v_len (congrArg some hxv) Tryz.underlying23) (sV (vM rfl) (sN (nK [10, 11, 12, 13, 14, 16, 17, 40, 41, 42] rfl (nT (cd_block ?_))))))))))))))))))
      have hin : (acts false (xs.take 0) (new' sh half young) (List.replicate N 0)) = ([], new' sh half young, List.replicate N 0) := rfl
      refine cd_vecnil 29 1 ?_
      refine cd_shut (v := .slice (some ⟨b1, 0, none⟩) N N) (E := 3) (sz := 1) (n := N) (l := ints (List.replicate N 0)) (l' := ints (List.replicate N 0)) (b := b1) (cp := N) (j := []) ⟨rfl, by simp [ints], Nat.le_refl _, by unfold maxLen; omega, by simp [ints]⟩ rfl (by rw [show ints (List.replicate N 0) ++ [] = List.replicate N (.int .i64 0) by simp [ints]]; exact (by repeat (first | exact Sel.here | apply Sel.there))) ?_
      simp only [List.cons_append, List.nil_append, List.append_assoc]
      refine cd_loop (σ := PlS) (fun s => [(14, .pointer (some ⟨L0.mb, 0, none⟩)), (16, .pointer (some ⟨b39, 0, none⟩)), (17, s.ev), (40, v4), (41, .int .i64 xs.length), (42, .int .i64 (s.i : Nat))]) (fun s => memSH s.L s.μ S1 ++ [plR b39 L0.mb s.rv false, vec s.rv 3 1 (acts false (xs.take s.i) (new' sh half young) (List.replicate N 0)).2.2.length (ints (acts false (xs.take s.i) (new' sh half young) (List.replicate N 0)).2.2), vec s.ev 29 1 (acts false (xs.take s.i) (new' sh half young) (List.replicate N 0)).1.length (ints (acts false (xs.take s.i) (new' sh half young) (List.replicate N 0)).1), R] ++ hr) (fun s => s.i ≤ xs.length ∧ MI s.L s.μ S1 (acts false (xs.take s.i) (new' sh half young) (List.replicate N 0)).2.1 ∧ s.L.mb = L0.mb) (fun s => xs.length - s.i) ⟨0, L0, μ0, .slice (some ⟨b1, 0, none⟩) N N, .slice none 0 0⟩ ⟨Nat.zero_le _, I0, rfl⟩ ⟨rfl, rfl, rfl, rfl, rfl, rfl, trivial⟩ (by unfold memSH plR; simp only [List.cons_append, List.nil_append, List.take_zero, acts, List.length_replicate, List.length_nil]; exact (by repeat (first | exact Sub.refl _ | exact Sub.nil _ | refine Sub.sel (by repeat (first | exact Sel.here | apply Sel.there)) ?_ | apply Sub.cons))) ?_
      rintro ⟨i, L, μ, rv, ev⟩ ⟨hi, I, hL⟩
      dsimp only at hi I hL ⊢
      unfold memSH plR
      simp only [List.cons_append, List.nil_append, List.append_assoc]
      refine cS (cR (sV (v_lss rfl rfl) (sN (nT (cS (cC rfl (fun hd => ?_) (fun hd => ?_)))))))
      · skip
        have hlt : i < xs.length := by simpa using hd
        obtain ⟨b, o, cp', hv', hrds⟩ := hX.at hlt
        obtain ⟨ly, ln, lf, φ, A, hg⟩ := Fine.acts false (xs.take i) (fine_new hne) (List.replicate N 0)
        have hlen : (acts false (xs.take i) (new' sh half young) (List.replicate N 0)).2.2.length ≤ 1000000 := by rw [acts_len, List.length_replicate]; omega
        have hel : (acts false (xs.take i) (new' sh half young) (List.replicate N 0)).1.length = i := by rw [acts_errs, List.length_take]; omega
        have hact := act_c (pb := b39) (rv := rv) (en := false) (k := xs[i].k) (a := xs[i].a) (b := xs[i].b) (c := xs[i].c) I hg hlen (ha _ (List.getElem_mem hlt))
        have hsn := acts_snoc false (xs.take i) xs[i] (new' sh half young) (List.replicate N 0)
        rw [← List.take_succ_eq_append_getElem hlt] at hsn
        unfold playSH memSH plR at hact
        rw [hL] at hact
        simp only [List.cons_append, List.nil_append] at hact
        refine cK (xT (cS (cd_block (cS (cR (sV (v_indexAddr (congrArg some hv') rfl sl23 rfl hlt rfl) (sV (v_loadR rfl ld71 rfl (by repeat (first | exact Sel.here | apply Sel.there)) hrds) ?_)))))))
        refine st_alc al71 fun b19 => ?_
        refine st_stoW rfl rfl sz71 rfl rfl ?_
        refine sN (nK [14, 16, 17, 19, 40, 41, 42] rfl (nT (cR (sV (vM rfl) (sV (vM rfl) (sV (v_loadW rfl ld71 rfl (by repeat (first | exact Sel.here | apply Sel.there))) ?_))))))
        refine st_cl rfl rfl en27 rfl (hact) ?_
        rintro v' h' ⟨L1, μ1, rv1, rfl, I1, hL1, rfl⟩
        unfold playSH memSH plR
        simp only [List.cons_append, List.nil_append]
        rw [hL1, hL]
        refine st_buildSlice (cells := [.int .i64 (AM.act false (acts false (xs.take i) (new' sh half young) (List.replicate N 0)).2.1 (acts false (xs.take i) (new' sh half young) (List.replicate N 0)).2.2 ⟨xs[i].k, xs[i].a, xs[i].b, xs[i].c⟩).1]) rfl Tryz.underlying28 inf29 rfl rfl (by kernel_rfl) (ltn rfl) fun b66 => ?_
        refine st_append (news := [.int .i64 (AM.act false (acts false (xs.take i) (new' sh half young) (List.replicate N 0)).2.1 (acts false (xs.take i) (new' sh half young) (List.replicate N 0)).2.2 ⟨xs[i].k, xs[i].a, xs[i].b, xs[i].c⟩).1]) rfl rfl Tryz.underlying28 inf29 rfl (ltn rfl) (by repeat (first | exact Sel.here | apply Sel.there)) rfl (fun j u hu => by repeat (first | exact at_here (rd_cl (by simpa using hu)) | apply at_there)) (ones rfl) (by omega) (by omega) (ltn rfl) fun ev' hev' hv1 => ?_
        refine sV (vA rfl) (sN (nK [14, 16, 17, 40, 41, 42] rfl (nx_xt (xB (xT (cR (sV (v_add rfl rfl (by unfold I64 at *; omega)) (sV (vM rfl) (sN (nK [14, 16, 17, 40, 41, 42] rfl (nx_xt ?_)))))))))))
        have hi2 : (acts false (xs.take (i + 1)) (new' sh half young) (List.replicate N 0)).2 = (AM.act false (acts false (xs.take i) (new' sh half young) (List.replicate N 0)).2.1 (acts false (xs.take i) (new' sh half young) (List.replicate N 0)).2.2 ⟨xs[i].k, xs[i].a, xs[i].b, xs[i].c⟩).2 := by rw [hsn]
        have hi1 : (acts false (xs.take (i + 1)) (new' sh half young) (List.replicate N 0)).1 = (acts false (xs.take i) (new' sh half young) (List.replicate N 0)).1 ++ [(AM.act false (acts false (xs.take i) (new' sh half young) (List.replicate N 0)).2.1 (acts false (xs.take i) (new' sh half young) (List.replicate N 0)).2.2 ⟨xs[i].k, xs[i].a, xs[i].b, xs[i].c⟩).1] := by rw [hsn]
        refine xt_ag (⟨i + 1, L1, μ1, rv1, ev'⟩ : PlS) ⟨hlt, by dsimp only; rw [hi2]; exact I1, hL1.trans hL⟩ (by dsimp only; omega) (by repeat (first | exact trivial | refine ⟨rfl, ?_⟩)) ?_
        dsimp only
        rw [hi1, hi2, List.length_append, show ∀ (l : List Int) (x : Int), ints (l ++ [x]) = ints l ++ [.int .i64 x] from fun l x => by simp [ints]]
        exact (by repeat (first | exact Sub.refl _ | exact Sub.nil _ | refine Sub.sel (by repeat (first | exact Sel.here | apply Sel.there)) ?_ | apply Sub.cons))
      · skip
        refine cd_exit (xE (xE (xt_exit_block (xT (cS (cd_drawh (ork [(0, 2), (1, 2), (2, 2), (3, 2), (4, 1), (5, 2), (6, 2), (7, 2), (8, 2), (9, 2)] .nil) (fun _ => true) mixed (by kernel_rfl) ?_))))))
        refine dV rfl (vM rfl) (dV rfl (vM rfl) (dV rfl (vN rfl) (dV rfl (vF rfl fa69_1 rfl) (dr_v rfl (vL rfl ld27) ?_))))
        refine dV rfl (vM rfl) (dV rfl (vA rfl) (dV rfl (vA rfl) (dV rfl (vA rfl) (dV rfl (vA rfl) (dr_nil (nK [10, 11, 12, 13] rfl (nT (cT ?_))))))))
        have hge : i = xs.length := by have : ¬ i < xs.length := by simpa using hd
                                       omega
        subst hge
        rw [List.take_length] at I ⊢
        refine xt_rt rfl (.inr ⟨trivial, trivial, by omega, by omega, by omega, L, μ, S1, rv, ev, by rw [hL]; rfl, I, rfl⟩) ?_
        exact (by repeat (first | exact Sub.refl _ | exact Sub.nil _ | refine Sub.sel (by repeat (first | exact Sel.here | apply Sel.there)) ?_ | apply Sub.cons))
end
end Go.Proofs.YtmhmpjgkkpbnnaaGreat
namespace Go.Proofs.YtmhmpjgkkpbnnaaGreat
open Go.Ck Fx Go.Hm Go.Hm.AM
attribute [local irreducible] St Cd Xt Nx DrL LsW

structure RL where
  hb : Nat
  wb : Nat
  eb : Nat
  ob : Nat
  vs : Value
  vk : Value
def rn (m : AM) : Nat := (m.Y + 2 * m.H + 1).toNat
def rcl (L : RL) (m : AM) : List Value := [L.vs, .int .i64 m.H, .int .i64 m.Y, .slice (some ⟨L.wb, 0, none⟩) (rn m) (rn m), .slice (some ⟨L.eb, 0, none⟩) (rn m) (rn m), .slice (some ⟨L.ob, 0, none⟩) (rn m) (rn m),
  .int .i64 m.new, .int .i64 m.old, .bool m.up, .bool m.busy, .int .i64 m.scan, .int .i64 m.left, L.vk]
def hR (L : RL) (m : AM) : Res := pt L.hb (cl (rcl L m) 53)
def arr (n : Nat) (f : Int → Int) : List Value := ints ((List.range n).map fun i : Nat => f (i : Int))
theorem arr_len (n : Nat) (f : Int → Int) : (arr n f).length = n := by simp [arr, ints]
theorem arr_get {n k : Nat} {f : Int → Int} (h : k < n) : (arr n f)[k]? = some (.int .i64 (f k)) := by simp [arr, ints, h]
theorem arr_set {n k : Nat} {f : Int → Int} {v : Int} : (arr n f).set k (.int .i64 v) = arr n (fup f k v) := by
  refine List.ext_getElem? fun i => ?_
  rw [List.getElem?_set, arr_len]
  by_cases hi : i < n
  · rw [arr_get hi, arr_get hi]
    by_cases hk : k = i
    · subst hk; simp [hi, fup_same]
    · rw [if_neg hk, fup_other (by omega)]
  · rw [List.getElem?_eq_none (l := arr n f) (by rw [arr_len]; omega), List.getElem?_eq_none (l := arr n (fup f k v)) (by rw [arr_len]; omega)]
    by_cases hk : k = i <;> simp [hk, hi]
def aR (b : Nat) (m : AM) (f : Int → Int) : Res := pt b (cl (arr (rn m) f) 3)
def kR (L : RL) (m : AM) : Res := vec L.vk 147 2 m.rem.length (kc m.rem)
def wR (L : RL) (m : AM) : Res := aR L.wb m m.word
def eR (L : RL) (m : AM) : Res := aR L.eb m m.head
def oR (L : RL) (m : AM) : Res := aR L.ob m m.moved
theorem a_rd {b : Nat} {m : AM} {f : Int → Int} {t : Int} (h0 : 0 ≤ t) (h1 : t < m.Y + 2 * m.H + 1) : Rd (aR b m f) ⟨b, t.toNat, none⟩ (.int .i64 (f t)) :=
  rd_cl (by rw [arr_get (by unfold rn; omega)]; congr 2; congr 1; omega)
section
variable {L : RL} {m : AM} {S : Res} {t : Int}
set_option maxRecDepth 100000 in
theorem former_ct (z : Sz m) : Reads Tryz.prog 105 #[.pointer (some ⟨L.hb, 0, none⟩)] [hR L m] (.int .i64 m.former) := by
  have h1 := z.Y0; have h2 := z.Y1; have h3 := z.H0; have h4 := z.H1
  unfold AM.former
  refine ct_of (n := 22) Tryz.func105 rfl rfl (len rfl) fun hr w0 => ?_
  refine cS (cR (sV (vA rfl) (sN (nT (cS (cS (cR (sV (vM rfl) (sV (vN rfl) (sV (vF rfl fa53_8 rfl) (sV (vL rfl ld4) ?_)))))))))))
  refine sN (nK [0, 2, 6] rfl (nT (cC rfl (fun hc => ?_) (fun hc => ?_))))
  · skip
    rw [hc, if_pos rfl]
    refine cS (cR (sV (vM rfl) (sV (vN rfl) (sV (vF rfl fa53_2 rfl) (sV (vL rfl ld3) ?_)))))
    refine sV (v_add rfl rfl (by unfold I64 at *; omega)) (sV (vA rfl) (sN (nK [0, 2] rfl (nT (cT (xR ?_))))))
    exact xt_rt rfl ⟨rfl, rfl⟩
  · skip
    rw [hc, if_neg (by simp)]
    refine cK (xT (cS (cd_drawh (ork [(0, 2), (1, 2), (2, 2), (3, 1), (4, 2), (5, 2), (6, 2), (7, 1), (8, 2), (9, 2), (10, 2)] .nil) (fun _ => true) mixed (by kernel_rfl) ?_)))
    refine dV rfl (vM rfl) (dV rfl (vN rfl) (dV rfl (vF rfl fa53_2 rfl) (dr_v rfl (vL rfl ld3) ?_)))
    refine dV rfl (vM rfl) (dV rfl (vN rfl) (dV rfl (vF rfl fa53_1 rfl) (dr_v rfl (vL rfl ld3) ?_)))
    refine dV rfl (v_add rfl rfl (by unfold I64 at *; omega)) (dV rfl (v_add rfl rfl (by unfold I64 at *; omega)) (dV rfl (vA rfl) (dr_nil (nK [2] rfl (nT (cT ?_))))))
    exact xt_rt rfl ⟨rfl, rfl⟩
set_option maxRecDepth 100000 in
theorem base_ct (z : Sz m) : Reads Tryz.prog 42 #[.pointer (some ⟨L.hb, 0, none⟩)] [hR L m] (.int .i64 m.base) := by
  have h1 := z.Y0; have h2 := z.Y1; have h3 := z.H0; have h4 := z.H1
  unfold AM.base
  refine ct_of (n := 22) Tryz.func42 rfl rfl (len rfl) fun hr w0 => ?_
  refine cS (cR (sV (vA rfl) (sN (nT (cS (cS (cR (sV (vM rfl) (sV (vN rfl) (sV (vF rfl fa53_8 rfl) (sV (vL rfl ld4) ?_)))))))))))
  refine sN (nK [0, 2, 6] rfl (nT (cC rfl (fun hc => ?_) (fun hc => ?_))))
  · skip
    rw [hc, if_pos rfl]
    refine cS (cd_drawh (ork [(0, 2), (1, 2), (2, 2), (3, 1), (4, 2), (5, 2), (6, 2), (7, 1), (8, 2), (9, 2), (10, 2)] .nil) (fun _ => true) mixed (by kernel_rfl) ?_)
    refine dV rfl (vM rfl) (dV rfl (vN rfl) (dV rfl (vF rfl fa53_2 rfl) (dr_v rfl (vL rfl ld3) ?_)))
    refine dV rfl (vM rfl) (dV rfl (vN rfl) (dV rfl (vF rfl fa53_1 rfl) (dr_v rfl (vL rfl ld3) ?_)))
    refine dV rfl (v_add rfl rfl (by unfold I64 at *; omega)) (dV rfl (v_add rfl rfl (by unfold I64 at *; omega)) (dV rfl (vA rfl) (dr_nil (nK [0, 2] rfl (nT (cT (xR ?_)))))))
    exact xt_rt rfl ⟨rfl, rfl⟩
  · skip
    rw [hc, if_neg (by simp)]
    refine cK (xT (cS (cR (sV (vM rfl) (sV (vN rfl) (sV (vF rfl fa53_2 rfl) (sV (vL rfl ld3) ?_)))))))
    refine sV (v_add rfl rfl (by unfold I64 at *; omega)) (sV (vA rfl) (sN (nK [2] rfl (nT (cT ?_)))))
    exact xt_rt rfl ⟨rfl, rfl⟩
set_option maxRecDepth 100000 in
theorem isFormer_ct (z : Sz m) : Reads Tryz.prog 74 #[.pointer (some ⟨L.hb, 0, none⟩), .int .i64 t] [hR L m] (.bool (m.isF t)) := by
  have h1 := z.Y0; have h2 := z.Y1; have h3 := z.H0; have h4 := z.H1
  have h5 := m.base_former
  unfold AM.isF
  refine ct_of (n := 17) Tryz.func74 rfl rfl (len rfl) fun hr w0 => ?_
  refine cS (cR (sV (vA rfl) (sN (nT (cS (cd_drawh (ork [(0, 2), (1, 2), (2, 1), (3, 2), (4, 1), (5, 2), (6, 2), (7, 2), (8, 1), (9, 2), (10, 2), (11, 1), (12, 2)] .nil) (fun _ => true) mixed (by kernel_rfl) ?_))))))
  refine dV rfl (vM rfl) (dV rfl (vM rfl) (dr_clr rfl rfl rfl en105 rfl (former_ct z) ?_))
  refine dV rfl (vM rfl) (dr_clr rfl rfl rfl en105 rfl (former_ct z) ?_)
  refine dV rfl (vM rfl) (dV rfl (vN rfl) (dV rfl (vF rfl fa53_1 rfl) (dr_v rfl (vL rfl ld3) ?_)))
  refine dV rfl (v_add rfl rfl (by unfold I64 at *; omega)) (dV rfl (v_sub rfl rfl (by unfold I64 at *; omega)) (dr_clr rfl rfl rfl en95 rfl (in_ct) ?_))
  refine dV rfl (vA rfl) (dr_nil (nK [4] rfl (nT (cT ?_))))
  exact xt_rt rfl ⟨rfl, rfl⟩
set_option maxRecDepth 100000 in
theorem isOld_ct (z : Sz m) : Reads Tryz.prog 99 #[.pointer (some ⟨L.hb, 0, none⟩), .int .i64 t] [hR L m] (.bool (m.isO t)) := by
  have h1 := z.Y0; have h2 := z.Y1; have h3 := z.H0; have h4 := z.H1
  have h5 := m.base_former
  unfold AM.isO
  refine ct_of (n := 17) Tryz.func99 rfl rfl (len rfl) fun hr w0 => ?_
  refine cS (cR (sV (vA rfl) (sN (nT (cS (cd_drawh (ork [(0, 2), (1, 2), (2, 1), (3, 2), (4, 1), (5, 2), (6, 2), (7, 2), (8, 1), (9, 2), (10, 2), (11, 1), (12, 2)] .nil) (fun _ => true) mixed (by kernel_rfl) ?_))))))
  refine dV rfl (vM rfl) (dV rfl (vM rfl) (dr_clr rfl rfl rfl en42 rfl (base_ct z) ?_))
  refine dV rfl (vM rfl) (dr_clr rfl rfl rfl en42 rfl (base_ct z) ?_)
  refine dV rfl (vM rfl) (dV rfl (vN rfl) (dV rfl (vF rfl fa53_1 rfl) (dr_v rfl (vL rfl ld3) ?_)))
  refine dV rfl (v_add rfl rfl (by unfold I64 at *; omega)) (dV rfl (v_sub rfl rfl (by unfold I64 at *; omega)) (dr_clr rfl rfl rfl en95 rfl (in_ct) ?_))
  refine dV rfl (vA rfl) (dr_nil (nK [4] rfl (nT (cT ?_))))
  exact xt_rt rfl ⟨rfl, rfl⟩
set_option maxRecDepth 100000 in
theorem isYoung_ct : Reads Tryz.prog 100 #[.pointer (some ⟨L.hb, 0, none⟩), .int .i64 t] [hR L m] (.bool (m.isY t)) := by
  unfold AM.isY
  refine ct_of (n := 11) Tryz.func100 rfl rfl (len rfl) fun hr w0 => ?_
  refine cS (cR (sV (vA rfl) (sN (nT (cS (cR (sV (vM rfl) (sV (vM rfl) (sV (vN rfl) (sV (vF rfl fa53_2 rfl) (sV (vL rfl ld3) ?_)))))))))))
  refine st_clr rfl rfl en95 rfl (in_ct) ?_
  refine sV (vA rfl) (sN (nK [4] rfl (nT (cT ?_))))
  exact xt_rt rfl ⟨rfl, rfl⟩
theorem cur_bd {m : AM} {t : Int} (z : Sz m) (h : (m.isY t || m.isO t) = true) : 0 ≤ t ∧ t < m.Y + 2 * m.H + 1 := by
  have h1 := z.Y0; have h3 := z.H0
  have h5 := m.base_former
  simp only [Bool.or_eq_true, isY_iff', isO_iff] at h
  omega
set_option maxRecDepth 100000 in
theorem rcurrent_ct (z : Sz m) : Reads Tryz.prog 73 #[.pointer (some ⟨L.hb, 0, none⟩), .int .i64 t] [hR L m, eR L m] (.bool (m.cur t)) := by
  unfold AM.cur
  refine ct_of (n := 23) Tryz.func73 rfl rfl (len rfl) fun hr w0 => ?_
  refine cS (cR (sV (vA rfl) (sN (nT (cS (cR (sV (vM rfl) (sV (vM rfl) (st_clr rfl rfl en100 rfl (isYoung_ct) ?_)))))))))
  refine sV (vM rfl) ?_
  cases hy : m.isY t
  · skip
    refine st_vg rfl rfl (vM rfl) (st_vg rfl rfl (vM rfl) (st_clrg rfl rfl rfl rfl en99 rfl (isOld_ct z) ?_))
    refine sV (vP rfl rfl) (sV (vM rfl) ?_)
    cases ho : m.isO t
    · skip
      refine st_sk rfl rfl rfl ?_
      refine st_sk rfl rfl rfl ?_
      refine st_sk rfl rfl rfl ?_
      refine st_sk rfl rfl rfl ?_
      refine st_sk rfl rfl rfl ?_
      refine st_sk rfl rfl rfl ?_
      refine st_sk rfl rfl rfl ?_
      refine st_sk rfl rfl rfl ?_
      refine sV (vP rfl rfl) (sV (vA rfl) (sN (nK [4] rfl (nT (cT ?_)))))
      exact xt_rt rfl ⟨rfl, rfl⟩
    · skip
      obtain ⟨hb0, hb1⟩ := cur_bd z (show (m.isY t || m.isO t) = true by rw [hy, ho]; rfl)
      have hrd : Rd (eR L m) ⟨L.eb, t.toNat, none⟩ (.int .i64 (m.head t)) := a_rd hb0 hb1
      refine st_vg rfl rfl (vM rfl) (st_vg rfl rfl (vN rfl) (st_vg rfl rfl (vF rfl fa53_4 rfl) (st_vg rfl rfl (vL rfl ld27) ?_)))
      refine st_vg rfl rfl (vM rfl) (st_vg rfl rfl (v_idx t.toNat rfl rfl sl27 (by omega) (by unfold rn; omega)) ?_)
      refine st_vg rfl rfl (vL rfl ld3) ?_
      refine st_vg rfl rfl (v_gtr rfl rfl) (sV (v_pick_true rfl rfl) (sV (vA rfl) (sN (nK [4] rfl (nT (cT ?_))))))
      exact xt_rt rfl ⟨rfl, rfl⟩
  · skip
    obtain ⟨hb0, hb1⟩ := cur_bd z (show (m.isY t || m.isO t) = true by rw [hy]; rfl)
    have hrd : Rd (eR L m) ⟨L.eb, t.toNat, none⟩ (.int .i64 (m.head t)) := a_rd hb0 hb1
    refine st_sk rfl rfl rfl ?_
    refine st_sk rfl rfl rfl ?_
    refine st_sk rfl rfl rfl ?_
    refine sV (v_pick_true rfl rfl) (sV (vM rfl) (st_vg rfl rfl (vM rfl) (st_vg rfl rfl (vN rfl) (st_vg rfl rfl (vF rfl fa53_4 rfl) (st_vg rfl rfl (vL rfl ld27) ?_)))))
    refine st_vg rfl rfl (vM rfl) (st_vg rfl rfl (v_idx t.toNat rfl rfl sl27 (by omega) (by unfold rn; omega)) ?_)
    refine st_vg rfl rfl (vL rfl ld3) ?_
    refine st_vg rfl rfl (v_gtr rfl rfl) (sV (v_pick_true rfl rfl) (sV (vA rfl) (sN (nK [4] rfl (nT (cT ?_))))))
    exact xt_rt rfl ⟨rfl, rfl⟩
end
end Go.Proofs.YtmhmpjgkkpbnnaaGreat
namespace Go.Proofs.YtmhmpjgkkpbnnaaGreat
open Go.Ck Fx Go.Hm Go.Hm.AM
attribute [local irreducible] St Cd Xt Nx DrL LsW

theorem arr_set' {n : Nat} {t : Int} {f : Int → Int} {v : Int} (h : 0 ≤ t) : (arr n f).set t.toNat (.int .i64 v) = arr n (fup f t v) := by
  rw [arr_set, Int.toNat_of_nonneg h]
structure RI (L : RL) (S : Res) (m : AM) : Prop where
  shp : Shp S L.vs m.sh
def rSH (L : RL) (m : AM) (S : Res) : SH := [hR L m, wR L m, eR L m, oR L m, kR L m, S]
section
variable {L : RL} {m : AM} {S R : Res} {t k : Int} {ly ln lf N rl rs : List Int} {sp : Int} {v : Value} {roots : List Int} {φ : Int → Option Nat} {A : Store}
set_option maxRecDepth 100000 in
theorem rshape_ct (hS : Shp S L.vs m.sh) (z : Sz m) (o : Ob m t) : ∃ u, RowB S u (m.row t) ∧ Reads Tryz.prog 38 #[.pointer (some ⟨L.hb, 0, none⟩), .int .i64 t] [hR L m, eR L m, S] u := by
  have g1 := o.t0; have g2 := o.t1; have g3 := o.h0; have g4 := o.h1; have g5 := z.n; have g6 := o.i
  obtain ⟨b, q, cp, u, hv, hrd, hu⟩ := hS.row o.i
  refine ⟨u, by rw [o.row]; exact hu, ?_⟩
  have hrd1 : Rd (eR L m) ⟨L.eb, t.toNat, none⟩ (.int .i64 (m.head t)) := a_rd g1 g2
  obtain ⟨ua, ucp, hue, _⟩ := id hu
  subst hue
  refine ct_of (n := 19) Tryz.func38 rfl rfl (len rfl) fun hr w0 => ?_
  refine cS (cR (sV (vA rfl) (sN (nT (cS (cd_drawh (ork [(0, 2), (1, 2), (2, 2), (3, 1), (4, 2), (5, 2), (6, 2), (7, 1), (8, 2), (9, 2), (10, 1), (11, 2), (12, 2), (13, 1), (14, 2)] .nil) (fun _ => true) mixed (by kernel_rfl) ?_))))))
  refine dV rfl (vM rfl) (dV rfl (vN rfl) (dV rfl (vF rfl fa53_0 rfl) (dr_v rfl (vL rfl ld22) ?_)))
  refine dV rfl (vM rfl) (dV rfl (vN rfl) (dV rfl (vF rfl fa53_4 rfl) (dr_v rfl (vL rfl ld27) ?_)))
  refine dV rfl (vM rfl) (dV rfl (v_idx t.toNat rfl rfl sl27 (by omega) (by unfold rn; omega)) ?_)
  refine dr_v rfl (vL rfl ld3) ?_
  refine dV rfl (v_sub rfl rfl (by unfold I64 at *; omega)) (dV rfl (v_ixo (m.head t - 1).toNat (congrArg some hv) rfl sl22 (by omega) o.i) (dr_v rfl (vL rfl ld55) ?_))
  refine dV rfl (vA rfl) (dr_nil (nK [4] rfl (nT (cT ?_))))
  exact xt_rt rfl ⟨rfl, rfl⟩
set_option maxRecDepth 100000 in
theorem rsize_ct (hS : Shp S L.vs m.sh) (z : Sz m) (o : Ob m t) : Reads Tryz.prog 112 #[.pointer (some ⟨L.hb, 0, none⟩), .int .i64 t] [hR L m, eR L m, S] (.int .i64 (m.size t)) := by
  have g1 := o.len z
  unfold AM.size
  obtain ⟨u, hu, hct⟩ := rshape_ct hS z o
  obtain ⟨ua, ucp, hue, _⟩ := id hu
  subst hue
  refine ct_of (n := 10) Tryz.func112 rfl rfl (len rfl) fun hr w0 => ?_
  refine cS (cR (sV (vA rfl) (sN (nT (cS (cR (sV (vM rfl) (sV (vM rfl) (st_clr rfl rfl en38 rfl (hct) ?_)))))))))
  refine sV (v_len rfl Tryz.underlying55) (sV (v_add rfl rfl (by unfold I64 at *; omega)) (sV (vA rfl) (sN (nK [4] rfl (nT (cT ?_))))))
  exact xt_rt rfl ⟨rfl, rfl⟩
set_option maxRecDepth 100000 in
theorem rfield_ct (hS : Shp S L.vs m.sh) (h : Gd m ly ln lf N rl sp rs) : Reads Tryz.prog 97 #[.pointer (some ⟨L.hb, 0, none⟩), .int .i64 t, .int .i64 k] [hR L m, eR L m, S] (.int .i64 (m.fe t k)) := by
  have z := h.sz
  unfold AM.fe
  refine ct_of (n := 21) Tryz.func97 rfl rfl (len rfl) fun hr w0 => ?_
  refine cS (cR (sV (vA rfl) (sN (nT (cS (cR (sV (vM rfl) (sV (vM rfl) (st_clr rfl rfl en73 rfl (rcurrent_ct z) ?_)))))))))
  refine sV (vA rfl) (sN (nK [0, 1, 2, 6, 7] rfl (nT (cS (cS (cR (sV (vM rfl) (sV (v_not rfl) (sN (nK [0, 1, 2, 6, 12] rfl (nT (cC rfl (fun hc => ?_) (fun hc => ?_)))))))))))))
  · skip
    rw [if_pos hc]
    refine cS (cR (sV (vA rfl) (sN (nK [0, 1, 2, 6] rfl (nT (cT (xR ?_)))))))
    exact xt_rt rfl ⟨rfl, rfl⟩
  · skip
    have hc' : m.cur t = true := by simpa using hc
    have o := ob_cur h hc'
    have g1 := o.len z
    obtain ⟨u, hu, hct⟩ := rshape_ct hS z o
    obtain ⟨ua, ucp, hue, _⟩ := id hu
    subst hue
    rw [if_neg (by rw [hc]; simp)]
    refine cK (xT (cS (cS (cR (sV (vM rfl) (sV (vM rfl) (sV (vM rfl) (st_clr rfl rfl en38 rfl (hct) ?_))))))))
    refine sV (v_len rfl Tryz.underlying55) (sV (v_sub rfl rfl (by unfold I64 at *; omega)) (st_clr rfl rfl en95 rfl (in_ct) ?_))
    refine sV (v_not rfl) (sN (nK [6, 20] rfl (nT (cC rfl (fun hd => ?_) (fun hd => ?_)))))
    · skip
      rw [if_pos (by simp at hd ⊢; omega)]
      refine cS (cR (sV (vA rfl) (sN (nK [6] rfl (nT (cT (xR ?_)))))))
      exact xt_rt rfl ⟨rfl, rfl⟩
    · skip
      rw [if_neg (by simp at hd ⊢; omega)]
      refine cK (xT (cS (cR (sV (vA rfl) (sN (nK [6] rfl (nT (cT ?_))))))))
      exact xt_rt rfl ⟨rfl, rfl⟩
set_option maxRecDepth 100000 in
theorem rroom_ct (h : Gd m ly ln lf N rl sp rs) : Reads Tryz.prog 14 #[.pointer (some ⟨L.hb, 0, none⟩)] [hR L m] (.agg #[.int .i64 m.room.1, .int .i64 m.room.2.1, .int .i64 m.room.2.2]) := by
  have z := h.sz
  have h1 := z.Y0; have h2 := z.Y1; have h3 := z.H0; have h4 := z.H1
  have h5 := m.base_former; have h6 := h.newle; have h7 := h.yl; have h8 := h.oldle
  unfold AM.room
  refine ct_of (n := 20) Tryz.func14 rfl rfl (len rfl) fun hr w0 => ?_
  refine cS (cR (st_alc al48 fun b2 => ?_))
  refine sN (nT (cS (cd_drawh (ork [(0, 2), (1, 2), (2, 2), (3, 1), (4, 2), (5, 2), (6, 2), (7, 2), (8, 1), (9, 2), (10, 1), (11, 2), (12, 2), (13, 2), (14, 2), (15, 1), (16, 2), (17, 0)] .nil) (fun i => !(Nat.beq i 17)) mixed (by kernel_rfl) ?_)))
  refine dV rfl (vM rfl) (dV rfl (vN rfl) (dV rfl (vF rfl fa53_6 rfl) (dr_v rfl (vL rfl ld3) ?_)))
  refine dV rfl (v_sub rfl rfl (by unfold I64 at *; omega)) (dV rfl (vM rfl) (dV rfl (vN rfl) (dV rfl (vF rfl fa53_7 rfl) (dr_v rfl (vL rfl ld3) ?_))))
  refine dV rfl (vM rfl) (dr_clr rfl rfl rfl en42 rfl (base_ct z) ?_)
  refine dV rfl (v_sub rfl rfl (by unfold I64 at *; omega)) (dV rfl (vM rfl) (dV rfl (vN rfl) (dV rfl (vF rfl fa53_11 rfl) (dr_v rfl (vL rfl ld3) ?_))))
  refine dV rfl (v_build (cells := [.int .i64 (m.new - 1), .int .i64 (m.old - m.base), .int .i64 m.left]) rfl (fun _ => by kernel_rfl)) ?_
  refine dr_eff rfl (st_stoW rfl rfl sz48 rfl rfl (dr_nx ?_))
  refine dr_nil (nK [2] rfl (nT (cT ?_)))
  exact xt_retV (.cellN rfl ld48 rfl (by repeat (first | exact Sel.here | apply Sel.there)) .nil) ⟨rfl, rfl⟩ (by repeat (first | exact Sub.refl _ | exact Sub.nil _ | refine Sub.sel (by repeat (first | exact Sel.here | apply Sel.there)) ?_ | apply Sub.cons))
set_option maxRecDepth 100000 in
theorem rrooted_ct (h : Gd m ly ln lf N rl sp rs) (hv : RowI R v roots) (hrl : roots.length ≤ 1000000) : Reads Tryz.prog 36 #[.pointer (some ⟨L.hb, 0, none⟩), v] [hR L m, eR L m, R] (.int .i64 (m.rooted roots)) := by
  have z := h.sz
  obtain ⟨ra, rcp, hv1, _⟩ := id hv
  unfold AM.rooted
  refine ct_of (n := 31) Tryz.func36 rfl rfl (len rfl) fun hr w0 => ?_
  refine cS (cR (sV (vA rfl) (sN (nT (cS (cS (cR (sV (vM rfl) (sV (v_len (congrArg some hv1) Tryz.underlying27) (sV (v_gtr rfl rfl) (sN (nK [0, 1, 4, 9] rfl (nT (cC rfl (fun hc => ?_) (fun hc => ?_)))))))))))))))
  · skip
    rw [if_pos hc]
    refine cS (cR (sV (vA rfl) (sN (nK [0, 1, 4] rfl (nT (cT (xR ?_)))))))
    exact xt_rt rfl ⟨rfl, rfl⟩
  · skip
    rw [if_neg (by rw [hc]; simp)]
    refine cK (xT (cS (cS (cR (sV (vA rfl) (sN (nK [0, 1, 4, 5] rfl (nT (cd_block (cd_loop (σ := Nat) (fun i => [(0, .pointer (some ⟨L.hb, 0, none⟩)), (1, v), (5, .int .i64 (i : Nat))]) (fun _ => hR L m :: eR L m :: R :: hr) (fun i => i ≤ roots.length ∧ (roots.take i).any m.bad = false) (fun i => roots.length - i) 0 ⟨Nat.zero_le _, rfl⟩ ⟨rfl, rfl, rfl, trivial⟩ (Sub.refl _) ?_))))))))))
    rintro i ⟨hi, hall⟩
    refine cS (cS (cR (sV (vM rfl) (sV (vM rfl) (sV (v_len (congrArg some hv1) Tryz.underlying27) (sV (v_lss rfl rfl) (sN (nK [0, 1, 5, 13] rfl (nT (cC rfl (fun hd => ?_) (fun hd => ?_)))))))))))
    · skip
      have hlt : i < roots.length := by simpa using hd
      obtain ⟨b, q, cp', hv2, hrd⟩ := hv.at hlt
      have htk : (roots.take (i + 1)).any m.bad = m.bad roots[i] := by rw [List.take_succ_eq_append_getElem hlt, List.any_append, hall]; simp
      refine cK (xT (cS (cd_block (cS (cR (sV (vM rfl) (sV (vM rfl) (sV (vM rfl) (sV (v_ixo i (congrArg some hv2) rfl sl27 rfl hlt) (sV (vL rfl ld3) ?_))))))))))
      refine st_clr rfl rfl en73 rfl (rcurrent_ct z) ?_
      refine sV (vA rfl) (sN (nK [0, 1, 5, 6] rfl (nT (cS (cR (sV (vM rfl) (sV (vM rfl) (sV (v_ixo i (congrArg some hv2) rfl sl27 rfl hlt) (sV (vL rfl ld3) ?_)))))))))
      refine sV (v_neq rfl rfl) (sV (vM rfl) ?_)
      cases hz : roots[i] != 0
      · skip
        refine st_sk rfl rfl rfl ?_
        refine st_sk rfl rfl rfl ?_
        refine sV (vP rfl rfl) (sN (nK [0, 1, 5, 30] rfl (nT (cd_false rfl ?_))))
        refine cK (xB (xT (cR (sV (vM rfl) (sV (v_add rfl rfl (by unfold I64 at *; omega)) (sV (vA rfl) (sN (nK [0, 1, 5] rfl (nx_xt ?_)))))))))
        refine xt_ag (i + 1) ⟨hlt, by rw [htk]; unfold AM.bad; rw [hz]; rfl⟩ (by omega)
      · skip
        refine st_vg rfl rfl (vM rfl) (st_vg rfl rfl (v_not rfl) (sV (v_pick_true rfl rfl) (sN (nK [0, 1, 5, 30] rfl (nT (cC rfl (fun he => ?_) (fun he => ?_)))))))
        · skip
          refine cS (cR (sV (vA rfl) (sN (nK [0, 1, 4, 5] rfl (nT (cT (xt_ret_block (xR (xR (xt_ret_block (xR ?_)))))))))))
          have hany : roots.any m.bad = true := List.any_eq_true.2 ⟨roots[i], List.getElem_mem hlt, by unfold AM.bad; rw [hz, he]; rfl⟩
          rw [if_pos hany]
          exact xt_rt rfl ⟨rfl, rfl⟩
        · skip
          refine cK (xB (xT (cR (sV (vM rfl) (sV (v_add rfl rfl (by unfold I64 at *; omega)) (sV (vA rfl) (sN (nK [0, 1, 5] rfl (nx_xt ?_)))))))))
          refine xt_ag (i + 1) ⟨hlt, by rw [htk]; unfold AM.bad; rw [hz, he]; rfl⟩ (by omega)
    · skip
      refine cd_exit (xE (xE (xt_exit_block (xT (cS (cR (sV (vA rfl) (sN (nK [4] rfl (nT (cT ?_)))))))))))
      have hge : i = roots.length := by have : ¬ i < roots.length := by simpa using hd
                                        omega
      rw [hge, List.take_length] at hall
      rw [hall, if_neg (by simp)]
      exact xt_rt rfl ⟨rfl, rfl⟩
set_option maxRecDepth 100000 in
theorem ralloc_ct (hS : Shp S L.vs m.sh) (h : Gd m ly ln lf N rl sp rs) (s : Int) : Ct Tryz.prog 96 #[.pointer (some ⟨L.hb, 0, none⟩), .int .i64 s] (rSH L m S) fun v h' => v = .tuple #[.int .i64 (m.alloc s).1, .int .i64 (m.alloc s).2.1] ∧ h' = rSH L (m.alloc s).2.2 S := by
  have z := h.sz
  have h1 := z.Y0; have h2 := z.Y1; have h3 := z.H0; have h4 := z.H1
  have h6 := h.newle; have h7 := h.yl; have h8 := z.n
  have hal := arr_len (rn m) m.head; have hrn : rn m = (m.Y + 2 * m.H + 1).toNat := rfl
  obtain ⟨sa, scp, hvs, _⟩ := id hS
  unfold rSH AM.alloc
  refine ct_of (n := 57) Tryz.func96 rfl rfl (len rfl) fun hr w0 => ?_
  refine cS (cR (sV (vA rfl) (sV (vA rfl) (sN (nT (cS (cS (cR (sV (vM rfl) (sV (vM rfl) (sV (vN rfl) (sV (vF rfl fa53_0 rfl) (sV (vL rfl ld22) ?_)))))))))))))
  refine sV (v_len (congrArg some hvs) Tryz.underlying22) (sV (v_sub rfl rfl (by unfold I64 at *; omega)) (st_clr rfl rfl en95 rfl (in_ct) ?_))
  refine sV (v_not rfl) (sN (nK [0, 1, 4, 5, 16] rfl (nT (cC rfl (fun hc => ?_) (fun hc => ?_)))))
  · skip
    rw [if_pos (by simp at hc ⊢; omega)]
    refine cS (cR (sV (vA rfl) (sV (vA rfl) (sN (nK [0, 1, 4, 5] rfl (nT (cT (xR ?_))))))))
    exact xt_rt rfl ⟨rfl, rfl⟩
  · skip
    have hs : 0 ≤ s ∧ s < m.sh.length := by simp at hc; omega
    rw [if_neg (by simp; omega)]
    refine cK (xT (cS (cR (sV (vM rfl) (sV (vN rfl) (sV (vF rfl fa53_0 rfl) (sV (vL rfl ld22) ?_)))))))
    refine sV (vM rfl) ?_
    obtain ⟨b, q, cp, u, hv, hrd, hu⟩ := hS.row (show s.toNat < m.sh.length by omega)
    obtain ⟨ua, ucp, hue, _⟩ := id hu
    subst hue
    have hgd : m.sh.getD s.toNat [] = m.sh[s.toNat] := by rw [List.getD_eq_getElem?_getD, List.getElem?_eq_getElem]; rfl
    have hw := z.w _ (List.getElem_mem (show s.toNat < m.sh.length by omega))
    rw [hgd]
    dsimp only
    refine sV (v_ixo s.toNat (congrArg some hv) rfl sl22 (by omega) (by omega)) (sV (vL rfl ld55) ?_)
    refine sV (v_len rfl Tryz.underlying55) (sV (v_add rfl rfl (by unfold I64 at *; omega)) (sV (vA rfl) (sN (nK [0, 1, 4, 5, 6] rfl (nT (cS (cS (cd_drawh (ork [(0, 2), (1, 2), (2, 2), (3, 1), (4, 2), (5, 2), (6, 2), (7, 2), (8, 2), (9, 2), (10, 1), (11, 2)] .nil) (fun _ => true) mixed (by kernel_rfl) ?_))))))))
    refine dV rfl (vM rfl) (dV rfl (vN rfl) (dV rfl (vF rfl fa53_6 rfl) (dr_v rfl (vL rfl ld3) ?_)))
    refine dV rfl (vM rfl) (dV rfl (v_add rfl rfl (by unfold I64 at *; omega)) (dV rfl (v_sub rfl rfl (by unfold I64 at *; omega)) (dV rfl (vM rfl) (dV rfl (vN rfl) (dV rfl (vF rfl fa53_2 rfl) (dr_v rfl (vL rfl ld3) ?_))))))
    refine dV rfl (v_gtr rfl rfl) (dr_nil (nK [0, 1, 4, 5, 6, 37] rfl (nT (cC rfl (fun hd => ?_) (fun hd => ?_)))))
    · skip
      rw [if_pos (by simp at hd ⊢; omega)]
      refine cS (cR (sV (vA rfl) (sV (vA rfl) (sN (nK [0, 1, 4, 5, 6] rfl (nT (cT (xR ?_))))))))
      exact xt_rt rfl ⟨rfl, rfl⟩
    · skip
      rw [if_neg (by simp at hd ⊢; omega)]
      simp at hd
      refine cK (xT (cS (cR (sV (vM rfl) (sV (vN rfl) (sV (vF rfl fa53_6 rfl) (sV (vL rfl ld3) ?_)))))))
      refine sV (vA rfl) (sN (nK [0, 1, 4, 5, 6, 7] rfl (nT (cS (cR (sV (vM rfl) (sV (vN rfl) (sV (vF rfl fa53_4 rfl) (sV (vL rfl ld27) ?_)))))))))
      refine sV (vM rfl) (sV (vM rfl) (sV (v_add rfl rfl (by unfold I64 at *; omega)) (sV (v_idx m.new.toNat rfl rfl sl27 (by omega) (by unfold rn; omega)) ?_)))
      refine st_sto rfl rfl sz3 ?_
      refine sN (nK [0, 4, 5, 6, 7] rfl (nT (cS (cR (sV (vM rfl) (sV (vM rfl) (sV (vM rfl) (sV (v_add rfl rfl (by unfold I64 at *; omega)) (sV (vN rfl) (sV (vF rfl fa53_6 rfl) (st_sto rfl rfl sz3 ?_)))))))))))
      refine sN (nK [4, 5, 7] rfl (nT (cS (cR (sV (vM rfl) (sV (vA rfl) (sV (vA rfl) (sN (nK [4, 5] rfl (nT (cT ?_)))))))))))
      rw [arr_set' (by omega)]
      exact xt_rt rfl ⟨rfl, rfl⟩
end
end Go.Proofs.YtmhmpjgkkpbnnaaGreat
namespace Go.Proofs.YtmhmpjgkkpbnnaaGreat
open Go.Ck Fx Go.Hm Go.Hm.AM
attribute [local irreducible] St Cd Xt Nx DrL LsW
section
variable {L : RL} {m : AM} {S R : Res} {t k a : Int} {ly ln lf N rl rs : List Int} {sp : Int} {v : Value} {roots : List Int} {φ : Int → Option Nat} {A : Store}
def mvw (m : AM) (a i : Int) : Int → Int := fun x => if decide (m.old ≤ x) && decide (x < m.old + i) then m.word (a + (x - m.old)) else m.word x
theorem mvw_zero : mvw m a 0 = m.word := by
  funext x; unfold mvw; rw [if_neg (by simp)]
theorem mvw_succ {i : Int} (hi : 0 ≤ i) (hap : a + i < m.old ∨ m.old + i ≤ a + i) : fup (mvw m a i) (m.old + i) (mvw m a i (a + i)) = mvw m a (i + 1) := by
  have h1 : mvw m a i (a + i) = m.word (a + i) := by unfold mvw; rw [if_neg (by simp; omega)]
  rw [h1]
  funext x
  by_cases hx : x = m.old + i
  · subst hx; rw [fup_same]; unfold mvw; rw [if_pos (by simp; omega)]; congr 1; omega
  · rw [fup_other hx]; unfold mvw
    by_cases hc : m.old ≤ x ∧ x < m.old + i
    · rw [if_pos (by simp; omega), if_pos (by simp; omega)]
    · rw [if_neg (by simp; omega), if_neg (by simp; omega)]
set_option maxRecDepth 100000 in
theorem rmove_ct (hS : Shp S L.vs m.sh) (h : Gd m ly ln lf N rl sp rs) (o : Ob m a) (hfit : m.old + m.size a ≤ m.base + m.H) (hap : a + m.size a ≤ m.old ∨ m.old + m.size a ≤ a) :
    Ct Tryz.prog 110 #[.pointer (some ⟨L.hb, 0, none⟩), .int .i64 a] (rSH L m S) fun v h' => v = .int .i64 (m.move a).1 ∧ h' = rSH L (m.move a).2 S := by
  have z := h.sz
  have h1 := z.Y0; have h2 := z.Y1; have h3 := z.H0; have h4 := z.H1
  have h6 := h.oldle; have h7 := m.base_former; have h8 := m.size_pos a
  have g1 := o.t0; have g2 := o.t1; have g5 := o.h2
  have hal := fun f => arr_len (rn m) f
  have hrn : rn m = (m.Y + 2 * m.H + 1).toNat := rfl
  unfold rSH AM.move
  refine ct_of (n := 76) Tryz.func110 rfl rfl (len rfl) fun hr w0 => ?_
  refine cS (cR (sV (vA rfl) (sN (nT (cS (cR (sV (vM rfl) (sV (vM rfl) (st_clr rfl rfl en112 rfl (rsize_ct hS z o) ?_)))))))))
  refine sV (vA rfl) (sN (nK [0, 1, 4, 5] rfl (nT (cS (cR (sV (vM rfl) (sV (vN rfl) (sV (vF rfl fa53_7 rfl) (sV (vL rfl ld3) ?_)))))))))
  refine sV (vA rfl) (sN (nK [0, 1, 4, 5, 6] rfl (nT (cS (cS (cR (sV (vA rfl) (sN (nT (cd_block ?_))))))))))
  obtain ⟨n, hn⟩ : ∃ n : Nat, m.size a = n := ⟨(m.size a).toNat, by omega⟩
  refine cd_loop (σ := Nat) (fun i => [(0, .pointer (some ⟨L.hb, 0, none⟩)), (1, .int .i64 a), (5, .int .i64 (m.size a)), (6, .int .i64 m.old), (7, .int .i64 (i : Nat))]) (fun i => [hR L m, aR L.wb m (mvw m a i), eR L m, oR L m, kR L m, S] ++ hr) (fun i => i ≤ n) (fun i => n - i) 0 (Nat.zero_le _) ⟨rfl, rfl, rfl, rfl, rfl, trivial⟩ (by rw [show ((0 : Nat) : Int) = 0 from rfl, mvw_zero]; exact Sub.refl _) ?_
  rintro i hi
  dsimp only
  simp only [List.cons_append, List.nil_append]
  refine cS (cS (cR (sV (vM rfl) (sV (vM rfl) (sV (v_lss rfl rfl) (sN (nK [0, 1, 5, 6, 7, 17] rfl (nT (cC rfl (fun hc => ?_) (fun hc => ?_))))))))))
  · skip
    have hlt : i < n := by simp [hn] at hc; omega
    have hrd : Rd (aR L.wb m (mvw m a i)) ⟨L.wb, (a + i).toNat, none⟩ (.int .i64 (mvw m a i (a + i))) := a_rd (by omega) (by omega)
    have hl2 := hal (mvw m a i)
    refine cK (xT (cS (cd_block (cd_drawh (ork [(0, 2), (1, 2), (2, 2), (3, 1), (4, 2), (5, 2), (6, 2), (7, 2), (8, 2), (9, 2), (10, 1), (11, 2), (12, 2), (13, 2), (14, 2), (15, 1), (16, 2), (17, 0)] .nil) (fun i => !(Nat.beq i 17)) mixed (by kernel_rfl) ?_))))
    refine dV rfl (vM rfl) (dV rfl (vN rfl) (dV rfl (vF rfl fa53_3 rfl) (dr_v rfl (vL rfl ld27) ?_)))
    refine dV rfl (vM rfl) (dV rfl (vM rfl) (dV rfl (v_add rfl rfl (by unfold I64 at *; omega)) (dV rfl (vM rfl) (dV rfl (vN rfl) (dV rfl (vF rfl fa53_3 rfl) (dr_v rfl (vL rfl ld27) ?_))))))
    refine dV rfl (vM rfl) (dV rfl (vM rfl) (dV rfl (v_add rfl rfl (by unfold I64 at *; omega)) (dV rfl (v_idx (a + i).toNat rfl rfl sl27 (by omega) (by omega)) (dr_v rfl (vL rfl ld3) ?_))))
    refine dV rfl (v_idx (m.old + i).toNat rfl rfl sl27 (by omega) (by omega)) (dr_eff rfl (st_sto rfl rfl sz3 (dr_nx ?_)))
    refine dr_nil (nK [0, 1, 5, 6, 7] rfl (nx_xt (xB (xT (cR (sV (vM rfl) (sV (v_add rfl rfl (by unfold I64 at *; omega)) (sV (vA rfl) (sN (nK [0, 1, 5, 6, 7] rfl (nx_xt ?_)))))))))))
    rw [arr_set' (by omega), mvw_succ (by omega) (by omega)]
    refine xt_ag (i + 1) hlt (by omega)
  · skip
    have hge : i = n := by simp [hn] at hc; omega
    subst hge
    rw [show mvw m a (i : Int) = mvw m a (m.size a) by rw [hn]]
    have hrd : Rd (eR L m) ⟨L.eb, a.toNat, none⟩ (.int .i64 (m.head a)) := a_rd (by omega) (by omega)
    have hl2 := hal m.head
    have hl3 := hal m.moved
    refine cd_exit (xE (xE (xt_exit_block (xT (cS (cd_drawh (ork [(0, 2), (1, 2), (2, 2), (3, 1), (4, 2), (5, 2), (6, 2), (7, 2), (8, 1), (9, 2), (10, 2), (11, 1), (12, 2), (13, 0)] .nil) (fun i => !(Nat.beq i 13)) mixed (by kernel_rfl) ?_))))))
    refine dV rfl (vM rfl) (dV rfl (vN rfl) (dV rfl (vF rfl fa53_4 rfl) (dr_v rfl (vL rfl ld27) ?_)))
    refine dV rfl (vM rfl) (dV rfl (vM rfl) (dV rfl (vN rfl) (dV rfl (vF rfl fa53_4 rfl) (dr_v rfl (vL rfl ld27) ?_))))
    refine dV rfl (vM rfl) (dV rfl (v_idx a.toNat rfl rfl sl27 (by omega) (by omega)) (dr_v rfl (vL rfl ld3) ?_))
    refine dV rfl (v_idx m.old.toNat rfl rfl sl27 (by omega) (by omega)) (dr_eff rfl (st_sto rfl rfl sz3 (dr_nx ?_)))
    refine dr_nil (nK [0, 1, 5, 6] rfl (nT (cS (cR (sV (vM rfl) (sV (vN rfl) (sV (vF rfl fa53_5 rfl) (sV (vL rfl ld27) ?_))))))))
    refine sV (vM rfl) (sV (vM rfl) ?_)
    rw [arr_set' (by omega)]
    refine sV (v_idx a.toNat rfl rfl sl27 (by omega) (by omega)) (st_sto rfl rfl sz3 ?_)
    refine sN (nK [0, 1, 5, 6] rfl (nT (cS (cR (sV (vM rfl) (sV (vM rfl) (sV (vM rfl) (sV (v_add rfl rfl (by unfold I64 at *; omega)) (sV (vN rfl) (sV (vF rfl fa53_7 rfl) (st_sto rfl rfl sz3 ?_)))))))))))
    refine sN (nK [0, 1, 5, 6] rfl (nT (cS (cS (cR (sV (vM rfl) (sV (vM rfl) ?_)))))))
    rw [arr_set' (by omega)]
    refine st_clr rfl rfl en74 rfl (isFormer_ct (m := { m with old := m.old + m.size a }) ⟨h1, h2, h3, h4, z.n, z.w⟩) ?_
    refine sN (nK [0, 5, 6, 65] rfl (nT (cC rfl (fun hf => ?_) (fun hf => ?_))))
    · skip
      rw [if_pos (show m.isF a = true from hf)]
      refine cR (sV (vM rfl) (sV (vM rfl) (sV (vN rfl) (sV (vF rfl fa53_11 rfl) (sV (vL rfl ld3) ?_)))))
      refine sV (vM rfl) (sV (v_sub rfl rfl (by unfold I64 at *; omega)) (sV (vN rfl) (sV (vF rfl fa53_11 rfl) (st_sto rfl rfl sz3 ?_))))
      refine sN (nK [6] rfl (nT (cS (cR (sV (vM rfl) (sV (vA rfl) (sN (nK [4] rfl (nT (cT ?_))))))))))
      exact xt_rt rfl ⟨rfl, rfl⟩
    · skip
      rw [if_neg (show ¬ m.isF a = true by rw [show m.isF a = false from hf]; simp)]
      refine cK (xT (cS (cR (sV (vM rfl) (sV (vA rfl) (sN (nK [4] rfl (nT (cT ?_)))))))))
      exact xt_rt rfl ⟨rfl, rfl⟩
def Ours (m : AM) (N rs lf : List Int) (y : Bool) (v : Int) : Prop := m.ours y v = true → if y then v ∈ N ∧ v ∈ rs else v ∈ lf
set_option maxRecDepth 100000 in
theorem rfwd_ct (hS : Shp S L.vs m.sh) (h : Gd m ly ln lf N rl sp rs) {y : Bool} {w : Int} (hv : Ours m N rs lf y w) :
    Ct Tryz.prog 98 #[.pointer (some ⟨L.hb, 0, none⟩), .int .i64 w, .bool y] (rSH L m S) fun u h' => u = .int .i64 (m.fwd y w).1 ∧ h' = rSH L (m.fwd y w).2 S := by
  have z := h.sz
  unfold Ours at hv
  unfold AM.fwd
  have hmem : m.ours y w = true → Ob m w ∧ (m.moved w = 0 → m.old + m.size w ≤ m.base + m.H ∧ (w + m.size w ≤ m.old ∨ m.old + m.size w ≤ w)) := fun ho => by
    have := hv ho
    cases y with
    | true =>
      simp only [if_true] at this
      refine ⟨ob_y h (h.NY w this.1), fun h0 => ?_⟩
      have hf := h.nfit this.2 h0
      exact ⟨hf, h.outside hf (.inl (h.NY w this.1))⟩
    | false =>
      simp only [Bool.false_eq_true, if_false] at this
      refine ⟨ob_f h this, fun h0 => ?_⟩
      have hf := h.hfit this h0
      exact ⟨hf, h.outside hf (.inr (.inr this))⟩
  have hpos := h.mpos w
  unfold rSH
  refine ct_of (n := 36) Tryz.func98 rfl rfl (len rfl) fun hr w0 => ?_
  refine cS (cR (sV (vA rfl) (sN (nT (cS (cR (sV (vM rfl) (sV (vM rfl) (st_clr rfl rfl en74 rfl (isFormer_ct z) ?_)))))))))
  refine sV (vA rfl) (sN (nK [0, 1, 2, 6, 7] rfl (nT (cS (cS (cR (sV (vM rfl) (sN (nK [0, 1, 6, 7, 11] rfl (nT ?_))))))))))
  cases y with
  | false =>
    refine cd_false rfl ?_
    refine cK (xT (cS (cS (cR (sV (vM rfl) (sV (v_not rfl) (sN (nK [0, 1, 6, 16] rfl (nT (cC rfl (fun hc => ?_) (fun hc => ?_)))))))))))
    · skip
      rw [if_neg (show ¬ m.ours false w = true by simpa [AM.ours] using hc)]
      refine cS (cR (sV (vM rfl) (sV (vA rfl) (sN (nK [0, 1, 6] rfl (nT (cT (xR ?_))))))))
      exact xt_rt rfl ⟨rfl, rfl⟩
    · skip
      have ho : m.ours false w = true := by simpa [AM.ours] using hc
      obtain ⟨o, hfit⟩ := hmem ho
      have g1 := o.t0; have g2 := o.t1; have hrn : rn m = (m.Y + 2 * m.H + 1).toNat := rfl
      have hrd : Rd (oR L m) ⟨L.ob, w.toNat, none⟩ (.int .i64 (m.moved w)) := a_rd (by omega) (by omega)
      rw [if_pos ho]
      refine cK (xT (cS (cS (cR (sV (vM rfl) (sV (vN rfl) (sV (vF rfl fa53_5 rfl) (sV (vL rfl ld27) ?_))))))))
      refine sV (vM rfl) (sV (v_idx w.toNat rfl rfl sl27 (by omega) (by omega)) (sV (vL rfl ld3) ?_))
      refine sV (v_gtr rfl rfl) (sN (nK [0, 1, 6, 25] rfl (nT (cC rfl (fun hd => ?_) (fun hd => ?_)))))
      · skip
        rw [if_pos (by simpa using hd)]
        refine cS (cR (sV (vM rfl) (sV (vN rfl) (sV (vF rfl fa53_5 rfl) (sV (vL rfl ld27) ?_)))))
        refine sV (vM rfl) (sV (v_idx w.toNat rfl rfl sl27 (by omega) (by omega)) (sV (vL rfl ld3) ?_))
        refine sV (vA rfl) (sN (nK [0, 1, 6] rfl (nT (cT (xR ?_)))))
        exact xt_rt rfl ⟨rfl, rfl⟩
      · skip
        have h0 : m.moved w = 0 := by by_cases h0 : m.moved w = 0
                                      · exact h0
                                      · have := hpos h0; simp at hd; omega
        rw [if_neg (by omega)]
        refine cK (xT (cS (cR (sV (vM rfl) (sV (vM rfl) (st_cl rfl rfl en110 rfl (rmove_ct hS h o (hfit h0).1 (hfit h0).2) ?_))))))
        rintro v' h' ⟨rfl, rfl⟩
        unfold rSH
        simp only [List.cons_append, List.nil_append]
        refine sV (vA rfl) (sN (nK [6] rfl (nT (cT ?_))))
        exact xt_rt rfl ⟨rfl, rfl⟩
  | true =>
    refine cd_true rfl ?_
    refine cR (sV (vM rfl) (sV (vM rfl) (st_clr rfl rfl en100 rfl (isYoung_ct) ?_)))
    refine sV (vA rfl) (sN (nK [0, 1, 6, 7] rfl (nT (cS (cS (cR (sV (vM rfl) (sV (v_not rfl) (sN (nK [0, 1, 6, 16] rfl (nT (cC rfl (fun hc => ?_) (fun hc => ?_)))))))))))))
    · skip
      rw [if_neg (show ¬ m.ours true w = true by simpa [AM.ours] using hc)]
      refine cS (cR (sV (vM rfl) (sV (vA rfl) (sN (nK [0, 1, 6] rfl (nT (cT (xR ?_))))))))
      exact xt_rt rfl ⟨rfl, rfl⟩
    · skip
      have ho : m.ours true w = true := by simpa [AM.ours] using hc
      obtain ⟨o, hfit⟩ := hmem ho
      have g1 := o.t0; have g2 := o.t1; have hrn : rn m = (m.Y + 2 * m.H + 1).toNat := rfl
      have hrd : Rd (oR L m) ⟨L.ob, w.toNat, none⟩ (.int .i64 (m.moved w)) := a_rd (by omega) (by omega)
      rw [if_pos ho]
      refine cK (xT (cS (cS (cR (sV (vM rfl) (sV (vN rfl) (sV (vF rfl fa53_5 rfl) (sV (vL rfl ld27) ?_))))))))
      refine sV (vM rfl) (sV (v_idx w.toNat rfl rfl sl27 (by omega) (by omega)) (sV (vL rfl ld3) ?_))
      refine sV (v_gtr rfl rfl) (sN (nK [0, 1, 6, 25] rfl (nT (cC rfl (fun hd => ?_) (fun hd => ?_)))))
      · skip
        rw [if_pos (by simpa using hd)]
        refine cS (cR (sV (vM rfl) (sV (vN rfl) (sV (vF rfl fa53_5 rfl) (sV (vL rfl ld27) ?_)))))
        refine sV (vM rfl) (sV (v_idx w.toNat rfl rfl sl27 (by omega) (by omega)) (sV (vL rfl ld3) ?_))
        refine sV (vA rfl) (sN (nK [0, 1, 6] rfl (nT (cT (xR ?_)))))
        exact xt_rt rfl ⟨rfl, rfl⟩
      · skip
        have h0 : m.moved w = 0 := by by_cases h0 : m.moved w = 0
                                      · exact h0
                                      · have := hpos h0; simp at hd; omega
        rw [if_neg (by omega)]
        refine cK (xT (cS (cR (sV (vM rfl) (sV (vM rfl) (st_cl rfl rfl en110 rfl (rmove_ct hS h o (hfit h0).1 (hfit h0).2) ?_))))))
        rintro v' h' ⟨rfl, rfl⟩
        unfold rSH
        simp only [List.cons_append, List.nil_append]
        refine sV (vA rfl) (sN (nK [6] rfl (nT (cT ?_))))
        exact xt_rt rfl ⟨rfl, rfl⟩
end
end Go.Proofs.YtmhmpjgkkpbnnaaGreat
namespace Go.Proofs.YtmhmpjgkkpbnnaaGreat
open Go.Ck Fx Go.Hm Go.Hm.AM
attribute [local irreducible] St Cd Xt Nx DrL LsW
section
variable {L : RL} {m : AM} {S R : Res} {t k a : Int} {ly ln lf N rl rs : List Int} {sp : Int} {v : Value} {roots : List Int} {φ : Int → Option Nat} {A : Store}
theorem rn_fwd (m : AM) (y : Bool) (w : Int) : rn (m.fwd y w).2 = rn m := by unfold AM.fwd; split <;> (try split) <;> rfl
theorem Good.ours_f (h : AM.Good m ly ln lf φ A) {t : Int} (ht : t ∈ ly ∨ t ∈ ln) {p : Int} (hp : p ∈ m.pl t) : Ours m ly [] lf false (m.word p) := fun ho => by
  have hF : m.isF (m.word p) = true := ho
  simp only [Bool.false_eq_true, if_false]
  rcases ht with ht | ht
  · rcases h.g.wy t ht _ hp with g | g | g
    · rw [h.g.isFn (.inl g)] at hF; cases hF
    · rw [h.g.isFn (.inr (.inl g))] at hF; cases hF
    · rw [h.g.isFn (.inr (.inr g))] at hF; cases hF
  · rcases h.g.wo t ht _ hp with g | g | g | g
    · rw [h.g.isFn (.inl g)] at hF; cases hF
    · rw [h.g.isFn (.inr (.inr g))] at hF; cases hF
    · rw [h.g.isFn (.inr (.inl g.1))] at hF; cases hF
    · exact g.1
theorem ob_of (h : Gd m ly ln lf N rl sp rs) (ht : t ∈ ly ∨ t ∈ ln) : Ob m t := ht.elim (ob_y h) (ob_n h)
set_option maxRecDepth 100000 in
theorem rget_ct (hS : Shp S L.vs m.sh) (h : AM.Good m ly ln lf φ A) (t k : Int) :
    Ct Tryz.prog 66 #[.pointer (some ⟨L.hb, 0, none⟩), .int .i64 t, .int .i64 k] (rSH L m S) fun u h' => u = .tuple #[.int .i64 (m.get t k).1, .int .i64 (m.get t k).2.1] ∧ h' = rSH L (m.get t k).2.2 S := by
  have z := h.g.sz
  have h1 := z.Y0; have h2 := z.Y1; have h3 := z.H0; have h4 := z.H1
  unfold rSH AM.get
  refine ct_of (n := 59) Tryz.func66 rfl rfl (len rfl) fun hr w0 => ?_
  refine cS (cR (sV (vA rfl) (sV (vA rfl) (sN (nT (cS (cR (sV (vM rfl) (sV (vM rfl) (sV (vM rfl) (st_clr rfl rfl en97 rfl (rfield_ct hS h.g) ?_)))))))))))
  refine sV (vA rfl) (sN (nK [0, 1, 2, 6, 7, 8] rfl (nT (cS (cS (cR (sV (vM rfl) (sV (v_neq rfl rfl) (sN (nK [0, 1, 2, 6, 7, 8, 14] rfl (nT (cC rfl (fun hc => ?_) (fun hc => ?_)))))))))))))
  · skip
    rw [if_pos (show m.fe t k ≠ 0 by simpa using hc)]
    refine cS (cR (sV (vM rfl) (sV (vA rfl) (sV (vA rfl) (sN (nK [0, 1, 2, 6, 7] rfl (nT (cT (xR ?_)))))))))
    exact xt_rt rfl ⟨rfl, rfl⟩
  · skip
    have he : m.fe t k = 0 := by simpa using hc
    rw [if_neg (show ¬ m.fe t k ≠ 0 by rw [he]; simp)]
    obtain ⟨ht, j, hkj, hj⟩ := h.g.field he
    subst hkj
    have o := ob_of h.g ht
    have g1 := o.t0; have g2 := o.t1; have g5 := o.h2; have hlen := o.len z
    have hsz : m.size t = 1 + (m.row t).length := rfl
    have hrn : rn m = (m.Y + 2 * m.H + 1).toNat := rfl
    obtain ⟨u, hu, hct⟩ := rshape_ct hS z o
    obtain ⟨b, q, cp, hue, hrd⟩ := hu.at hj
    have href : (m.row t)[j] = m.ref t j := by unfold AM.ref; rw [Int.toNat_natCast, List.getD_eq_getElem?_getD, List.getElem?_eq_getElem hj]; rfl
    rw [href] at hrd
    have hrd1 : Rd (wR L m) ⟨L.wb, (t + 1 + j).toNat, none⟩ (.int .i64 (m.word (t + 1 + j))) := a_rd (by omega) (by omega)
    refine cK (xT (cS (cS (cR (sV (vM rfl) (sV (vM rfl) (st_clr rfl rfl en38 rfl (hct) ?_)))))))
    refine sV (vM rfl) (sV (v_ixo j (congrArg some hue) rfl sl55 rfl hj) (sV (vL rfl ld4) ?_))
    refine sV (vM rfl) ?_
    cases hr : m.ref t j
    · skip
      rw [hr] at hrd
      refine st_sk rfl rfl rfl ?_
      refine st_sk rfl rfl rfl ?_
      refine st_sk rfl rfl rfl ?_
      refine st_sk rfl rfl rfl ?_
      refine sV (vP rfl rfl) (sN (nK [0, 1, 2, 6, 7, 27] rfl (nT (cd_false rfl ?_))))
      refine cK (xT (cS (cR (sV (vM rfl) (sV (vN rfl) (sV (vF rfl fa53_3 rfl) (sV (vL rfl ld27) ?_)))))))
      refine sV (vM rfl) (sV (v_add rfl rfl (by unfold I64 at *; omega)) (sV (vM rfl) (sV (v_add rfl rfl (by unfold I64 at *; omega)) (sV (v_idx (t + 1 + j).toNat rfl rfl sl27 (by omega) (by omega)) (sV (vL rfl ld3) ?_)))))
      refine sV (vA rfl) (sV (vA rfl) (sN (nK [6, 7] rfl (nT (cT ?_)))))
      exact xt_rt rfl ⟨rfl, rfl⟩
    · skip
      refine st_vg rfl rfl (vM rfl) (st_vg rfl rfl (vN rfl) (st_vg rfl rfl (vF rfl fa53_9 rfl) (st_vg rfl rfl (vL rfl ld4) ?_)))
      refine sV (v_pick_true rfl rfl) (sN (nK [0, 1, 2, 6, 7, 27] rfl (nT (cC rfl (fun hb => ?_) (fun hb => ?_)))))
      · skip
        rw [hb]
        refine cd_drawh (ork [(0, 2), (1, 2), (2, 2), (4, 2), (5, 2), (6, 2), (7, 2), (8, 2), (9, 2), (10, 2), (11, 2), (12, 1), (13, 2), (14, 2), (15, 2), (16, 2), (17, 2), (18, 1)] (.two 3 (ork [(19, 0), (20, 2), (21, 0)] .nil) 19 (ork [(3, 0), (20, 2), (21, 0)] .nil))) (fun i => !(Nat.beq i 19 || Nat.beq i 21)) mixed (by kernel_rfl) ?_
        refine dV rfl (vM rfl) (dV rfl (vN rfl) (dV rfl (vF rfl fa53_3 rfl) (dV rfl (vM rfl) (dV rfl (v_add rfl rfl (by unfold I64 at *; omega)) (dV rfl (vM rfl) (dV rfl (v_add rfl rfl (by unfold I64 at *; omega)) (dV rfl (vM rfl) (dV rfl (vM rfl) (dV rfl (vN rfl) (dV rfl (vF rfl fa53_3 rfl) (dr_v rfl (vL rfl ld27) ?_)))))))))))
        refine dV rfl (vM rfl) (dV rfl (v_add rfl rfl (by unfold I64 at *; omega)) (dV rfl (vM rfl) (dV rfl (v_add rfl rfl (by unfold I64 at *; omega)) (dV rfl (v_idx (t + 1 + j).toNat rfl rfl sl27 (by omega) (by omega)) (dr_v rfl (vL rfl ld3) ?_)))))
        refine dr_two rfl rfl ?_ ?_
        · skip
          refine sV (vL rfl ld27) (dr_nx ?_)
          refine dr_eff rfl (st_cl rfl rfl en98 rfl (rfwd_ct hS h.g (Good.ours_f h ht (mem_pl.2 ⟨j, (ref_iff hj).1 hr, rfl⟩))) ?_)
          rintro v' h' ⟨rfl, rfl⟩
          unfold rSH
          simp only [List.cons_append, List.nil_append]
          have hrn1 := rn_fwd m false (m.word (t + 1 + j))
          have hal := arr_len (rn (m.fwd false (m.word (t + 1 + j))).2) (m.fwd false (m.word (t + 1 + j))).2.word
          refine dr_nx ?_
          refine dV rfl (v_idx (t + 1 + j).toNat rfl rfl sl27 (by omega) (by omega)) (dr_eff rfl (st_sto rfl rfl sz3 (dr_nx ?_)))
          refine dr_nil (nK [0, 1, 2, 6, 7] rfl (nT (cS (cR (sV (vM rfl) (sV (vN rfl) (sV (vF rfl fa53_3 rfl) (sV (vL rfl ld27) ?_))))))))
          refine sV (vM rfl) (sV (v_add rfl rfl (by unfold I64 at *; omega)) (sV (vM rfl) (sV (v_add rfl rfl (by unfold I64 at *; omega)) ?_)))
          rw [arr_set' (by omega)]
          have hrd2 : Rd (aR L.wb (m.fwd false (m.word (t + 1 + j))).2 (fup (m.fwd false (m.word (t + 1 + j))).2.word (t + 1 + j) (m.fwd false (m.word (t + 1 + j))).1)) ⟨L.wb, (t + 1 + j).toNat, none⟩ (.int .i64 (fup (m.fwd false (m.word (t + 1 + j))).2.word (t + 1 + j) (m.fwd false (m.word (t + 1 + j))).1 (t + 1 + j))) := by
            unfold aR; rw [hrn1]; exact a_rd (m := m) (by omega) (by omega)
          refine sV (v_idx (t + 1 + j).toNat rfl rfl sl27 (by omega) (by omega)) (sV (vL rfl ld3) ?_)
          refine sV (vA rfl) (sV (vA rfl) (sN (nK [6, 7] rfl (nT (cT ?_)))))
          exact xt_rt rfl ⟨rfl, rfl⟩
        · skip
          refine st_cl rfl rfl en98 rfl (rfwd_ct hS h.g (Good.ours_f h ht (mem_pl.2 ⟨j, (ref_iff hj).1 hr, rfl⟩))) ?_
          rintro v' h' ⟨rfl, rfl⟩
          unfold rSH
          simp only [List.cons_append, List.nil_append]
          have hrn1 := rn_fwd m false (m.word (t + 1 + j))
          have hal := arr_len (rn (m.fwd false (m.word (t + 1 + j))).2) (m.fwd false (m.word (t + 1 + j))).2.word
          refine dr_nx ?_
          refine dr_eff rfl (sV (vL rfl ld27) (dr_nx ?_))
          refine dV rfl (v_idx (t + 1 + j).toNat rfl rfl sl27 (by omega) (by omega)) (dr_eff rfl (st_sto rfl rfl sz3 (dr_nx ?_)))
          refine dr_nil (nK [0, 1, 2, 6, 7] rfl (nT (cS (cR (sV (vM rfl) (sV (vN rfl) (sV (vF rfl fa53_3 rfl) (sV (vL rfl ld27) ?_))))))))
          refine sV (vM rfl) (sV (v_add rfl rfl (by unfold I64 at *; omega)) (sV (vM rfl) (sV (v_add rfl rfl (by unfold I64 at *; omega)) ?_)))
          rw [arr_set' (by omega)]
          have hrd2 : Rd (aR L.wb (m.fwd false (m.word (t + 1 + j))).2 (fup (m.fwd false (m.word (t + 1 + j))).2.word (t + 1 + j) (m.fwd false (m.word (t + 1 + j))).1)) ⟨L.wb, (t + 1 + j).toNat, none⟩ (.int .i64 (fup (m.fwd false (m.word (t + 1 + j))).2.word (t + 1 + j) (m.fwd false (m.word (t + 1 + j))).1 (t + 1 + j))) := by
            unfold aR; rw [hrn1]; exact a_rd (m := m) (by omega) (by omega)
          refine sV (v_idx (t + 1 + j).toNat rfl rfl sl27 (by omega) (by omega)) (sV (vL rfl ld3) ?_)
          refine sV (vA rfl) (sV (vA rfl) (sN (nK [6, 7] rfl (nT (cT ?_)))))
          exact xt_rt rfl ⟨rfl, rfl⟩
      · skip
        rw [hb]
        refine cK (xT (cS (cR (sV (vM rfl) (sV (vN rfl) (sV (vF rfl fa53_3 rfl) (sV (vL rfl ld27) ?_)))))))
        refine sV (vM rfl) (sV (v_add rfl rfl (by unfold I64 at *; omega)) (sV (vM rfl) (sV (v_add rfl rfl (by unfold I64 at *; omega)) (sV (v_idx (t + 1 + j).toNat rfl rfl sl27 (by omega) (by omega)) (sV (vL rfl ld3) ?_)))))
        refine sV (vA rfl) (sV (vA rfl) (sN (nK [6, 7] rfl (nT (cT ?_)))))
        exact xt_rt rfl ⟨rfl, rfl⟩
end
end Go.Proofs.YtmhmpjgkkpbnnaaGreat
namespace Go.Ck
open Go Go.RowKit
theorem EqI.ofArr2 {P : Program} {T E : TypeId} {i : TypeInfo} (h1 : P.underlying T = some (.array 2 E)) (h2 : isI64 (P.underlying E) = true) (h3 : P.eqGuardType P.depth T = false) (hi : P.info? E = some i) (hc : P.cellsOf E = 1) : EqI P T 2 := by
  refine ⟨h3, fun xs ys w hx hy => ?_⟩
  have hu : P.underlying E = some (.int .i64) := by
    unfold isI64 at h2; split at h2
    · assumption
    · cases h2
  match xs, ys, hx, hy with
  | [a, b], [x, y], _, _ =>
    rw [run_equalIn_array (w := w) (d := 9999) (xs := (ints [a, b]).toArray) (ys := (ints [x, y]).toArray) h1 hi, hc]
    rw [show List.range 2 = [0, 1] from rfl]
    have q : ∀ (a b : Int) (w : World), (Op.equalIn 9999 E (.int .i64 a) (.int .i64 b)).run P w = .ok (a == b) w := fun a b w => run_equalIn_int w 9998 E .i64 .i64 a b hu
    have p0 := fun (a b : Int) (w : World) => run_part_int (T := E) h2 (xs := [a, b]) (i := 0) (x := a) rfl w
    have p1 := fun (a b : Int) (w : World) => run_part_int (T := E) h2 (xs := [a, b]) (i := 1) (x := b) rfl w
    simp only [Op.eqItems, Sem.run_bind, Nat.mul_one, p0, p1, q, Result.andThen_ok]
    by_cases ha : a = x
    · by_cases hb : b = y
      · simp [ha, hb, p1, q]
      · simp [ha, hb, p1, q]
    · simp [ha]
end Go.Ck
namespace Go.Proofs.YtmhmpjgkkpbnnaaGreat
open Go.Ck Fx Go.Hm Go.Hm.AM
attribute [local irreducible] St Cd Xt Nx DrL LsW
theorem ld147 : LdN Tryz.prog 147 2 := LdN.ofArr Tryz.underlying147 sz147
theorem eqi147 : EqI Tryz.prog 147 2 := by
  obtain ⟨i, hi⟩ : ∃ i, Tryz.prog.info? 3 = some i := Option.isSome_iff_exists.1 (by kernel_rfl)
  exact EqI.ofArr2 Tryz.underlying147 (by kernel_rfl) (by kernel_rfl) hi (by kernel_rfl)
end Go.Proofs.YtmhmpjgkkpbnnaaGreat
namespace Go.Proofs.YtmhmpjgkkpbnnaaGreat
open Go.Ck Fx Go.Hm Go.Hm.AM
attribute [local irreducible] St Cd Xt Nx DrL LsW
section
variable {L : RL} {m : AM} {S R : Res} {t k a : Int} {ly ln lf N rl rs : List Int} {sp : Int} {v : Value} {roots : List Int} {φ : Int → Option Nat} {A : Store}
theorem rem_rds {v : Value} {l : List (Int × Int)} {b m cp k : Nat} {p : Int × Int} (hv : v = .slice (some ⟨b, 0, none⟩) m cp) (hk : l[k]? = some p) : Rds (vec v 147 2 l.length (kc l)) b (k * 2) (ints [p.1, p.2]) := fun i hi => by
  obtain ⟨h1, h2⟩ := kc_get hk
  match i, hi with
  | 0, _ => exact rd_vec hv h1
  | 1, _ => exact rd_vec hv h2
  | i + 2, hi => simp [ints] at hi; omega
def AM.remd (m : AM) (t k : Int) : AM := if m.rem.contains (t, k) then m else { m with rem := m.rem ++ [(t, k)] }
set_option maxRecDepth 100000 in
theorem remember_ct (hl : m.rem.length ≤ 1000000) (t k : Int) : Ct Tryz.prog 101 #[.pointer (some ⟨L.hb, 0, none⟩), .int .i64 t, .int .i64 k] [hR L m, kR L m] fun u h' => u = .tuple #[] ∧ ∃ vk, h' = [hR { L with vk := vk } (AM.remd m t k), kR { L with vk := vk } (AM.remd m t k)] := by
  unfold AM.remd
  refine ct_of (n := 39) Tryz.func101 rfl rfl (len rfl) fun hr w0 => ?_
  refine cd_vecshape (v := L.vk) (by unfold kR; repeat (first | exact Sel.here | apply Sel.there)) fun ka kcp hkv hka => ?_
  refine cS (cS (cR (sV (vA rfl) (sN (nT (cd_block (cd_loop (σ := Nat) (fun i => [(0, .pointer (some ⟨L.hb, 0, none⟩)), (1, .int .i64 t), (2, .int .i64 k), (6, .int .i64 (i : Nat))]) (fun _ => [hR L m, kR L m] ++ hr) (fun i => i ≤ m.rem.length ∧ (m.rem.take i).contains (t, k) = false) (fun i => m.rem.length - i) 0 ⟨Nat.zero_le _, rfl⟩ ⟨rfl, rfl, rfl, rfl, trivial⟩ (Sub.refl _) ?_)))))))
  rintro i ⟨hi, hne⟩
  simp only [List.cons_append, List.nil_append]
  refine cS (cS (cR (sV (vM rfl) (sV (vM rfl) (sV (vN rfl) (sV (vF rfl fa53_12 rfl) (sV (vL rfl ld51) ?_)))))))
  refine sV (v_len (congrArg some hkv) Tryz.underlying51) (sV (v_lss rfl rfl) (sN (nK [0, 1, 2, 6, 13] rfl (nT (cC rfl (fun hc => ?_) (fun hc => ?_))))))
  · skip
    have hlt : i < m.rem.length := by simpa using hc
    obtain ⟨b, rfl⟩ := hka (by omega)
    have hp : m.rem[i]? = some m.rem[i] := List.getElem?_eq_getElem hlt
    have htk : (m.rem.take (i + 1)).contains (t, k) = ((t, k) == m.rem[i]) := by
      rw [List.take_succ_eq_append_getElem hlt]
      simp only [List.contains_append, hne, Bool.false_or, List.contains_cons, List.contains_nil, Bool.or_false]
    refine cK (xT (cS (cd_block (cS (cR (sV (vM rfl) (sV (vN rfl) (sV (vF rfl fa53_12 rfl) (sV (vL rfl ld51) ?_)))))))))
    refine sV (vM rfl) (sV (v_indexAddr (congrArg some hkv) rfl sl51 rfl hlt (Nat.zero_add _)) (sV (v_loadR (r := kR L m) rfl ld147 rfl (by repeat (first | exact Sel.here | apply Sel.there)) (rem_rds hkv hp)) ?_))
    refine sV (vM rfl) (sV (vM rfl) (sV (v_build (cells := [.int .i64 t, .int .i64 k]) rfl (fun _ => by kernel_rfl)) ?_))
    refine sV (v_eql_ints (xs := [m.rem[i].1, m.rem[i].2]) (ys := [t, k]) eqi147 rfl rfl rfl rfl) (sN (nK [0, 1, 2, 6, 26] rfl (nT (cC rfl (fun hd => ?_) (fun hd => ?_)))))
    · skip
      have he : m.rem[i] = (t, k) := by simp at hd; exact Prod.ext hd.1 hd.2
      have hcn : m.rem.contains (t, k) = true := by rw [List.contains_iff_mem, ← he]; exact List.getElem_mem hlt
      rw [if_pos hcn]
      refine cT (xt_ret_block (xR (xR (xt_ret_block (xR ?_)))))
      exact xt_rt rfl ⟨rfl, L.vk, rfl⟩
    · skip
      refine cK (xB (xT (cR (sV (vM rfl) (sV (v_add rfl rfl (by unfold I64 at *; omega)) (sV (vA rfl) (sN (nK [0, 1, 2, 6] rfl (nx_xt ?_)))))))))
      refine xt_ag (i + 1) ⟨hlt, by rw [htk]; exact beq_eq_false_iff_ne.2 fun e => by rw [← e] at hd; simp at hd⟩ (by omega)
  · skip
    have hge : i = m.rem.length := by have : ¬ i < m.rem.length := by simpa using hc
                                      omega
    rw [hge, List.take_length] at hne
    rw [if_neg (by rw [hne]; simp)]
    refine cd_exit (xE (xE (xt_exit_block (xT (cR (sV (vM rfl) (sV (vM rfl) (sV (vN rfl) (sV (vF rfl fa53_12 rfl) (sV (vL rfl ld51) ?_))))))))))
    refine sV (vM rfl) (sV (vM rfl) (sV (v_build (cells := [.int .i64 t, .int .i64 k]) rfl (fun _ => by kernel_rfl)) ?_))
    refine st_buildSlice (cells := [.int .i64 t, .int .i64 k]) rfl Tryz.underlying51 inf147 rfl rfl (by kernel_rfl) (ltn rfl) fun b35 => ?_
    refine st_append (news := [.int .i64 t, .int .i64 k]) rfl rfl Tryz.underlying51 inf147 rfl (ltn rfl) (show Sel _ (vec L.vk 147 2 m.rem.length (kc m.rem)) _ by repeat (first | exact Sel.here | apply Sel.there)) rfl (fun j u hu => by repeat (first | exact at_here (rd_cl (by simpa using hu)) | apply at_there)) (ones rfl) (by omega) (by omega) (ltn rfl) fun vk hvk hv1 => ?_
    have ek : kR { L with vk := vk } { m with rem := m.rem ++ [(t, k)] } = vec vk 147 2 (m.rem.length + 1) (kc m.rem ++ [.int .i64 t, .int .i64 k]) := by
      unfold kR; simp [kc]
    refine sV (vN rfl) (sV (vF rfl fa53_12 rfl) (st_sto rfl rfl sz51 ?_))
    refine sN (nK [] rfl (nx_xt ?_))
    exact xt_en rfl ⟨rfl, vk, by rw [ek]⟩
set_option maxRecDepth 100000 in
theorem rset_ct (hS : Shp S L.vs m.sh) (h : AM.Good m ly ln lf φ A) (t k w : Int) :
    Ct Tryz.prog 67 #[.pointer (some ⟨L.hb, 0, none⟩), .int .i64 t, .int .i64 k, .int .i64 w] (rSH L m S) fun u h' => u = .int .i64 (m.set t k w).1 ∧ ∃ vk, h' = rSH { L with vk := vk } (m.set t k w).2 S := by
  have z := h.g.sz
  have h1 := z.Y0; have h2 := z.Y1; have h3 := z.H0; have h4 := z.H1
  unfold rSH AM.set
  refine ct_of (n := 60) Tryz.func67 rfl rfl (len rfl) fun hr w0 => ?_
  refine cS (cR (sV (vA rfl) (sN (nT (cS (cR (sV (vM rfl) (sV (vM rfl) (sV (vM rfl) (st_clr rfl rfl en97 rfl (rfield_ct hS h.g) ?_))))))))))
  refine sV (vA rfl) (sN (nK [0, 1, 2, 3, 8, 9] rfl (nT (cS (cS (cR (sV (vM rfl) (sV (v_neq rfl rfl) (sN (nK [0, 1, 2, 3, 8, 9, 17] rfl (nT (cC rfl (fun hc => ?_) (fun hc => ?_)))))))))))))
  · skip
    rw [if_pos (show m.fe t k ≠ 0 by simpa using hc)]
    refine cS (cR (sV (vM rfl) (sV (vA rfl) (sN (nK [0, 1, 2, 3, 8] rfl (nT (cT (xR ?_))))))))
    exact xt_rt rfl ⟨rfl, L.vk, rfl⟩
  · skip
    have he : m.fe t k = 0 := by simpa using hc
    rw [if_neg (show ¬ m.fe t k ≠ 0 by rw [he]; simp)]
    obtain ⟨ht, j, hkj, hj⟩ := h.g.field he
    subst hkj
    have o := ob_of h.g ht
    have g1 := o.t0; have g2 := o.t1; have g5 := o.h2; have hlen := o.len z
    have hsz : m.size t = 1 + (m.row t).length := rfl
    have hrn : rn m = (m.Y + 2 * m.H + 1).toNat := rfl
    have hal := arr_len (rn m) m.word
    obtain ⟨u, hu, hct⟩ := rshape_ct hS z o
    obtain ⟨b, q, cp, hue, hrd⟩ := hu.at hj
    have href : (m.row t)[j] = m.ref t j := by unfold AM.ref; rw [Int.toNat_natCast, List.getD_eq_getElem?_getD, List.getElem?_eq_getElem hj]; rfl
    rw [href] at hrd
    refine cK (xT (cS (cR (sV (vM rfl) (sV (vM rfl) (st_clr rfl rfl en38 rfl (hct) ?_))))))
    refine sV (vM rfl) (sV (v_ixo j (congrArg some hue) rfl sl55 rfl hj) (sV (vL rfl ld4) ?_))
    refine sV (vA rfl) (sN (nK [0, 1, 2, 3, 8, 10] rfl (nT (cS (cS (cR (sV (vM rfl) (sV (vM rfl) ?_))))))))
    have hrl : (m.put (t + 1 + j) w).rem.length ≤ 1000000 := rem_len (m := m) h
    dsimp only
    cases hr : m.ref t j
    · skip
      rw [hr] at hrd
      refine st_sk rfl rfl rfl ?_
      refine st_sk rfl rfl rfl ?_
      refine sV (vP rfl rfl) (sN (nK [0, 1, 2, 3, 8, 10, 29] rfl (nT (cd_false rfl ?_))))
      refine cK (xT (cS (cR (sV (vM rfl) (sV (vN rfl) (sV (vF rfl fa53_3 rfl) (sV (vL rfl ld27) ?_)))))))
      refine sV (vM rfl) (sV (v_add rfl rfl (by unfold I64 at *; omega)) (sV (vM rfl) (sV (v_add rfl rfl (by unfold I64 at *; omega)) (sV (vM rfl) (sV (v_idx (t + 1 + j).toNat rfl rfl sl27 (by omega) (by omega)) (st_sto rfl rfl sz3 ?_))))))
      refine sN (nK [0, 1, 2, 3, 8, 10] rfl (nT (cS (cS (cR (sV (vM rfl) (sV (vM rfl) ?_)))))))
      rw [arr_set' (by omega)]
      refine st_sk rfl rfl rfl ?_
      refine st_sk rfl rfl rfl ?_
      refine st_sk rfl rfl rfl ?_
      refine sV (vP rfl rfl) (sV (vM rfl) (st_sk rfl rfl rfl ?_))
      refine st_sk rfl rfl rfl ?_
      refine st_sk rfl rfl rfl ?_
      refine sV (vP rfl rfl) (sN (nK [0, 1, 2, 8, 55] rfl (nT (cd_false rfl ?_))))
      refine cK (xT (cS (cR (sV (vA rfl) (sN (nK [8] rfl (nT (cT ?_))))))))
      exact xt_rt rfl ⟨rfl, L.vk, rfl⟩
    · skip
      refine st_vg rfl rfl (vM rfl) (st_vg rfl rfl (v_neq rfl rfl) (sV (v_pick_true rfl rfl) (sN (nK [0, 1, 2, 3, 8, 10, 29] rfl (nT (cC rfl (fun hz => ?_) (fun hz => ?_)))))))
      · skip
        refine cS (cR (sV (vM rfl) (sV (vM rfl) (st_clr rfl rfl en73 rfl (rcurrent_ct z) ?_))))
        refine sV (vA rfl) (sN (nK [0, 1, 2, 3, 8, 10, 11] rfl (nT (cS (cR (sV (vM rfl) (sV (v_not rfl) (sN (nK [0, 1, 2, 3, 8, 10, 34] rfl (nT (cC rfl (fun hcu => ?_) (fun hcu => ?_))))))))))))
        · skip
          rw [if_pos (show (true && w != 0 && !m.cur w) = true by rw [hz, hcu]; rfl)]
          refine cS (cR (sV (vA rfl) (sN (nK [0, 1, 2, 3, 8, 10] rfl (nT (cT (xR ?_)))))))
          exact xt_rt rfl ⟨rfl, L.vk, rfl⟩
        · skip
          rw [if_neg (show ¬ (true && w != 0 && !m.cur w) = true by rw [hz, hcu]; simp)]
          refine cK (xT (cS (cR (sV (vM rfl) (sV (vN rfl) (sV (vF rfl fa53_3 rfl) (sV (vL rfl ld27) ?_)))))))
          refine sV (vM rfl) (sV (v_add rfl rfl (by unfold I64 at *; omega)) (sV (vM rfl) (sV (v_add rfl rfl (by unfold I64 at *; omega)) (sV (vM rfl) (sV (v_idx (t + 1 + j).toNat rfl rfl sl27 (by omega) (by omega)) (st_sto rfl rfl sz3 ?_))))))
          refine sN (nK [0, 1, 2, 3, 8, 10] rfl (nT (cS (cS (cR (sV (vM rfl) (sV (vM rfl) ?_)))))))
          rw [arr_set' (by omega)]
          refine st_vg rfl rfl (vM rfl) (st_vg rfl rfl (vM rfl) (st_clrg rfl rfl rfl rfl en99 rfl (isOld_ct (m := m.put (t + 1 + j) w) ⟨h1, h2, h3, h4, z.n, z.w⟩) ?_))
          rw [show (m.put (t + 1 + j) w).isO t = m.isO t from rfl]
          refine sV (v_pick_true rfl rfl) (sV (vM rfl) ?_)
          cases ho : m.isO t
          · skip
            rw [if_neg (by simp)]
            refine st_sk rfl rfl rfl ?_
            refine st_sk rfl rfl rfl ?_
            refine st_sk rfl rfl rfl ?_
            refine sV (vP rfl rfl) (sN (nK [0, 1, 2, 8, 55] rfl (nT (cd_false rfl ?_))))
            refine cK (xT (cS (cR (sV (vA rfl) (sN (nK [8] rfl (nT (cT ?_))))))))
            exact xt_rt rfl ⟨rfl, L.vk, rfl⟩
          · skip
            refine st_vg rfl rfl (vM rfl) (st_vg rfl rfl (vM rfl) (st_clrg rfl rfl rfl rfl en100 rfl (isYoung_ct (m := m.put (t + 1 + j) w)) ?_))
            rw [show (m.put (t + 1 + j) w).isY w = m.isY w from rfl]
            refine sV (v_pick_true rfl rfl) (sN (nK [0, 1, 2, 8, 55] rfl (nT (cC rfl (fun hy => ?_) (fun hy => ?_)))))
            · skip
              have e : (if (true && true && m.isY w && !m.rem.contains (t, (j : Int))) = true then { m.put (t + 1 + j) w with rem := m.rem ++ [(t, (j : Int))] } else m.put (t + 1 + j) w) = AM.remd (m.put (t + 1 + j) w) t j := by
                rw [hy]; unfold AM.remd
                show _ = if m.rem.contains (t, (j : Int)) = true then _ else _
                cases m.rem.contains (t, (j : Int)) <;> rfl
              refine cR (sV (vM rfl) (sV (vM rfl) (sV (vM rfl) (st_cl rfl rfl en101 rfl (remember_ct (m := m.put (t + 1 + j) w) hrl t j) ?_))))
              rintro v' h' ⟨rfl, vk, rfl⟩
              simp only [List.cons_append, List.nil_append]
              refine sN (nK [8] rfl (nT (cS (cR (sV (vA rfl) (sN (nT (cT ?_))))))))
              rw [e]
              unfold AM.remd
              split
              · skip
                exact xt_rt rfl ⟨rfl, vk, rfl⟩
              · skip
                exact xt_rt rfl ⟨rfl, vk, rfl⟩
            · skip
              rw [if_neg (by rw [hy]; simp)]
              refine cK (xT (cS (cR (sV (vA rfl) (sN (nK [8] rfl (nT (cT ?_))))))))
              exact xt_rt rfl ⟨rfl, L.vk, rfl⟩
      · skip
        rw [if_neg (show ¬ (true && w != 0 && !m.cur w) = true by rw [hz]; simp)]
        refine cK (xT (cS (cR (sV (vM rfl) (sV (vN rfl) (sV (vF rfl fa53_3 rfl) (sV (vL rfl ld27) ?_)))))))
        refine sV (vM rfl) (sV (v_add rfl rfl (by unfold I64 at *; omega)) (sV (vM rfl) (sV (v_add rfl rfl (by unfold I64 at *; omega)) (sV (vM rfl) (sV (v_idx (t + 1 + j).toNat rfl rfl sl27 (by omega) (by omega)) (st_sto rfl rfl sz3 ?_))))))
        refine sN (nK [0, 1, 2, 3, 8, 10] rfl (nT (cS (cS (cR (sV (vM rfl) (sV (vM rfl) ?_)))))))
        rw [arr_set' (by omega)]
        refine st_vg rfl rfl (vM rfl) (st_vg rfl rfl (vM rfl) (st_clrg rfl rfl rfl rfl en99 rfl (isOld_ct (m := m.put (t + 1 + j) w) ⟨h1, h2, h3, h4, z.n, z.w⟩) ?_))
        rw [show (m.put (t + 1 + j) w).isO t = m.isO t from rfl]
        refine sV (v_pick_true rfl rfl) (sV (vM rfl) ?_)
        cases ho : m.isO t
        · skip
          rw [if_neg (by simp)]
          refine st_sk rfl rfl rfl ?_
          refine st_sk rfl rfl rfl ?_
          refine st_sk rfl rfl rfl ?_
          refine sV (vP rfl rfl) (sN (nK [0, 1, 2, 8, 55] rfl (nT (cd_false rfl ?_))))
          refine cK (xT (cS (cR (sV (vA rfl) (sN (nK [8] rfl (nT (cT ?_))))))))
          exact xt_rt rfl ⟨rfl, L.vk, rfl⟩
        · skip
          refine st_vg rfl rfl (vM rfl) (st_vg rfl rfl (vM rfl) (st_clrg rfl rfl rfl rfl en100 rfl (isYoung_ct (m := m.put (t + 1 + j) w)) ?_))
          rw [show (m.put (t + 1 + j) w).isY w = m.isY w from rfl]
          refine sV (v_pick_true rfl rfl) (sN (nK [0, 1, 2, 8, 55] rfl (nT (cC rfl (fun hy => ?_) (fun hy => ?_)))))
          · skip
            have e : (if (true && true && m.isY w && !m.rem.contains (t, (j : Int))) = true then { m.put (t + 1 + j) w with rem := m.rem ++ [(t, (j : Int))] } else m.put (t + 1 + j) w) = AM.remd (m.put (t + 1 + j) w) t j := by
              rw [hy]; unfold AM.remd
              show _ = if m.rem.contains (t, (j : Int)) = true then _ else _
              cases m.rem.contains (t, (j : Int)) <;> rfl
            refine cR (sV (vM rfl) (sV (vM rfl) (sV (vM rfl) (st_cl rfl rfl en101 rfl (remember_ct (m := m.put (t + 1 + j) w) hrl t j) ?_))))
            rintro v' h' ⟨rfl, vk, rfl⟩
            simp only [List.cons_append, List.nil_append]
            refine sN (nK [8] rfl (nT (cS (cR (sV (vA rfl) (sN (nT (cT ?_))))))))
            rw [e]
            unfold AM.remd
            split
            · skip
              exact xt_rt rfl ⟨rfl, vk, rfl⟩
            · skip
              exact xt_rt rfl ⟨rfl, vk, rfl⟩
          · skip
            rw [if_neg (by rw [hy]; simp)]
            refine cK (xT (cS (cR (sV (vA rfl) (sN (nK [8] rfl (nT (cT ?_))))))))
            exact xt_rt rfl ⟨rfl, L.vk, rfl⟩
end
end Go.Proofs.YtmhmpjgkkpbnnaaGreat
namespace Go.Proofs.YtmhmpjgkkpbnnaaGreat
open Go.Ck Fx Go.Hm Go.Hm.AM
attribute [local irreducible] St Cd Xt Nx DrL LsW
section
variable {L : RL} {m : AM} {S R : Res} {t k a : Int} {ly ln lf N rl rs : List Int} {sp : Int} {v : Value} {roots : List Int} {φ : Int → Option Nat} {A : Store}
set_option maxRecDepth 100000 in
theorem radd_ct {l : List Int} {lv : Value} {t : Int} (hl : l.length ≤ 1000000) : Ct Tryz.prog 113 #[.pointer (some ⟨L.hb, 0, none⟩), lv, .int .i64 t] [hR L m, vec lv 3 1 l.length (ints l)] fun u h' => h' = [hR L m, vec u 3 1 (m.meet l t).length (ints (m.meet l t))] := by
  unfold AM.meet
  refine ct_of (n := 32) Tryz.func113 rfl rfl (len rfl) fun hr w0 => ?_
  refine cd_vecshape (v := lv) (E := 3) (sz := 1) (n := l.length) (l := ints l) (by repeat (first | exact Sel.here | apply Sel.there)) fun la lcp hlv hla => ?_
  refine cS (cR (sV (vA rfl) (sN (nT (cS (cR (sV (vM rfl) (sV (vM rfl) (st_clr rfl rfl en100 rfl (isYoung_ct) ?_)))))))))
  refine sV (vA rfl) (sN (nK [1, 2, 6, 7] rfl (nT (cS (cS (cR (sV (vM rfl) (sV (v_not rfl) (sN (nK [1, 2, 6, 13] rfl (nT (cC rfl (fun hc => ?_) (fun hc => ?_)))))))))))))
  · skip
    rw [if_neg (show ¬ (m.isY t && !l.contains t) = true by rw [show m.isY t = false by simpa using hc]; simp)]
    refine cS (cR (sV (vM rfl) (sV (vA rfl) (sN (nK [1, 2, 6] rfl (nT (cT (xR ?_))))))))
    exact xt_rt rfl rfl
  · skip
    have hy : m.isY t = true := by simpa using hc
    refine cK (xT (cS (cS (cR (sV (vA rfl) (sN (nK [1, 2, 6, 8] rfl (nT (cd_block (cd_loop (σ := Nat) (fun i => [(1, lv), (2, .int .i64 t), (8, .int .i64 (i : Nat))]) (fun _ => [hR L m, vec lv 3 1 l.length (ints l)] ++ hr) (fun i => i ≤ l.length ∧ (l.take i).contains t = false) (fun i => l.length - i) 0 ⟨Nat.zero_le _, rfl⟩ ⟨rfl, rfl, rfl, trivial⟩ (Sub.refl _) ?_))))))))))
    rintro i ⟨hi, hne⟩
    simp only [List.cons_append, List.nil_append]
    refine cS (cS (cR (sV (vM rfl) (sV (vM rfl) (sV (v_len (congrArg some hlv) Tryz.underlying27) (sV (v_lss rfl rfl) (sN (nK [1, 2, 8, 18] rfl (nT (cC rfl (fun hd => ?_) (fun hd => ?_)))))))))))
    · skip
      have hlt : i < l.length := by simpa using hd
      obtain ⟨b, rfl⟩ := hla (by omega)
      have hrd : Rd (vec lv 3 1 l.length (ints l)) ⟨b, i, none⟩ (.int .i64 l[i]) := rd_vec hlv (by simp [ints, hlt])
      have htk : (l.take (i + 1)).contains t = (t == l[i]) := by
        rw [List.take_succ_eq_append_getElem hlt]
        simp only [List.contains_append, hne, Bool.false_or, List.contains_cons, List.contains_nil, Bool.or_false]
      refine cK (xT (cS (cd_block (cS (cR (sV (vM rfl) (sV (vM rfl) (sV (v_idx i (congrArg some hlv) rfl sl27 rfl hlt) (sV (vL rfl ld3) ?_)))))))))
      refine sV (vM rfl) (sV (v_eql rfl rfl) (sN (nK [1, 2, 8, 26] rfl (nT (cC rfl (fun he => ?_) (fun he => ?_))))))
      · skip
        have hx : l[i] = t := by simpa using he
        have hcn : l.contains t = true := by rw [List.contains_iff_mem, ← hx]; exact List.getElem_mem hlt
        rw [if_neg (show ¬ (m.isY t && !l.contains t) = true by rw [hcn]; simp)]
        refine cS (cR (sV (vM rfl) (sV (vA rfl) (sN (nK [1, 2, 6, 8] rfl (nT (cT (xt_ret_block (xR (xR (xt_ret_block (xR ?_))))))))))))
        exact xt_rt rfl rfl
      · skip
        refine cK (xB (xT (cR (sV (vM rfl) (sV (v_add rfl rfl (by unfold I64 at *; omega)) (sV (vA rfl) (sN (nK [1, 2, 8] rfl (nx_xt ?_)))))))))
        refine xt_ag (i + 1) ⟨hlt, by rw [htk]; exact beq_eq_false_iff_ne.2 fun e => by rw [e] at he; simp at he⟩ (by omega)
    · skip
      have hge : i = l.length := by have : ¬ i < l.length := by simpa using hd
                                    omega
      rw [hge, List.take_length] at hne
      rw [if_pos (show (m.isY t && !l.contains t) = true by rw [hy, hne]; rfl)]
      refine cd_exit (xE (xE (xt_exit_block (xT (cS (cR (sV (vM rfl) (sV (vM rfl) (st_buildSlice (cells := [.int .i64 t]) rfl Tryz.underlying27 inf3 rfl rfl (by kernel_rfl) (ltn rfl) fun b30 => ?_)))))))))
      refine st_append (news := [.int .i64 t]) rfl rfl Tryz.underlying27 inf3 rfl (ltn rfl) (by repeat (first | exact Sel.here | apply Sel.there)) rfl (fun j u hu => by repeat (first | exact at_here (rd_cl (by simpa using hu)) | apply at_there)) (ones rfl) (by omega) (by omega) (ltn rfl) fun lv' hlv' hv1 => ?_
      refine sV (vA rfl) (sN (nK [6] rfl (nT (cT ?_))))
      rw [show ints l ++ [.int .i64 t] = ints (l ++ [t]) by simp [ints], show l.length + 1 = (l ++ [t]).length by simp]
      exact xt_rt rfl rfl
def z0 (lo i : Int) (f : Int → Int) : Int → Int := fun x => if decide (lo ≤ x) && decide (x < lo + i) then 0 else f x
theorem z0_zero (lo : Int) (f : Int → Int) : z0 lo 0 f = f := by
  funext x; unfold z0; rw [if_neg (by simp)]
theorem z0_succ {lo i : Int} {f : Int → Int} (hi : 0 ≤ i) : fup (z0 lo i f) (lo + i) 0 = z0 lo (i + 1) f := by
  funext x
  by_cases hx : x = lo + i
  · subst hx; rw [fup_same]; unfold z0; rw [if_pos (by simp; omega)]
  · rw [fup_other hx]; unfold z0
    by_cases hc : lo ≤ x ∧ x < lo + i
    · rw [if_pos (by simp; omega), if_pos (by simp; omega)]
    · rw [if_neg (by simp; omega), if_neg (by simp; omega)]
set_option maxRecDepth 100000 in
theorem rclear_ct (z : Sz m) {lo n : Int} (hlo : 0 ≤ lo) (hn : 0 ≤ n) (hb : lo + n ≤ m.Y + 2 * m.H + 1) : Ct Tryz.prog 103 #[.pointer (some ⟨L.hb, 0, none⟩), .int .i64 lo, .int .i64 n] [hR L m, wR L m, eR L m, oR L m] fun u h' => u = .tuple #[] ∧ h' = [hR L (m.clear lo n), wR L (m.clear lo n), eR L (m.clear lo n), oR L (m.clear lo n)] := by
  have h1 := z.Y0; have h2 := z.Y1; have h3 := z.H0; have h4 := z.H1
  obtain ⟨k, rfl⟩ : ∃ k : Nat, n = k := ⟨n.toNat, by omega⟩
  have hal := fun f => arr_len (rn m) f
  have hrn : rn m = (m.Y + 2 * m.H + 1).toNat := rfl
  refine ct_of (n := 33) Tryz.func103 rfl rfl (len rfl) fun hr w0 => ?_
  refine cS (cR (sV (vM rfl) (sV (vA rfl) (sN (nK [0, 1, 2, 6] rfl (nT (cd_block (cd_loop (σ := Nat) (fun i => [(0, .pointer (some ⟨L.hb, 0, none⟩)), (1, .int .i64 lo), (2, .int .i64 k), (6, .int .i64 (lo + (i : Nat)))]) (fun i => [hR L m, aR L.wb m (z0 lo i m.word), aR L.eb m (z0 lo i m.head), aR L.ob m (z0 lo i m.moved)] ++ hr) (fun i => i ≤ k) (fun i => k - i) 0 (Nat.zero_le _) ⟨rfl, rfl, rfl, (by rw [show lo + ((0 : Nat) : Int) = lo by simp]; rfl), trivial⟩ (by rw [show ((0 : Nat) : Int) = 0 from rfl, z0_zero, z0_zero, z0_zero]; exact Sub.refl _) ?_))))))))
  rintro i hi
  simp only [List.cons_append, List.nil_append]
  refine cS (cS (cR (sV (vM rfl) (sV (vM rfl) (sV (vM rfl) (sV (v_add rfl rfl (by unfold I64 at *; omega)) (sV (v_lss rfl rfl) (sN (nK [0, 1, 2, 6, 12] rfl (nT (cC rfl (fun hc => ?_) (fun hc => ?_))))))))))))
  · skip
    have hlt : i < k := by simp at hc; omega
    have hl1 := hal (z0 lo i m.word); have hl2 := hal (z0 lo i m.head); have hl3 := hal (z0 lo i m.moved)
    refine cK (xT (cS (cd_block (cS (cR (sV (vM rfl) (sV (vN rfl) (sV (vF rfl fa53_3 rfl) (sV (vL rfl ld27) ?_)))))))))
    refine sV (vM rfl) (sV (v_idx (lo + i).toNat rfl rfl sl27 (by omega) (by omega)) (st_sto rfl rfl sz3 ?_))
    refine sN (nK [0, 1, 2, 6] rfl (nT (cS (cR (sV (vM rfl) (sV (vN rfl) (sV (vF rfl fa53_4 rfl) (sV (vL rfl ld27) ?_))))))))
    refine sV (vM rfl) (sV (v_idx (lo + i).toNat rfl rfl sl27 (by omega) (by omega)) (st_sto rfl rfl sz3 ?_))
    refine sN (nK [0, 1, 2, 6] rfl (nT (cR (sV (vM rfl) (sV (vN rfl) (sV (vF rfl fa53_5 rfl) (sV (vL rfl ld27) ?_)))))))
    refine sV (vM rfl) (sV (v_idx (lo + i).toNat rfl rfl sl27 (by omega) (by omega)) (st_sto rfl rfl sz3 ?_))
    refine sN (nK [0, 1, 2, 6] rfl (nx_xt (xB (xT (cR (sV (vM rfl) (sV (v_add rfl rfl (by unfold I64 at *; omega)) (sV (vA rfl) (sN (nK [0, 1, 2, 6] rfl (nx_xt ?_)))))))))))
    rw [arr_set' (by omega), arr_set' (by omega), arr_set' (by omega), z0_succ (by omega), z0_succ (by omega), z0_succ (by omega)]
    rw [show lo + (i : Int) + 1 = lo + ((i + 1 : Nat) : Int) by omega]
    refine xt_ag (i + 1) hlt (by omega)
  · skip
    have hge : i = k := by simp at hc; omega
    subst hge
    refine cd_exit (xE (xE (xt_exit_block ?_)))
    exact xt_en rfl ⟨rfl, rfl⟩
end
end Go.Proofs.YtmhmpjgkkpbnnaaGreat
