/-
  Whether an error is among errors; the laws' light and spaces. Conditions: what the heap holds.
  Conversion of a small number; the laws' spaces. No condition.
  The law's whole: a Flip, and steps until the memory is not busy. Conditions: what the heap holds, that the machine is in order.
-/
import Derived.Test.YtmhmpjgkkpbnnaaM12
import Derived.Test.YtmhmpjgkkpbnnaaM10
import Derived.Test.YtmhmpjgkkpbnnaaM4
namespace Go.Proofs.Ytmhmpjgkkpbnnaa
open Go.Ck Fx Go.Hm Go.Hm.AM
attribute [local irreducible] St Cd Xt Nx DrL LsW
section
def eidx (l : List Int) (x : Int) : Int := match l.findIdx? (· == x) with | some i => (i : Int) | none => -1
theorem eidx_has (l : List Int) (x : Int) : decide (0 ≤ eidx l x) = l.contains x := by
  unfold eidx
  cases h : l.findIdx? (· == x) with
  | none =>
    rw [List.findIdx?_eq_none_iff] at h
    have : l.contains x = false := by
      rw [List.contains_eq_mem, decide_eq_false_iff_not]
      intro hm; have := h x hm; simp at this
    rw [this]; rfl
  | some i =>
    have := List.findIdx?_eq_some_iff_getElem.1 h
    obtain ⟨h1, h2, _⟩ := this
    have hm : x ∈ l := by have : l[i] = x := by simpa using h2
                          rw [← this]; exact List.getElem_mem h1
    simp [hm]
theorem ecomm (a b : Int) : (a == b) = (b == a) := Bool.eq_iff_iff.2 (by simp only [beq_iff_eq]; exact eq_comm)
set_option maxRecDepth 100000 in
theorem indexE_ct {R : Res} {v : Value} {l : List Int} {x : Int} (hv : RowI R v l) (hl : l.length ≤ 1000000) : Reads Try.prog 87 #[v, .int .i64 x] [R] (.int .i64 (eidx l x)) := by
  obtain ⟨a, cp, hv1, _⟩ := id hv
  refine ct_of (n := 19) Try.func87 rfl rfl (len rfl) fun hr w0 => ?_
  refine cd_seq (cd_region (st_v (v_assign rfl) (st_nil (nx_then (cd_seq (cd_seq (cd_region (st_v (v_move rfl) (st_v (v_len (congrArg some hv1) Try.underlying66) (st_v (v_move rfl) (st_nil (nx_kp [0, 1, 4, 7, 8] rfl (nx_then (cd_block (cd_lp (σ := Nat) (fun i => [(0, v), (1, .int .i64 x), (7, .int .i64 l.length), (8, .int .i64 (i : Nat))]) (fun _ => R :: hr) (fun i => i ≤ l.length ∧ ∀ (j : Nat) (y : Int), j < i → l[j]? = some y → (y == x) = false) (fun i => l.length - i) 0 ⟨Nat.zero_le _, fun j y hj => by omega⟩ ?_)))))))))))))))
  rintro i ⟨hi, hne⟩
  refine cd_seq (cd_region (st_v (v_lss rfl rfl) (st_nil (nx_then (cd_seq (cd_cond rfl (fun hd => ?_) (fun hd => ?_)))))))
  · skip
    have hlt : i < l.length := by simpa using hd
    obtain ⟨b, o, cp2, hv2, hrd⟩ := RowI.at hv hlt
    refine cd_skip (xt_then (cd_seq (cd_block (cd_seq (cd_region (st_v (v_move rfl) (st_v (v_assign rfl) (st_nil (nx_kp [0, 1, 5, 7, 8] rfl (nx_then (cd_seq (cd_region (st_v (v_move rfl) (st_v (v_move rfl) (st_v (v_move rfl) ?_)))))))))))))))
    refine st_v (v_ixo i (congrArg some hv2) rfl sl66 rfl hlt) (st_v (v_ld rfl ld28) ?_)
    refine st_v (v_eql rfl rfl) (st_nil (nx_kp [0, 1, 5, 7, 8, 16] rfl (nx_then (cd_cond rfl (fun he => ?_) (fun he => ?_)))))
    · skip
      refine cd_seq (cd_region (st_v (v_move rfl) (st_v (v_assign rfl) (st_nil (nx_kp [0, 1, 4, 7, 8] rfl (nx_then (cd_ret (xt_ret_block (xt_ret_then (xt_ret_then (xt_ret_block (xt_ret_then ?_))))))))))))
      have hf : l.findIdx? (· == x) = some i := by
        rw [List.findIdx?_eq_some_iff_getElem]
        exact ⟨hlt, by rw [ecomm]; exact he, fun j hj => by have := hne j l[j] hj (List.getElem?_eq_getElem (by omega)); simpa using this⟩
      have hb : eidx l x = i := by unfold eidx; rw [hf]
      rw [hb]
      exact xt_rt rfl ⟨rfl, rfl⟩
    · skip
      refine cd_skip (xt_normal_block (xt_then (cd_region (st_v (v_add rfl rfl (by unfold I64 at *; omega)) (st_v (v_move rfl) (st_nil (nx_kp [0, 1, 7, 8] rfl (nx_xt (xt_ag (i + 1) ⟨hlt, fun j y hj hy => ?_⟩ (by show _ - _ < _ - _; omega))))))))))
      by_cases hji : j = i
      · subst hji; rw [List.getElem?_eq_getElem hlt] at hy; cases hy; rw [ecomm]; exact he
      · exact hne j y (by omega) hy
  · skip
    refine cd_exit (xt_exit_then (xt_exit_then (xt_exit_block (xt_then (cd_seq (cd_region (st_v (v_assign rfl) (st_nil (nx_kp [4] rfl (nx_then (cd_ret ?_)))))))))))
    have hge : l.length ≤ i := by simpa using hd
    have hb : eidx l x = -1 := by
      unfold eidx
      have : l.findIdx? (· == x) = none := List.findIdx?_eq_none_iff.2 fun y hy => by
        obtain ⟨j, hj, rfl⟩ := List.getElem_of_mem hy
        exact hne j _ (by omega) (List.getElem?_eq_getElem hj)
      rw [this]
    rw [hb]
    exact xt_rt rfl ⟨rfl, rfl⟩
set_option maxRecDepth 100000 in
theorem containsE_ct {R : Res} {v : Value} {l : List Int} {x : Int} (hv : RowI R v l) (hl : l.length ≤ 1000000) : Reads Try.prog 35 #[v, .int .i64 x] [R] (.bool (l.contains x)) := by
  rw [← eidx_has]
  refine ct_of (n := 9) Try.func35 rfl rfl (len rfl) fun hr w0 => ?_
  refine cd_seq (cd_region (st_v (v_assign rfl) (st_nil (nx_then (cd_seq (cd_region (st_v (v_move rfl) (st_v (v_move rfl) (st_clr rfl rfl en87 rfl (indexE_ct (x := x) hv hl) ?_)))))))))
  refine st_v (v_geq rfl rfl) (st_v (v_assign rfl) (st_nil (nx_kp [4] rfl (nx_then (cd_ret ?_)))))
  exact xt_rt rfl ⟨rfl, rfl⟩
end
section
variable {R : Res} {v0 v4 : Value} {sh : List (List Bool)} {xs : List Go.Hm.Act}
def lightp (sh : List (List Bool)) (xs : List Go.Hm.Act) : Bool := (decide ((sh.length : Int) ≤ 8) && fitp sh) && decide ((xs.length : Int) ≤ 300)
set_option maxRecDepth 100000 in
theorem light_ct (hS : Shp R v0 sh) (hs0 : sh.length ≤ maxLen) (hX : ActsV R v4 xs) : Reads Try.prog 28 #[v0, v4] [R] (.bool (lightp sh xs)) := by
  obtain ⟨a, cp, hv, _⟩ := id hS
  obtain ⟨xa, xcp, hxv, _⟩ := id hX
  unfold lightp
  refine ct_of (n := 17) Try.func28 rfl rfl (len rfl) fun hr w0 => ?_
  refine cd_seq (cd_region (st_v (v_assign rfl) (st_nil (nx_then (cd_seq (cd_region (st_v (v_move rfl) (st_v (v_len (congrArg some hv) Try.underlying22) (st_v (v_leq rfl rfl) (st_v (v_move rfl) (st_cut (k := 7) (d := 11) (v := .bool (decide ((sh.length : Int) ≤ 8) && fitp sh)) (fun hcut => bool_want (b := decide ((sh.length : Int) ≤ 8)) true (fun hg => ?_) (fun hg => ?_)) ?_)))))))))))
  · refine st_sk rfl rfl hg ?_
    refine st_sk rfl rfl hg ?_
    refine st_v (v_pick_false (bool_ev rfl hg) rfl) ?_
    exact hcut _ (ssub_head (by first | rfl | (rw [hg]; rfl) | simp_all) (ssub_skip rfl (ssub_skip rfl (ssub_refl))))
  · skip
    refine st_vg rfl (bool_get rfl hg) (v_move rfl) (st_clrg rfl (bool_get rfl hg) rfl rfl en12 rfl (fit_ct hS hs0) ?_)
    refine st_v (v_pick_true (bool_ev rfl hg) rfl) ?_
    exact hcut _ (ssub_head (by first | rfl | (rw [hg]; rfl) | simp_all) (ssub_skip rfl (ssub_skip rfl (ssub_refl))))
  refine st_v (v_move rfl) (st_cut (k := 12) (d := 16) (v := .bool ((decide ((sh.length : Int) ≤ 8) && fitp sh) && decide ((xs.length : Int) ≤ 300))) (fun hcut => bool_want (b := (decide ((sh.length : Int) ≤ 8) && fitp sh)) true (fun hg => ?_) (fun hg => ?_)) ?_)
  · refine st_sk rfl rfl hg ?_
    refine st_sk rfl rfl hg ?_
    refine st_sk rfl rfl hg ?_
    refine st_v (v_pick_false (bool_ev rfl hg) rfl) ?_
    exact hcut _ (ssub_head (by first | rfl | (rw [hg]; rfl) | simp_all) (ssub_skip rfl (ssub_skip rfl (ssub_skip rfl (ssub_refl)))))
  · skip
    refine st_vg rfl (bool_get rfl hg) (v_move rfl) (st_vg rfl (bool_get rfl hg) (v_len (congrArg some hxv) Try.underlying62) (st_vg rfl (bool_get rfl hg) (v_leq rfl rfl) (st_v (v_pick_true (bool_ev rfl hg) rfl) ?_)))
    exact hcut _ (ssub_head (by first | rfl | (rw [hg]; rfl) | simp_all) (ssub_skip rfl (ssub_skip rfl (ssub_skip rfl (ssub_refl)))))
  refine st_v (v_assign rfl) (st_nil (nx_kp [4] rfl (nx_then (cd_ret ?_))))
  exact xt_rt rfl ⟨rfl, rfl⟩
end
end Go.Proofs.Ytmhmpjgkkpbnnaa
namespace Go.Ck
open Go Go.RowKit
section
variable {P : Program} {e : Env} {h : SH} {ty : TypeId}
theorem v_conv {src dst : TypeId} {x : Operand} {q q' k : IntKind} {n m : Int} (hx : e.ev? x = some (.int q n)) (hs : P.underlying src = some (.int q')) (hd : P.underlying dst = some (.int k)) (hw : k.wrap n = m) : Vop P e h (.convert src dst x) ty (.int k m) :=
  ⟨by simp, by simp, fun ρ w d pos after g hρ _ => by
    simp [execOp, hρ x _ hx, Go.convert, Sem.run_bind, run_underlying hs, run_underlying hd, Result.andThen_ok, Conv.intToInt, hw]⟩
end
end Go.Ck
namespace Go.Proofs.Ytmhmpjgkkpbnnaa
open Go.Ck Fx Go.Hm Go.Hm.AM
attribute [local irreducible] St Cd Xt Nx DrL LsW
/-- The number that a small number chooses: from 1 to k. -/
def pick1 (k x : Int) : Int := 1 + x.tmod k
theorem tmod_bd {k x : Int} (hk : 0 < k) (hx : 0 ≤ x) : 0 ≤ x.tmod k ∧ x.tmod k < k := ⟨Int.tmod_nonneg _ hx, Int.tmod_lt_of_pos _ hk⟩
theorem pick1_bd {k x : Int} (hk : 0 < k) (hx : 0 ≤ x) : 1 ≤ pick1 k x ∧ pick1 k x ≤ k := by
  have := tmod_bd hk hx
  unfold pick1; omega
set_option maxRecDepth 100000 in
theorem spaces_ct {a b : Int} (ha : 0 ≤ a ∧ a < 65536) (hb : 0 ≤ b ∧ b < 65536) : Reads Try.prog 29 #[.int .u16 a, .int .u16 b] [] (.tuple #[.int .i64 (pick1 600 a), .int .i64 (pick1 100 b)]) := by
  have h1 : IntKind.wrap .i64 a = a := I64.wrap (by unfold I64; omega)
  have h2 : IntKind.wrap .i64 b = b := I64.wrap (by unfold I64; omega)
  obtain ⟨p1, p2⟩ := tmod_bd (k := 600) (by omega) ha.1
  obtain ⟨q1, q2⟩ := tmod_bd (k := 100) (by omega) hb.1
  unfold pick1
  refine ct_of (n := 14) Try.func29 rfl rfl (len rfl) fun hr w0 => ?_
  refine cd_seq (cd_region (st_v (v_assign rfl) (st_v (v_assign rfl) (st_nil (nx_then (cd_seq (cd_region (st_v (v_move rfl) (st_v (v_conv rfl Try.underlying61 Try.underlying3 h1) (st_v (v_rem rfl rfl (by decide) (I64.wrap (by unfold I64; omega))) ?_))))))))))
  refine st_v (v_add rfl rfl (by unfold I64 at *; omega)) (st_v (v_move rfl) (st_v (v_conv rfl Try.underlying61 Try.underlying3 h2) (st_v (v_rem rfl rfl (by decide) (I64.wrap (by unfold I64; omega))) ?_)))
  refine st_v (v_add rfl rfl (by unfold I64 at *; omega)) (st_v (v_assign rfl) (st_v (v_assign rfl) (st_nil (nx_kp [4, 5] rfl (nx_then (cd_ret ?_))))))
  exact xt_rt rfl ⟨rfl, rfl⟩
end Go.Proofs.Ytmhmpjgkkpbnnaa
namespace Go.Ck
open Go Go.RowKit
theorem v_field {P : Program} {e : Env} {h : SH} {ty : TypeId} {S f : Nat} {x : Operand} {u v : Value} (hx : e.ev? x = some u) (hf : ∀ w, (Instr.field S u f).run P w = .ok v w) : Vop P e h (.field S x f) ty v :=
  ⟨by simp, by simp, fun ρ w d pos after g hρ _ => by simp [execOp, hρ x _ hx, hf w]⟩
end Go.Ck
namespace Go.Proofs.Ytmhmpjgkkpbnnaa
open Go.Ck Fx Go.Hm Go.Hm.AM
attribute [local irreducible] St Cd Xt Nx DrL LsW
section
variable {L : MemL} {μ : Mem} {S R : Res} {m : AM} {v : Value} {roots : List Int} {w : Int}
structure WlS where
  i : Nat
  L : MemL
  μ : Mem
  m : AM
  l : Int
set_option maxHeartbeats 4000000 in
set_option maxRecDepth 100000 in
theorem whole_c (I : MI L μ S m) (h : Fine m) (hv : RowI R v roots) (hrl : roots.length ≤ 1000000) (hw : I64 w) : Ct Try.prog 32 #[.pointer (some ⟨L.mb, 0, none⟩), v, .int .i64 w] (memSH L μ S ++ [R]) fun u h' =>
    ∃ rv' L' μ', u = .tuple #[rv', .int .i64 (m.whole roots w).2.1, .bool (m.whole roots w).2.2.1] ∧ MI L' μ' S (m.whole roots w).2.2.2 ∧ L'.mb = L.mb ∧ h' = memSH L' μ' S ++ [vec rv' 3 1 (m.whole roots w).1.length (ints (m.whole roots w).1), R] := by
  have hfl := h.flip roots
  obtain ⟨ly, ln, lf, φ, A, hg⟩ := h
  have hf := flip_c I hg hv hrl
  unfold memSH at hf ⊢
  unfold AM.whole
  refine ct_of (n := 71) Try.func32 rfl rfl (len rfl) fun hr w0 => ?_
  simp only [List.cons_append, List.nil_append] at hf ⊢
  refine cd_seq (cd_region (st_v (v_assign rfl) (st_v (v_assign rfl) (st_v (v_assign rfl) (st_nil (nx_then (cd_seq (cd_region (st_v (v_move rfl) (st_v (v_move rfl) (st_cl rfl rfl en43 rfl (hf) ?_)))))))))))
  rintro v' h' ⟨sl, L1, μ1, rfl, I1, hL1, rfl⟩
  simp only [List.cons_append, List.nil_append]
  refine st_v (v_move rfl) (st_v (v_extract rfl rfl) (st_v (v_extract rfl rfl) (st_v (v_assign rfl) (st_v (v_assign rfl) (st_nil (nx_kp [0, 2, 6, 7, 8, 9, 10] rfl (nx_then (cd_seq (cd_seq (cd_region (st_v (v_move rfl) (st_v (v_neq rfl rfl) (st_nil (nx_kp [0, 2, 6, 7, 8, 9, 23] rfl (nx_then (cd_cond rfl (fun hc => ?_) (fun hc => ?_)))))))))))))))))
  · skip
    rw [if_pos (by simpa using hc)]
    refine cd_seq (cd_region (st_v (v_assign rfl) (st_v (v_assign rfl) (st_v (v_assign rfl) (st_nil (nx_kp [0, 2, 6, 7, 8, 9] rfl (nx_then (cd_ret (xt_ret_then (xt_vecnil 3 1 (xt_rt rfl ⟨.slice none 0 0, L1, μ1, rfl, I1, hL1, rfl⟩ ?_)))))))))))
    simp only [List.cons_append, List.nil_append]
    exact (by repeat (first | exact Sub.refl _ | exact Sub.nil _ | refine Sub.sel (by repeat (first | exact Sel.here | apply Sel.there)) ?_ | apply Sub.cons))
  · skip
    rw [if_neg (by simpa using hc)]
    refine cd_skip (xt_then (cd_seq (cd_region (st_v (v_assign rfl) (st_nil (nx_kp [0, 2, 6, 7, 8, 9, 11] rfl (nx_then (cd_seq (cd_seq (cd_region (st_v (v_assign rfl) (st_nil (nx_then (cd_block (cd_loop (σ := WlS) (fun s => [(0, .pointer (some ⟨L.mb, 0, none⟩)), (2, .int .i64 w), (9, sl), (11, .int .i64 s.l), (12, .int .i64 (s.i : Nat))]) (fun s => memSH s.L s.μ S ++ [vec sl 3 1 (m.flip roots).1.length (ints (m.flip roots).1), R] ++ hr) (fun s => s.i ≤ 10000 ∧ MI s.L s.μ S s.m ∧ s.L.mb = L.mb ∧ Fine s.m ∧ wloop w 10000 (m.flip roots).2.2 0 = wloop w (10000 - s.i) s.m s.l) (fun s => 10000 - s.i) ⟨0, L1, μ1, (m.flip roots).2.2, 0⟩ ⟨Nat.zero_le _, I1, hL1, hfl, rfl⟩ ⟨rfl, rfl, rfl, rfl, rfl, trivial⟩ (by unfold memSH; simp only [List.cons_append, List.nil_append]; exact (by repeat (first | exact Sub.refl _ | exact Sub.nil _ | refine Sub.sel (by repeat (first | exact Sel.here | apply Sel.there)) ?_ | apply Sub.cons))) ?_)))))))))))))))
    rintro ⟨i, L2, μ2, m2, l2⟩ ⟨hi, I2, hL2, hF2, hwl⟩
    dsimp only at hi I2 hL2 hF2 hwl ⊢
    have hbz := busy_c I2
    have hrm := room_c I2
    unfold memSH at hbz hrm ⊢
    rw [hL2] at hbz hrm
    simp only [List.cons_append, List.nil_append, List.append_assoc]
    refine cd_seq (cd_seq (cd_region (st_v (v_move rfl) (st_v (v_lss rfl rfl) (st_v (v_move rfl) (st_cut (k := 6) (d := 29) (v := .bool (decide ((i : Int) < 10000) && m2.busy)) (fun hcut => bool_want (b := decide ((i : Int) < 10000)) true (fun hg => ?_) (fun hg => ?_)) ?_))))))
    · refine st_sk rfl rfl hg ?_
      refine st_sk rfl rfl hg ?_
      refine st_v (v_pick_false (bool_ev rfl hg) rfl) ?_
      exact hcut _ (ssub_head (by first | rfl | (rw [hg]; rfl) | simp_all) (ssub_skip rfl (ssub_skip rfl (ssub_refl))))
    · skip
      refine st_vg rfl (bool_get rfl hg) (v_move rfl) (st_clrg rfl (bool_get rfl hg) rfl rfl en23 rfl (hbz) ?_)
      refine st_v (v_pick_true (bool_ev rfl hg) rfl) ?_
      exact hcut _ (ssub_head (by first | rfl | (rw [hg]; rfl) | simp_all) (ssub_skip rfl (ssub_skip rfl (ssub_refl))))
    refine st_nil (nx_kp [0, 2, 9, 11, 12, 29] rfl (nx_then (cd_cond rfl (fun hd => ?_) (fun hd => ?_))))
    · skip
      rw [Bool.and_eq_true, decide_eq_true_eq] at hd
      obtain ⟨hd1, hd2⟩ := hd
      have hF3 := hF2.step w
      obtain ⟨ly2, ln2, lf2, φ2, A2, hg2⟩ := hF2
      have hst := step_c I2 hg2 w hw
      unfold memSH at hst
      rw [hL2] at hst
      refine cd_skip (xt_then (cd_seq (cd_block (cd_seq (cd_region (st_v (v_move rfl) (st_clr rfl rfl en24 rfl (hrm) ?_)))))))
      refine st_v (v_field (v := .int .i64 m2.room.2.1) rfl (fun _ => by kernel_rfl)) ?_
      refine st_v (v_assign rfl) (st_nil (nx_kp [0, 2, 9, 11, 12, 13] rfl (nx_then (cd_seq (cd_region (st_v (v_move rfl) (st_v (v_move rfl) (st_cl rfl rfl en31 rfl (hst) ?_))))))))
      rintro v' h' ⟨L3, μ3, rfl, I3, hL3, rfl⟩
      have hrm3 := room_c I3
      unfold memSH at hrm3
      rw [hL3] at hrm3
      simp only [List.cons_append, List.nil_append]
      refine st_v (v_move rfl) (st_v (v_extract rfl rfl) (st_v (v_extract rfl rfl) (st_v (v_assign rfl) (st_v (v_assign rfl) (st_nil (nx_kp [0, 2, 9, 11, 12, 13, 14, 15] rfl (nx_then (cd_seq (cd_seq (cd_region (st_v (v_move rfl) (st_v (v_neq rfl rfl) (st_v (v_move rfl) (st_cut (k := 6) (d := 46) (v := .bool ((m2.step w).2.1 != 0 || decide ((m2.step w).1 < 0))) (fun hcut => bool_want (b := ((m2.step w).2.1 != 0)) false (fun hg => ?_) (fun hg => ?_)) ?_))))))))))))))
      · refine st_sk rfl rfl hg ?_
        refine st_sk rfl rfl hg ?_
        refine st_v (v_pick_true (bool_ev rfl hg) rfl) ?_
        exact hcut _ (ssub_head (by first | rfl | (rw [hg]; rfl) | simp_all) (ssub_skip rfl (ssub_skip rfl (ssub_refl))))
      · skip
        refine st_vg rfl (bool_get rfl hg) (v_move rfl) (st_vg rfl (bool_get rfl hg) (v_lss rfl rfl) (st_v (v_pick_false (bool_ev rfl hg) rfl) ?_))
        exact hcut _ (ssub_head (by first | rfl | (rw [hg]; rfl) | simp_all) (ssub_skip rfl (ssub_skip rfl (ssub_refl))))
      refine st_v (v_move rfl) (st_cut (k := 13) (d := 53) (v := .bool (((m2.step w).2.1 != 0 || decide ((m2.step w).1 < 0)) || decide ((m2.step w).2.2.room.2.1 < (m2.step w).1))) (fun hcut => bool_want (b := ((m2.step w).2.1 != 0 || decide ((m2.step w).1 < 0))) false (fun hg => ?_) (fun hg => ?_)) ?_)
      · refine st_sk rfl rfl hg ?_
        refine st_sk rfl rfl hg ?_
        refine st_sk rfl rfl hg ?_
        refine st_sk rfl rfl hg ?_
        refine st_sk rfl rfl hg ?_
        refine st_v (v_pick_true (bool_ev rfl hg) rfl) ?_
        exact hcut _ (ssub_head (by first | rfl | (rw [hg]; rfl) | simp_all) (ssub_skip rfl (ssub_skip rfl (ssub_skip rfl (ssub_skip rfl (ssub_skip rfl (ssub_refl)))))))
      · skip
        refine st_vg rfl (bool_get rfl hg) (v_move rfl) (st_vg rfl (bool_get rfl hg) (v_move rfl) (st_clrg rfl (bool_get rfl hg) rfl rfl en24 rfl (hrm3) ?_))
        refine st_vg rfl (bool_get rfl hg) (v_field (v := .int .i64 (m2.step w).2.2.room.2.1) rfl (fun _ => by kernel_rfl)) ?_
        refine st_vg rfl (bool_get rfl hg) (v_gtr rfl rfl) (st_v (v_pick_false (bool_ev rfl hg) rfl) ?_)
        exact hcut _ (ssub_head (by first | rfl | (rw [hg]; rfl) | simp_all) (ssub_skip rfl (ssub_skip rfl (ssub_skip rfl (ssub_skip rfl (ssub_skip rfl (ssub_refl)))))))
      refine st_v (v_move rfl) (st_cut (k := 20) (d := 60) (v := .bool ((((m2.step w).2.1 != 0 || decide ((m2.step w).1 < 0)) || decide ((m2.step w).2.2.room.2.1 < (m2.step w).1)) || decide ((m2.step w).2.2.room.2.1 < m2.room.2.1))) (fun hcut => bool_want (b := (((m2.step w).2.1 != 0 || decide ((m2.step w).1 < 0)) || decide ((m2.step w).2.2.room.2.1 < (m2.step w).1))) false (fun hg => ?_) (fun hg => ?_)) ?_)
      · refine st_sk rfl rfl hg ?_
        refine st_sk rfl rfl hg ?_
        refine st_sk rfl rfl hg ?_
        refine st_sk rfl rfl hg ?_
        refine st_sk rfl rfl hg ?_
        refine st_v (v_pick_true (bool_ev rfl hg) rfl) ?_
        exact hcut _ (ssub_head (by first | rfl | (rw [hg]; rfl) | simp_all) (ssub_skip rfl (ssub_skip rfl (ssub_skip rfl (ssub_skip rfl (ssub_skip rfl (ssub_refl)))))))
      · skip
        refine st_vg rfl (bool_get rfl hg) (v_move rfl) (st_clrg rfl (bool_get rfl hg) rfl rfl en24 rfl (hrm3) ?_)
        refine st_vg rfl (bool_get rfl hg) (v_field (v := .int .i64 (m2.step w).2.2.room.2.1) rfl (fun _ => by kernel_rfl)) ?_
        refine st_vg rfl (bool_get rfl hg) (v_move rfl) (st_vg rfl (bool_get rfl hg) (v_lss rfl rfl) (st_v (v_pick_false (bool_ev rfl hg) rfl) ?_))
        exact hcut _ (ssub_head (by first | rfl | (rw [hg]; rfl) | simp_all) (ssub_skip rfl (ssub_skip rfl (ssub_skip rfl (ssub_skip rfl (ssub_skip rfl (ssub_refl)))))))
      refine st_nil (nx_kp [0, 2, 9, 11, 12, 14, 60] rfl (nx_then (cd_cond rfl (fun hb => ?_) (fun hb => ?_))))
      · skip
        have hb' : badStep w m2 = true := hb
        have hwf : wloop w 10000 (m.flip roots).2.2 0 = (false, (m2.step w).2.2, l2) := by
          rw [hwl, show 10000 - i = (10000 - i - 1) + 1 by omega]
          unfold wloop
          rw [if_pos hd2, if_pos hb']
        rw [hwf]
        refine cd_seq (cd_region (st_v (v_assign rfl) (st_v (v_assign rfl) (st_v (v_assign rfl) (st_nil (nx_kp [0, 2, 6, 7, 8, 9, 11, 12, 14] rfl (nx_then (cd_ret (xt_ret_then (xt_ret_block (xt_ret_then (xt_ret_then (xt_ret_block (xt_ret_then (xt_vecnil 3 1 ?_)))))))))))))))
        refine xt_rt rfl ⟨.slice none 0 0, L3, μ3, rfl, I3, hL3, rfl⟩ ?_
        simp only [List.cons_append, List.nil_append]
        exact (by repeat (first | exact Sub.refl _ | exact Sub.nil _ | refine Sub.sel (by repeat (first | exact Sel.here | apply Sel.there)) ?_ | apply Sub.cons))
      · skip
        have hb' : badStep w m2 = false := hb
        have hwf : wloop w 10000 (m.flip roots).2.2 0 = wloop w (10000 - (i + 1)) (m2.step w).2.2 ((m2.step w).2.2.room.2.1 - (m2.step w).1) := by
          rw [hwl, show 10000 - i = (10000 - (i + 1)) + 1 by omega, wloop]
          rw [if_pos hd2, if_neg (by rw [hb']; simp)]
        obtain ⟨ly3, ln3, lf3, φ3, A3, hg3⟩ := id hF3
        have ok3 := I3.r.okn hg3.g
        have ok3a := ok3.us
        have ok3b := ok3.ws
        have hr3 : (m2.step w).2.2.room.2.1 = (μ3.n.us : Int) := I3.r.n.us.symm
        simp only [Bool.or_eq_false_iff, decide_eq_false_iff_not, Int.not_lt] at hb
        obtain ⟨⟨⟨_, hb1⟩, hb2⟩, _⟩ := hb
        refine cd_skip (xt_then (cd_region (st_v (v_move rfl) (st_clr rfl rfl en24 rfl (hrm3) ?_))))
        refine st_v (v_field (v := .int .i64 (m2.step w).2.2.room.2.1) rfl (fun _ => by kernel_rfl)) ?_
        refine st_v (v_move rfl) (st_v (v_sub rfl rfl (by unfold I64 at *; omega)) (st_v (v_assign rfl) (st_nil (nx_kp [0, 2, 9, 11, 12] rfl (nx_xt (xt_normal_block (xt_then (cd_region (st_v (v_move rfl) (st_v (v_add rfl rfl (by unfold I64 at *; omega)) (st_v (v_assign rfl) (st_nil (nx_kp [0, 2, 9, 11, 12] rfl (nx_xt (xt_ag (⟨i + 1, L3, μ3, (m2.step w).2.2, (m2.step w).2.2.room.2.1 - (m2.step w).1⟩ : WlS) ⟨by dsimp only; omega, I3, hL3, hF3, hwf⟩ (by dsimp only; omega) (by repeat (first | exact trivial | refine ⟨rfl, ?_⟩)) ?_)))))))))))))))
        dsimp only
        exact (by repeat (first | exact Sub.refl _ | exact Sub.nil _ | refine Sub.sel (by repeat (first | exact Sel.here | apply Sel.there)) ?_ | apply Sub.cons))
    · skip
      have hwf : wloop w 10000 (m.flip roots).2.2 0 = (true, m2, l2) := by
        rw [hwl]
        by_cases hi2 : i = 10000
        · rw [hi2]; rfl
        · have hbu : m2.busy = false := by
            rw [Bool.and_eq_false_iff] at hd
            rcases hd with h1 | h1
            · have := of_decide_eq_false h1; omega
            · exact h1
          rw [show 10000 - i = (10000 - i - 1) + 1 by omega, wloop]
          rw [if_neg (by rw [hbu]; simp)]
      rw [hwf]
      refine cd_exit (xt_exit_then (xt_exit_then (xt_exit_block (xt_then (cd_seq (cd_region (st_v (v_move rfl) (st_v (v_move rfl) (st_v (v_move rfl) (st_clr rfl rfl en23 rfl (hbz) ?_))))))))))
      refine st_v (v_not rfl) (st_v (v_assign rfl) (st_v (v_assign rfl) (st_v (v_assign rfl) (st_nil (nx_kp [6, 7, 8] rfl (nx_then (cd_ret (xt_rt rfl ⟨sl, L2, μ2, rfl, I2, hL2, rfl⟩ ?_))))))))
      simp only [List.cons_append, List.nil_append]
      exact (by repeat (first | exact Sub.refl _ | exact Sub.nil _ | refine Sub.sel (by repeat (first | exact Sel.here | apply Sel.there)) ?_ | apply Sub.cons))
end
end Go.Proofs.Ytmhmpjgkkpbnnaa
