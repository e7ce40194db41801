/-
  The reference's Model: limits, rootsOf, modelled; objects without addresses where they lie. Conditions: what the heap holds.
  The reference's Model: what roots reach. Conditions: what the heap holds, that objects are in order.
  The reference's Model: the roots that are met, and the rows of the picture. Conditions: what the heap holds, that objects are in order.
-/
import Derived.Test.YtmhmpjgkkpbnnaaM11
import Derived.Test.YtmhmpjgkkpbnnaaM12
import Derived.Test.YtmhmpjgkkpbnnaaM5
namespace Go.Ck
open Go
section
variable {P : Program} {e : Env} {h : SH} {ty : TypeId}
theorem v_min {x y : Operand} {ts : Array TypeId} {a b : Int} (hx : e.ev? x = some (.int .i64 a)) (hy : e.ev? y = some (.int .i64 b)) (hab : a ≤ b) : Vop P e h (.call { callee := .builtin .min, args := #[x, y], argTypes := ts }) ty (.int .i64 a) :=
  ⟨by simp, by simp, fun ρ w d pos after g hρ _ => by
    have : ¬ b < a := by omega
    simp [execOp, resolve, invoke, builtin, hρ x _ hx, hρ y _ hy, Builtin.min_, Builtin.min2, this]⟩
theorem v_max {x y : Operand} {ts : Array TypeId} {a b : Int} (hx : e.ev? x = some (.int .i64 a)) (hy : e.ev? y = some (.int .i64 b)) (hab : a ≤ b) : Vop P e h (.call { callee := .builtin .max, args := #[x, y], argTypes := ts }) ty (.int .i64 b) :=
  ⟨by simp, by simp, fun ρ w d pos after g hρ _ => by
    have : (if b > a then b else a) = b := by split <;> omega
    simp [execOp, resolve, invoke, builtin, hρ x _ hx, hρ y _ hy, Builtin.max_, Builtin.max2, this]⟩
end
end Go.Ck
namespace Go.Proofs.Ytmhmpjgkkpbnnaa
open Go.Ck Fx Go.Hm Go.Hm.AM
attribute [local irreducible] St Cd Xt Nx DrL LsW
/-- Objects: a slice of fields, a shape, the fields. -/
abbrev SB := List (Value × Int × List Int)
def stC (B : SB) : List Value := B.flatMap fun q => [.int .i64 q.2.1, q.1]
def stRows (B : SB) : SH := B.map fun q => vec q.1 3 1 q.2.2.length (ints q.2.2)
def stA (B : SB) : Store := B.map (·.2)
def StF (B : SB) : Prop := ∀ q ∈ B, VForm q.1 q.2.2.length (ints q.2.2)
theorem stC_at : ∀ (B : SB) (i : Nat) (q : Value × Int × List Int), B[i]? = some q → ∀ j, j < 2 → (stC B)[i * 2 + j]? = ([.int .i64 q.2.1, q.1] : List Value)[j]?
  | [], i, q, h, _, _ => by simp at h
  | p :: t, 0, q, h, j, hj => by
    have : p = q := by simpa using h
    subst this
    show (([.int .i64 p.2.1, p.1] : List Value) ++ stC t)[0 * 2 + j]? = _
    rw [List.getElem?_append_left (by show 0 * 2 + j < 2; omega), show 0 * 2 + j = j by omega]
  | p :: t, i + 1, q, h, j, hj => by
    show (([.int .i64 p.2.1, p.1] : List Value) ++ stC t)[(i + 1) * 2 + j]? = _
    rw [List.getElem?_append_right (by show 2 ≤ (i + 1) * 2 + j; omega), show (i + 1) * 2 + j - ([.int .i64 p.2.1, p.1] : List Value).length = i * 2 + j by show (i + 1) * 2 + j - 2 = _; omega]
    exact stC_at t i q (by simpa using h) j hj
theorem stC_rd {E : TypeId} {b n cp i : Nat} {B : SB} {q : Value × Int × List Int} (h : B[i]? = some q) : Rd (vec (.slice (some ⟨b, 0, none⟩) n cp) E 2 n (stC B)) ⟨b, i * 2, none⟩ (.int .i64 q.2.1) ∧ Rd (vec (.slice (some ⟨b, 0, none⟩) n cp) E 2 n (stC B)) ⟨b, i * 2 + 1, none⟩ q.1 :=
  ⟨rd_vec rfl (stC_at B i q h 0 (by omega)), rd_vec rfl (stC_at B i q h 1 (by omega))⟩
theorem stC_rds {E : TypeId} {b n cp i : Nat} {B : SB} {q : Value × Int × List Int} (h : B[i]? = some q) : Rds (vec (.slice (some ⟨b, 0, none⟩) n cp) E 2 n (stC B)) b (i * 2) [.int .i64 q.2.1, q.1] := fun j hj => by
  refine rd_vec rfl ?_
  rw [stC_at B i q h j hj]
  exact List.getElem?_eq_getElem hj
theorem st_row {B : SB} (hB : StF B) {q : Value × Int × List Int} (hq : q ∈ B) : RowI (Res.star (stRows B)) q.1 q.2.2 := rowI_star (List.mem_map.2 ⟨q, hq, rfl⟩) (hB q hq)
/-- The object that a number stands for. -/
theorem st_obj {B : SB} {x : Int} (h1 : 1 ≤ x) (h2 : x ≤ (stA B).length) : ∃ i : Nat, x - 1 = i ∧ i < B.length ∧ ∃ q, B[i]? = some q ∧ q ∈ B ∧ obj0 (stA B) x = q.2 := by
  have hl : (stA B).length = B.length := List.length_map ..
  have hi : (x - 1).toNat < B.length := by omega
  refine ⟨(x - 1).toNat, by omega, hi, B[(x - 1).toNat], List.getElem?_eq_getElem hi, List.getElem_mem _, ?_⟩
  unfold obj0 stA
  rw [List.getD_eq_getElem?_getD, List.getElem?_map, List.getElem?_eq_getElem hi]; rfl
section
variable {R : Res} {v0 v1 lv : Value} {sh : List (List Bool)} {xs : List Int} {l : List Go.Hm.Act} {B : SB} {n x k : Int} {w : Bool}
set_option maxRecDepth 100000 in
theorem limits_ct (h : ActsV R v1 l) : Reads Try.prog 88 #[.int .i64 n, v1] [R] (.int .i64 (playedErr n l)) := by
  obtain ⟨a, cp, hv, _⟩ := id h
  unfold playedErr
  refine ct_of (n := 14) Try.func88 rfl rfl (len rfl) fun hr w0 => ?_
  refine cd_seq (cd_region (st_v (v_assign rfl) (st_nil (nx_then (cd_seq (cd_seq (cd_region (st_v (v_move rfl) (st_v (v_gtr rfl rfl) (st_v (v_move rfl) (st_cut (k := 7) (d := 11) (v := .bool (decide (200 < n) || decide (2000 < (l.length : Int)))) (fun hcut => bool_want (b := decide (200 < n)) false (fun hg => ?_) (fun hg => ?_)) ?_)))))))))))
  · refine st_sk rfl rfl hg ?_
    refine st_sk rfl rfl hg ?_
    refine st_sk rfl rfl hg ?_
    refine st_v (v_pick_true (bool_ev rfl hg) rfl) ?_
    exact hcut _ (ssub_head (by first | rfl | (rw [hg]; rfl) | simp_all) (ssub_skip rfl (ssub_skip rfl (ssub_skip rfl (ssub_refl)))))
  · skip
    refine st_vg rfl (bool_get rfl hg) (v_move rfl) (st_vg rfl (bool_get rfl hg) (v_len (congrArg some hv) Try.underlying62) (st_vg rfl (bool_get rfl hg) (v_gtr rfl rfl) (st_v (v_pick_false (bool_ev rfl hg) rfl) ?_)))
    exact hcut _ (ssub_head (by first | rfl | (rw [hg]; rfl) | simp_all) (ssub_skip rfl (ssub_skip rfl (ssub_skip rfl (ssub_refl)))))
  refine st_nil (nx_kp [0, 4, 11] rfl (nx_then (cd_cond rfl (fun hc => ?_) (fun hc => ?_))))
  · skip
    rw [if_pos hc]
    refine cd_seq (cd_region (st_v (v_assign rfl) (st_nil (nx_kp [0, 4] rfl (nx_then (cd_ret (xt_ret_then ?_)))))))
    exact xt_rt rfl ⟨rfl, rfl⟩ (by (repeat (refine Sub.sel (by repeat (first | exact Sel.here | apply Sel.there)) ?_)); (repeat apply Sub.cons); first | exact Sub.refl _ | exact Sub.nil _)
  · skip
    rw [if_neg (by rw [hc]; simp)]
    refine cd_skip (xt_then (cd_seq (cd_seq (cd_region (st_v (v_move rfl) (st_v (v_lss rfl rfl) (st_nil (nx_kp [4, 13] rfl (nx_then (cd_cond rfl (fun hd => ?_) (fun hd => ?_)))))))))))
    · skip
      rw [if_pos (of_decide_eq_true hd)]
      refine cd_seq (cd_region (st_v (v_assign rfl) (st_nil (nx_kp [4] rfl (nx_then (cd_ret (xt_ret_then ?_)))))))
      exact xt_rt rfl ⟨rfl, rfl⟩ (by (repeat (refine Sub.sel (by repeat (first | exact Sel.here | apply Sel.there)) ?_)); (repeat apply Sub.cons); first | exact Sub.refl _ | exact Sub.nil _)
    · skip
      rw [if_neg (of_decide_eq_false hd)]
      refine cd_skip (xt_then (cd_seq (cd_region (st_v (v_assign rfl) (st_nil (nx_kp [4] rfl (nx_then (cd_ret ?_))))))))
      exact xt_rt rfl ⟨rfl, rfl⟩ (by (repeat (refine Sub.sel (by repeat (first | exact Sel.here | apply Sel.there)) ?_)); (repeat apply Sub.cons); first | exact Sub.refl _ | exact Sub.nil _)
set_option maxHeartbeats 2000000 in
set_option maxRecDepth 100000 in
theorem modelled_ct (hS : Shp R v0 sh) (hB : SOk sh (stA B) xs) (hx : 0 ≤ x ∧ x ≤ (stA B).length) (hw : ∀ l ∈ sh, l.length ≤ 100) (hBl : B.length ≤ 1000000) : Reads Try.prog 91 #[v0, lv, .int .i64 x, .int .i64 k, .bool w] [vec lv 151 2 B.length (stC B), R] (.int .i64 (skind sh (stA B) x k w)) := by
  refine ct_of (n := 42) Try.func91 rfl rfl (len rfl) fun hr w0 => ?_
  simp only [List.cons_append, List.nil_append]
  refine cd_seq (cd_region (st_v (v_assign rfl) (st_nil (nx_then (cd_seq (cd_seq (cd_region (st_v (v_move rfl) (st_v (v_eql rfl rfl) (st_nil (nx_kp [0, 1, 2, 3, 4, 10, 13] rfl (nx_then (cd_cond rfl (fun hc => ?_) (fun hc => ?_))))))))))))))
  · skip
    have h0 : x = 0 := by simpa using hc
    have hk : skind sh (stA B) x k w = 5 := by unfold skind sfe; rw [if_pos h0]; rfl
    rw [hk]
    refine cd_seq (cd_region (st_v (v_assign rfl) (st_nil (nx_kp [0, 1, 2, 3, 4, 10] rfl (nx_then (cd_ret (xt_ret_then ?_)))))))
    exact xt_rt rfl ⟨rfl, rfl⟩ (by (repeat (refine Sub.sel (by repeat (first | exact Sel.here | apply Sel.there)) ?_)); (repeat apply Sub.cons); first | exact Sub.refl _ | exact Sub.nil _)
  · skip
    have h0 : x ≠ 0 := by simpa using hc
    obtain ⟨i, hi1, hi2, q, hq, hqm, ho⟩ := st_obj (B := B) (x := x) (by omega) hx.2
    have hs := hB.s q.2 (by rw [← ho]; exact (obj0_at (A := stA B) (x := x) (by omega) hx.2).2)
    have hkk : q.2.1.toNat < sh.length := by omega
    have hrow : srow sh (stA B) x = sh[q.2.1.toNat] := by unfold srow; rw [ho]; exact getD_lt hkk
    have hlen := hw _ (List.getElem_mem hkk)
    obtain ⟨b1, o1, cp1, u, hv1, hu, hub⟩ := hS.row hkk
    obtain ⟨ua, ucp, hue, _⟩ := id hub
    refine cd_skip (xt_then (cd_seq (cd_region (st_v (v_move rfl) (st_v (v_move rfl) (st_v (v_move rfl) (st_v (v_sub rfl rfl (by unfold I64 at *; omega)) (st_vecshape (v := lv) (E := 151) (sz := 2) (n := B.length) (l := stC B) (by repeat (first | exact Sel.here | apply Sel.there)) fun la lcp hlv hla => ?_))))))))
    obtain ⟨lb, rfl⟩ := hla (by omega)
    subst hlv
    have hrd := (stC_rd (E := 151) (b := lb) (n := B.length) (cp := lcp) hq).1
    refine st_v (v_indexAddr (o' := i * 2) rfl rfl sl147 hi1 hi2 (by omega)) (st_v (v_fieldAddr rfl fa151_0 rfl) (st_v (v_ld rfl ld3) ?_))
    refine st_v (v_ixo _ (congrArg some hv1) rfl sl22 (Int.toNat_of_nonneg hs.1).symm hkk) (st_v (v_ld rfl ld73) ?_)
    refine st_v (v_assign rfl) (st_nil (nx_kp [3, 4, 10, 11] rfl (nx_then (cd_seq (cd_seq (cd_region (st_v (v_move rfl) (st_v (v_move rfl) (st_v (v_len (congrArg some hue) Try.underlying73) (st_v (v_sub rfl rfl (by unfold I64 at *; omega)) (st_clr rfl rfl en90 rfl (in_ct (a := k) (lo := 0) (hi := (sh[q.2.1.toNat].length : Int) - 1)) ?_)))))))))))
    have hsk : skind sh (stA B) x k w = if (!(decide (0 ≤ k) && decide (k ≤ (sh[q.2.1.toNat].length : Int) - 1)) || sh[q.2.1.toNat].getD k.toNat false != w) then 1 else 0 := by
      unfold skind sfe
      rw [hrow, if_neg h0]
      have hC : (decide (k < 0) || decide ((sh[q.2.1.toNat].length : Int) ≤ k)) = !(decide (0 ≤ k) && decide (k ≤ (sh[q.2.1.toNat].length : Int) - 1)) := by
        rw [Bool.eq_iff_iff]
        simp only [Bool.or_eq_true, decide_eq_true_eq, Bool.not_eq_true', Bool.and_eq_false_iff, decide_eq_false_iff_not]
        omega
      rw [hC]
      generalize (decide (0 ≤ k) && decide (k ≤ (sh[q.2.1.toNat].length : Int) - 1)) = c
      cases c <;> simp
    rw [hsk]
    refine st_v (v_not rfl) (st_v (v_move rfl) (st_cut (k := 19) (d := 41) (v := .bool (!(decide (0 ≤ k) && decide (k ≤ (sh[q.2.1.toNat].length : Int) - 1)) || sh[q.2.1.toNat].getD k.toNat false != w)) (fun hcut => bool_want (b := !(decide (0 ≤ k) && decide (k ≤ (sh[q.2.1.toNat].length : Int) - 1))) false (fun hg => ?_) (fun hg => ?_)) ?_))
    · refine st_sk rfl rfl hg ?_
      refine st_sk rfl rfl hg ?_
      refine st_sk rfl rfl hg ?_
      refine st_sk rfl rfl hg ?_
      refine st_sk rfl rfl hg ?_
      refine st_sk rfl rfl hg ?_
      refine st_sk rfl rfl hg ?_
      refine st_sk rfl rfl hg ?_
      refine st_sk rfl rfl hg ?_
      refine st_sk rfl rfl hg ?_
      refine st_sk rfl rfl hg ?_
      refine st_v (v_pick_true (bool_ev rfl hg) rfl) ?_
      exact hcut _ (ssub_head (by first | rfl | (rw [hg]; rfl) | simp_all) (ssub_skip rfl (ssub_skip rfl (ssub_skip rfl (ssub_skip rfl (ssub_skip rfl (ssub_skip rfl (ssub_skip rfl (ssub_skip rfl (ssub_skip rfl (ssub_skip rfl (ssub_skip rfl (ssub_refl)))))))))))))
    · skip
      have hin : 0 ≤ k ∧ k ≤ (sh[q.2.1.toNat].length : Int) - 1 := by simpa using hg
      have hkl : k.toNat < sh[q.2.1.toNat].length := by omega
      obtain ⟨ub, uo, ucp', hue2, hrdu⟩ := hub.at hkl
      refine st_vg rfl (bool_get rfl hg) (v_move rfl) (st_vg rfl (bool_get rfl hg) (v_move rfl) (st_vg rfl (bool_get rfl hg) (v_move rfl) (st_vg rfl (bool_get rfl hg) (v_len (congrArg some hue) Try.underlying73) (st_vg rfl (bool_get rfl hg) (v_sub rfl rfl (by unfold I64 at *; omega)) (st_vg rfl (bool_get rfl hg) (v_min rfl rfl hin.2) (st_vg rfl (bool_get rfl hg) (v_max rfl rfl hin.1) (st_vg rfl (bool_get rfl hg) (v_ixo k.toNat (congrArg some hue2) rfl sl73 (Int.toNat_of_nonneg hin.1).symm hkl) (st_vg rfl (bool_get rfl hg) (v_ld rfl ld4) ?_))))))))
      refine st_vg rfl (bool_get rfl hg) (v_move rfl) (st_vg rfl (bool_get rfl hg) (v_neq_bool Try.underlying4 rfl rfl) ?_)
      rw [show sh[q.2.1.toNat][k.toNat] = sh[q.2.1.toNat].getD k.toNat false from (getD_lt hkl).symm]
      refine st_v (v_pick_false (bool_ev rfl hg) rfl) ?_
      exact hcut _ (ssub_head (by first | rfl | (rw [hg]; rfl) | simp_all) (ssub_skip rfl (ssub_skip rfl (ssub_skip rfl (ssub_skip rfl (ssub_skip rfl (ssub_skip rfl (ssub_skip rfl (ssub_skip rfl (ssub_skip rfl (ssub_skip rfl (ssub_skip rfl (ssub_refl)))))))))))))
    refine st_nil (nx_kp [10, 41] rfl (nx_then (cd_cond rfl (fun hd => ?_) (fun hd => ?_))))
    · skip
      rw [if_pos hd]
      refine cd_seq (cd_region (st_v (v_assign rfl) (st_nil (nx_kp [10] rfl (nx_then (cd_ret (xt_ret_then ?_)))))))
      exact xt_rt rfl ⟨rfl, rfl⟩ (by (repeat (refine Sub.sel (by repeat (first | exact Sel.here | apply Sel.there)) ?_)); (repeat apply Sub.cons); first | exact Sub.refl _ | exact Sub.nil _)
    · skip
      rw [if_neg (by rw [hd]; simp)]
      refine cd_skip (xt_then (cd_seq (cd_region (st_v (v_assign rfl) (st_nil (nx_kp [10] rfl (nx_then (cd_ret ?_))))))))
      exact xt_rt rfl ⟨rfl, rfl⟩ (by (repeat (refine Sub.sel (by repeat (first | exact Sel.here | apply Sel.there)) ?_)); (repeat apply Sub.cons); first | exact Sub.refl _ | exact Sub.nil _)
set_option maxHeartbeats 2000000 in
set_option maxRecDepth 100000 in
theorem rootsOf_ct {p : Go.Hm.Act} (ha : I64 p.a) (hn : 0 ≤ n ∧ n ≤ 200) : Reads Try.prog 89 #[.agg #[.int .i64 p.k, .int .i64 p.a, .int .i64 p.b, .int .i64 p.c], .int .i64 n] [] (.bool (rootsP p n)) := by
  unfold rootsP
  refine ct_of (n := 35) Try.func89 rfl rfl (len rfl) fun hr w0 => ?_
  simp only [List.nil_append]
  refine cd_seq (cd_region (st_bx rfl rfl fun b2 => ?_))
  refine st_v (v_assign rfl) (st_nil (nx_kp [1, 2, 4] rfl (nx_then (cd_seq (cd_region (st_v (v_fieldAddr rfl fa78_1 rfl) (st_v (v_ld rfl ld3) ?_)))))))
  refine st_v (v_move rfl) (st_v (v_sub rfl rfl (by unfold I64 at *; omega)) (st_clr rfl rfl en90 rfl (in_ct (a := p.a) (lo := 0) (hi := n - 1)) ?_))
  refine st_v (v_assign rfl) (st_nil (nx_kp [1, 2, 4, 5] rfl (nx_then (cd_seq (cd_region (st_v (v_fieldAddr rfl fa78_2 rfl) (st_v (v_ld rfl ld3) ?_)))))))
  refine st_v (v_move rfl) (st_v (v_sub rfl rfl (by unfold I64 at *; omega)) (st_clr rfl rfl en90 rfl (in_ct (a := p.b) (lo := 0) (hi := n - 1)) ?_))
  refine st_v (v_assign rfl) (st_nil (nx_kp [2, 4, 5, 6] rfl (nx_then (cd_seq (cd_seq (cd_region (st_v (v_fieldAddr rfl fa78_0 rfl) (st_v (v_ld rfl ld3) ?_))))))))
  refine st_nil (nx_kp [2, 4, 5, 6, 18] rfl (nx_then (cd_block (cd_seq (cd_seq (cd_region (st_v (v_eql rfl rfl) (st_v (v_assign rfl) (st_nil (nx_kp [2, 4, 5, 6, 18, 19] rfl (nx_then ?_)))))))))))
  generalize (decide (0 ≤ p.a) && decide (p.a ≤ n - 1)) = ca
  generalize (decide (0 ≤ p.b) && decide (p.b ≤ n - 1)) = cb
  refine cd_cond rfl (fun h1 => ?_) (fun h1 => ?_)
  · skip
    rw [if_pos (show ((p.k == 1 || p.k == 4) || p.k == 5) = true by rw [h1]; rfl)]
    refine cd_skip (xt_then ?_)
    rw [h1]
    refine cd_true rfl ?_
    refine cd_seq (cd_region (st_v (v_move rfl) (st_v (v_assign rfl) (st_nil (nx_kp [2, 4] rfl (nx_then (cd_ret (xt_ret_block (xt_ret_then ?_)))))))))
    exact xt_rt rfl ⟨rfl, rfl⟩ (by (repeat (refine Sub.sel (by repeat (first | exact Sel.here | apply Sel.there)) ?_)); (repeat apply Sub.cons); first | exact Sub.refl _ | exact Sub.nil _)
  · skip
    refine cd_seq (cd_region (st_v (v_eql rfl rfl) (st_v (v_assign rfl) (st_nil (nx_kp [2, 4, 5, 6, 18, 19] rfl (nx_then (cd_cond rfl (fun h4 => ?_) (fun h4 => ?_))))))))
    · skip
      rw [if_pos (show ((p.k == 1 || p.k == 4) || p.k == 5) = true by rw [h4]; simp)]
      refine cd_skip (xt_then ?_)
      rw [h4]
      refine cd_true rfl ?_
      refine cd_seq (cd_region (st_v (v_move rfl) (st_v (v_assign rfl) (st_nil (nx_kp [2, 4] rfl (nx_then (cd_ret (xt_ret_block (xt_ret_then ?_)))))))))
      exact xt_rt rfl ⟨rfl, rfl⟩ (by (repeat (refine Sub.sel (by repeat (first | exact Sel.here | apply Sel.there)) ?_)); (repeat apply Sub.cons); first | exact Sub.refl _ | exact Sub.nil _)
    · skip
      refine cd_region (st_v (v_eql rfl rfl) (st_v (v_assign rfl) (st_nil (nx_kp [2, 4, 5, 6, 18, 19] rfl (nx_then (cd_cond rfl (fun h5 => ?_) (fun h5 => ?_)))))))
      · skip
        rw [if_pos (show ((p.k == 1 || p.k == 4) || p.k == 5) = true by rw [h5]; simp)]
        refine cd_seq (cd_region (st_v (v_move rfl) (st_v (v_assign rfl) (st_nil (nx_kp [2, 4] rfl (nx_then (cd_ret (xt_ret_block (xt_ret_then ?_)))))))))
        exact xt_rt rfl ⟨rfl, rfl⟩ (by (repeat (refine Sub.sel (by repeat (first | exact Sel.here | apply Sel.there)) ?_)); (repeat apply Sub.cons); first | exact Sub.refl _ | exact Sub.nil _)
      · skip
        rw [if_neg (show ¬ ((p.k == 1 || p.k == 4) || p.k == 5) = true by rw [h1, h4, h5]; simp)]
        refine cd_seq (cd_seq (cd_region (st_v (v_eql rfl rfl) (st_v (v_assign rfl) (st_nil (nx_kp [2, 4, 5, 6, 18, 24] rfl (nx_then (cd_cond rfl (fun h2 => ?_) (fun h2 => ?_)))))))))
        · skip
          rw [if_pos (show ((p.k == 2 || p.k == 3) || p.k == 6) = true by rw [h2]; rfl)]
          refine cd_skip (xt_then ?_)
          rw [h2]
          refine cd_true rfl ?_
          refine cd_seq (cd_region (st_v (v_move rfl) (st_v (v_move rfl) (st_cut (k := 4) (d := 31) (v := .bool (ca && cb)) (fun hcut => bool_want (b := ca) true (fun hg => ?_) (fun hg => ?_)) ?_))))
          · refine st_sk rfl rfl hg ?_
            refine st_v (v_pick_false (bool_ev rfl hg) rfl) ?_
            exact hcut _ (ssub_head (by first | rfl | (rw [hg]; rfl) | simp_all) (ssub_skip rfl (ssub_refl)))
          · skip
            refine st_vg rfl (bool_get rfl hg) (v_move rfl) (st_v (v_pick_true (bool_ev rfl hg) rfl) ?_)
            exact hcut _ (ssub_head (by first | rfl | (rw [hg]; rfl) | simp_all) (ssub_skip rfl (ssub_refl)))
          refine st_v (v_assign rfl) (st_nil (nx_kp [2, 4] rfl (nx_then (cd_ret (xt_ret_block (xt_ret_then ?_))))))
          exact xt_rt rfl ⟨rfl, rfl⟩ (by (repeat (refine Sub.sel (by repeat (first | exact Sel.here | apply Sel.there)) ?_)); (repeat apply Sub.cons); first | exact Sub.refl _ | exact Sub.nil _)
        · skip
          refine cd_seq (cd_region (st_v (v_eql rfl rfl) (st_v (v_assign rfl) (st_nil (nx_kp [2, 4, 5, 6, 18, 24] rfl (nx_then (cd_cond rfl (fun h3 => ?_) (fun h3 => ?_))))))))
          · skip
            rw [if_pos (show ((p.k == 2 || p.k == 3) || p.k == 6) = true by rw [h3]; simp)]
            refine cd_skip (xt_then ?_)
            rw [h3]
            refine cd_true rfl ?_
            refine cd_seq (cd_region (st_v (v_move rfl) (st_v (v_move rfl) (st_cut (k := 4) (d := 31) (v := .bool (ca && cb)) (fun hcut => bool_want (b := ca) true (fun hg => ?_) (fun hg => ?_)) ?_))))
            · refine st_sk rfl rfl hg ?_
              refine st_v (v_pick_false (bool_ev rfl hg) rfl) ?_
              exact hcut _ (ssub_head (by first | rfl | (rw [hg]; rfl) | simp_all) (ssub_skip rfl (ssub_refl)))
            · skip
              refine st_vg rfl (bool_get rfl hg) (v_move rfl) (st_v (v_pick_true (bool_ev rfl hg) rfl) ?_)
              exact hcut _ (ssub_head (by first | rfl | (rw [hg]; rfl) | simp_all) (ssub_skip rfl (ssub_refl)))
            refine st_v (v_assign rfl) (st_nil (nx_kp [2, 4] rfl (nx_then (cd_ret (xt_ret_block (xt_ret_then ?_))))))
            exact xt_rt rfl ⟨rfl, rfl⟩ (by (repeat (refine Sub.sel (by repeat (first | exact Sel.here | apply Sel.there)) ?_)); (repeat apply Sub.cons); first | exact Sub.refl _ | exact Sub.nil _)
          · skip
            refine cd_region (st_v (v_eql rfl rfl) (st_v (v_assign rfl) (st_nil (nx_kp [2, 4, 5, 6, 24] rfl (nx_then (cd_cond rfl (fun h6 => ?_) (fun h6 => ?_)))))))
            · skip
              rw [if_pos (show ((p.k == 2 || p.k == 3) || p.k == 6) = true by rw [h6]; simp)]
              refine cd_seq (cd_region (st_v (v_move rfl) (st_v (v_move rfl) (st_cut (k := 4) (d := 31) (v := .bool (ca && cb)) (fun hcut => bool_want (b := ca) true (fun hg => ?_) (fun hg => ?_)) ?_))))
              · refine st_sk rfl rfl hg ?_
                refine st_v (v_pick_false (bool_ev rfl hg) rfl) ?_
                exact hcut _ (ssub_head (by first | rfl | (rw [hg]; rfl) | simp_all) (ssub_skip rfl (ssub_refl)))
              · skip
                refine st_vg rfl (bool_get rfl hg) (v_move rfl) (st_v (v_pick_true (bool_ev rfl hg) rfl) ?_)
                exact hcut _ (ssub_head (by first | rfl | (rw [hg]; rfl) | simp_all) (ssub_skip rfl (ssub_refl)))
              refine st_v (v_assign rfl) (st_nil (nx_kp [2, 4] rfl (nx_then (cd_ret (xt_ret_block (xt_ret_then ?_))))))
              exact xt_rt rfl ⟨rfl, rfl⟩ (by (repeat (refine Sub.sel (by repeat (first | exact Sel.here | apply Sel.there)) ?_)); (repeat apply Sub.cons); first | exact Sub.refl _ | exact Sub.nil _)
            · skip
              rw [if_neg (show ¬ ((p.k == 2 || p.k == 3) || p.k == 6) = true by rw [h2, h3, h6]; simp)]
              refine cd_skip (xt_normal_block (xt_then (cd_seq (cd_region (st_v (v_fieldAddr rfl fa78_0 rfl) (st_v (v_ld rfl ld3) ?_))))))
              refine st_clr rfl rfl en90 rfl (in_ct (a := p.k) (lo := 7) (hi := 9)) ?_
              refine st_v (v_assign rfl) (st_nil (nx_kp [4] rfl (nx_then (cd_ret ?_))))
              exact xt_rt rfl ⟨rfl, rfl⟩ (by (repeat (refine Sub.sel (by repeat (first | exact Sel.here | apply Sel.there)) ?_)); (repeat apply Sub.cons); first | exact Sub.refl _ | exact Sub.nil _)
end
end Go.Proofs.Ytmhmpjgkkpbnnaa
namespace Go.Proofs.Ytmhmpjgkkpbnnaa
open Go.Ck Fx Go.Hm Go.Hm.AM
attribute [local irreducible] St Cd Xt Nx DrL LsW
section
variable {R : Res} {v0 lv rv : Value} {sh : List (List Bool)} {xs : List Int} {B : SB} {N b6 : Nat} {Q : Exit → Act → World → Prop} {w0 : World} {hr : SH}
/-- What is known of an object that is met. -/
structure Known (R : Res) (v0 : Value) (sh : List (List Bool)) (B : SB) (x : Int) (i : Nat) (q : Value × Int × List Int) : Prop where
  i1 : x - 1 = i
  i2 : i < B.length
  at' : B[i]? = some q
  mem : q ∈ B
  ob : obj0 (stA B) x = q.2
  s0 : 0 ≤ q.2.1
  s1 : q.2.1.toNat < sh.length
  row : srow sh (stA B) x = sh[q.2.1.toNat]'s1
  len : q.2.2.length = (sh[q.2.1.toNat]'s1).length
  le : q.2.2.length ≤ 100
theorem known (hB : SOk sh (stA B) xs) (hw : ∀ l ∈ sh, l.length ≤ 100) {x : Int} (hx : Sn (stA B) x) : ∃ i q, Known R v0 sh B x i q := by
  obtain ⟨i, h1, h2, q, h3, h4, h5⟩ := st_obj (B := B) (x := x) hx.1 hx.2
  have hs := hB.s q.2 (by rw [← h5]; exact (obj0_at (A := stA B) (x := x) hx.1 hx.2).2)
  have hk : q.2.1.toNat < sh.length := by omega
  have hrow : sh.getD q.2.1.toNat [] = sh[q.2.1.toNat] := getD_lt hk
  have := hw _ (List.getElem_mem hk)
  refine ⟨i, q, h1, h2, h3, h4, h5, hs.1, hk, by unfold srow; rw [h5]; exact hrow, by rw [← hrow]; exact hs.2.2, by rw [hs.2.2, hrow]; exact this⟩
set_option maxHeartbeats 4000000 in
set_option maxRecDepth 100000 in
theorem mm_close_c (hS : Shp R v0 sh) (hB : SOk sh (stA B) xs) (hF : StF B) (hw : ∀ l ∈ sh, l.length ≤ 100) (hBl : B.length ≤ 2000) {la : Option Addr} {lcp : Nat} (hlv : lv = .slice la B.length lcp) (hla : 0 < B.length → ∃ b, la = some ⟨b, 0, none⟩) {mv : Value}
    (hcont : ∀ mv ma mcp, mv = .slice ma ((sgr sh (stA B)).met ((stA B).length + 1) xs).length mcp → (0 < ((sgr sh (stA B)).met ((stA B).length + 1) xs).length → ∃ b, ma = some ⟨b, 0, none⟩) → PM (Sn (stA B)) ((sgr sh (stA B)).met ((stA B).length + 1) xs) →
      Xt ⟨Try.prog, none, 325, [], w0⟩ .normal Q [(0, v0), (1, .int .i64 (N : Nat)), (6, .pointer (some ⟨b6, 0, none⟩)), (8, lv), (9, rv), (13, mv)] (vec mv 3 1 ((sgr sh (stA B)).met ((stA B).length + 1) xs).length (ints ((sgr sh (stA B)).met ((stA B).length + 1) xs)) :: ([vec lv 151 2 B.length (stC B), Res.star (stRows B), vec rv 3 1 N (ints xs), R] ++ hr))) :
    Cd ⟨Try.prog, none, 325, [], w0⟩ (cdr (cdl (cdr (cdr (cdr (cdr (cdr (cdr (cdr (cdr (cdr (fbody Try.f38)))))))))))) Q [(0, v0), (1, .int .i64 (N : Nat)), (6, .pointer (some ⟨b6, 0, none⟩)), (8, lv), (9, rv), (13, mv), (15, .int .i64 0)] (vec mv 3 1 (xs.foldl pmeet []).length (ints (xs.foldl pmeet [])) :: ([vec lv 151 2 B.length (stC B), Res.star (stRows B), vec rv 3 1 N (ints xs), R] ++ hr)) := by
  have hAl : (stA B).length = B.length := List.length_map ..
  have hM0 : (sgr sh (stA B)).met ((stA B).length + 1) xs = (sgr sh (stA B)).close ((stA B).length + 1) 0 (xs.foldl pmeet []) := rfl
  obtain ⟨M, hM⟩ : ∃ M, M = (sgr sh (stA B)).met ((stA B).length + 1) xs := ⟨_, rfl⟩
  rw [← hM] at hM0 hcont
  have hmet0 : PM (Sn (stA B)) (xs.foldl pmeet []) := PM.meets _ PM.nil hB.roots
  refine cd_block (cd_loop (σ := Nat × List Int × Value) (fun q => [(0, v0), (1, .int .i64 (N : Nat)), (6, .pointer (some ⟨b6, 0, none⟩)), (8, lv), (9, rv), (13, q.2.2), (15, .int .i64 (q.1 : Nat))]) (fun q => vec q.2.2 3 1 q.2.1.length (ints q.2.1) :: ([vec lv 151 2 B.length (stC B), Res.star (stRows B), vec rv 3 1 N (ints xs), R] ++ hr)) (fun q => q.1 ≤ q.2.1.length ∧ PM (Sn (stA B)) q.2.1 ∧ (sgr sh (stA B)).close ((stA B).length + 1 - q.1) q.1 q.2.1 = M) (fun q => (stA B).length + 1 - q.1) (0, xs.foldl pmeet [], mv) ⟨Nat.zero_le _, hmet0, hM0.symm⟩ ⟨rfl, rfl, rfl, rfl, rfl, rfl, rfl, trivial⟩ (Sub.refl _) ?_)
  rintro ⟨i, l, mv⟩ ⟨hi, hmet, hcl⟩
  dsimp only at hi hmet hcl ⊢
  have hml := sn_len hmet
  refine cd_vecshape (v := mv) (E := 3) (sz := 1) (n := l.length) (l := ints l) (by repeat (first | exact Sel.here | apply Sel.there)) fun ma mcp hmv hma => ?_
  simp only [List.cons_append, List.nil_append]
  refine cd_seq (cd_seq (cd_region (st_v (v_move rfl) (st_v (v_move rfl) (st_v (v_len (congrArg some hmv) Try.underlying34) (st_v (v_lss rfl rfl) (st_nil (nx_kp [0, 1, 6, 8, 9, 13, 15, 202] rfl (nx_then (cd_cond rfl (fun hc3 => ?_) (fun hc3 => ?_)))))))))))
  · skip
    have hlt : i < l.length := by simpa using hc3
    obtain ⟨mb, rfl⟩ := hma (by omega)
    have hsn : Sn (stA B) l[i] := hmet.s _ (List.getElem_mem hlt)
    obtain ⟨j, q, K⟩ := known (R := R) (v0 := v0) hB hw hsn
    have hform := hF q K.mem
    have oq := VForm.one hform
    have hs1 : q.2.1.toNat < sh.length := K.s1
    have hri := st_row hF K.mem
    obtain ⟨ua, ucp, hue, _⟩ := id hri
    obtain ⟨lb, rfl⟩ := hla (by have := K.i2; omega)
    have hrds := stC_rds (E := 151) (b := lb) (n := B.length) (cp := lcp) K.at'
    rw [← hlv] at hrds
    have hrd : Rd (vec mv 3 1 l.length (ints l)) ⟨mb, i, none⟩ (.int .i64 l[i]) := rd_vec hmv (by simp [ints, hlt])
    have hsl := hsn.2
    have hsl1 := hsn.1
    refine cd_skip (xt_then (cd_seq (cd_block (cd_seq (cd_region (st_v (v_move rfl) (st_v (v_move rfl) (st_v (v_move rfl) (st_v (v_idx i (congrArg some hmv) rfl sl34 rfl hlt) (st_v (v_ld rfl ld3) ?_))))))))))
    refine st_v (v_sub rfl rfl (by unfold I64 at *; omega)) (st_v (v_indexAddr (o' := j * 2) (congrArg some hlv) rfl sl147 K.i1 K.i2 (by omega)) (st_v (v_loadR rfl ld151 rfl (by repeat (first | exact Sel.here | apply Sel.there)) hrds) ?_))
    refine st_alc al151 fun b16 => ?_
    refine st_stoW rfl rfl sz151 rfl (by simp only [List.all_cons, List.all_nil, oq]; rfl) ?_
    refine st_nil (nx_kp [0, 1, 6, 8, 9, 13, 15, 16] rfl (nx_then (cd_seq (cd_region (st_v (v_assign rfl) (st_nil (nx_then (cd_block ?_))))))))
    have hgl : ((sgr sh (stA B)).fs l[i]).length = q.2.2.length := by rw [sgr_len, K.row, K.len]
    refine cd_loop (σ := Nat × Value) (fun z => [(0, v0), (1, .int .i64 (N : Nat)), (6, .pointer (some ⟨b6, 0, none⟩)), (8, lv), (9, rv), (13, z.2), (15, .int .i64 (i : Nat)), (16, .pointer (some ⟨b16, 0, none⟩)), (17, .int .i64 (z.1 : Nat))]) (fun z => vec z.2 3 1 (((sgr sh (stA B)).succTo l[i] z.1).foldl pmeet l).length (ints (((sgr sh (stA B)).succTo l[i] z.1).foldl pmeet l)) :: pt b16 (cl [.int .i64 q.2.1, q.1] 151) :: ([vec lv 151 2 B.length (stC B), Res.star (stRows B), vec rv 3 1 N (ints xs), R] ++ hr)) (fun z => z.1 ≤ q.2.2.length ∧ PM (Sn (stA B)) (((sgr sh (stA B)).succTo l[i] z.1).foldl pmeet l)) (fun z => q.2.2.length - z.1) (0, mv) ⟨Nat.zero_le _, hmet⟩ ⟨rfl, rfl, rfl, rfl, rfl, rfl, rfl, rfl, rfl, trivial⟩ (by (repeat (refine Sub.sel (by repeat (first | exact Sel.here | apply Sel.there)) ?_)); (repeat apply Sub.cons); first | exact Sub.refl _ | exact Sub.nil _) ?_
    rintro ⟨k, mw⟩ ⟨hk, hmk⟩
    dsimp only at hk hmk ⊢
    have hmkl := sn_len hmk
    obtain ⟨ex, hex⟩ := pmeets_pre ((sgr sh (stA B)).succTo l[i] k) l
    simp only [List.cons_append, List.nil_append]
    refine cd_seq (cd_seq (cd_region (st_v (v_move rfl) (st_v (v_fieldAddr rfl fa151_1 rfl) (st_v (v_ld rfl ld34) ?_)))))
    refine st_v (v_len (congrArg some hue) Try.underlying34) (st_v (v_lss rfl rfl) (st_nil (nx_kp [0, 1, 6, 8, 9, 13, 15, 16, 17, 217] rfl (nx_then (cd_cond rfl (fun hc4 => ?_) (fun hc4 => ?_))))))
    · skip
      have hkl : k < q.2.2.length := by simpa using hc4
      have hkr : k < sh[q.2.1.toNat].length := by rw [← K.len]; exact hkl
      have hle := K.le
      obtain ⟨b1, o1, cp1, u, hv1, hu1, hub⟩ := hS.row K.s1
      obtain ⟨ub, uo, ucp', hue2, hrdu⟩ := hub.at hkr
      have hps := Gr.succTo_succ (g := (sgr sh (stA B))) (t := l[i]) (k := k) (by rw [hgl]; exact hkl)
      rw [sgr_get (by rw [hgl]; exact hkl), K.row, K.ob, show sh[q.2.1.toNat].getD k false = sh[q.2.1.toNat][k] from getD_lt hkr, show q.2.2.getD k 0 = q.2.2[k] from getD_lt hkl] at hps
      dsimp only at hps
      refine cd_skip (xt_then (cd_seq (cd_block (cd_seq (cd_region (st_v (v_move rfl) (st_v (v_fieldAddr rfl fa151_0 rfl) (st_v (v_ld rfl ld3) ?_))))))))
      refine st_v (v_ixo _ (congrArg some hv1) rfl sl22 (Int.toNat_of_nonneg K.s0).symm K.s1) (st_v (v_ld rfl ld73) ?_)
      refine st_v (v_move rfl) (st_v (v_ixo k (congrArg some hue2) rfl sl73 rfl hkr) (st_v (v_ld rfl ld4) ?_))
      refine st_nil (nx_kp [0, 1, 6, 8, 9, 13, 15, 16, 17, 227] rfl (nx_then (cd_cond rfl (fun hb => ?_) (fun hb => ?_))))
      · skip
        rw [hb] at hps
        simp only [if_true] at hps
        have htk : ((sgr sh (stA B)).succTo l[i] (k + 1)).foldl pmeet l = pmeet (((sgr sh (stA B)).succTo l[i] k).foldl pmeet l) q.2.2[k] := by rw [hps, pmeets_snoc]
        have hyk : q.2.2[k] = 0 ∨ Sn (stA B) q.2.2[k] := hB.succ hsn _ (Gr.succTo_sub (k := k + 1) (by rw [hps]; simp))
        obtain ⟨fb, fo, fcp, hfe, hfr⟩ := hri.at hkl
        refine cd_region (st_v (v_move rfl) (st_v (v_fieldAddr rfl fa151_1 rfl) (st_v (v_ld rfl ld34) ?_)))
        refine st_v (v_move rfl) (st_v (v_ixo k (congrArg some hfe) rfl sl34 rfl hkl) (st_v (v_ld rfl ld3) ?_))
        refine st_cl rfl rfl en63 rfl (rmeet_ct (l := ((sgr sh (stA B)).succTo l[i] k).foldl pmeet l) (lv := mw) (t := q.2.2[k]) (by omega)) ?_
        rintro mw' h' rfl
        simp only [List.cons_append, List.nil_append]
        rw [← htk]
        refine st_v (v_assign rfl) (st_nil (nx_kp [0, 1, 6, 8, 9, 13, 15, 16, 17] rfl (nx_xt (xt_normal_block (xt_then (cd_region (st_v (v_move rfl) (st_v (v_add rfl rfl (by unfold I64 at *; omega)) (st_v (v_assign rfl) (st_nil (nx_kp [0, 1, 6, 8, 9, 13, 15, 16, 17] rfl (nx_xt (xt_ag ((k + 1, mw') : Nat × Value) ⟨hkl, by dsimp only; rw [htk]; exact hmk.meet hyk⟩ (by dsimp only; omega) (by repeat (first | exact trivial | refine ⟨rfl, ?_⟩)) ?_)))))))))))))
        dsimp only
        exact (by (repeat (refine Sub.sel (by repeat (first | exact Sel.here | apply Sel.there)) ?_)); (repeat apply Sub.cons); first | exact Sub.refl _ | exact Sub.nil _)
      · skip
        rw [hb] at hps
        simp only [Bool.false_eq_true, if_false, List.append_nil] at hps
        rw [← hps]
        refine cd_skip (xt_normal_block (xt_then (cd_region (st_v (v_move rfl) (st_v (v_add rfl rfl (by unfold I64 at *; omega)) (st_v (v_assign rfl) (st_nil (nx_kp [0, 1, 6, 8, 9, 13, 15, 16, 17] rfl (nx_xt (xt_ag ((k + 1, mw) : Nat × Value) ⟨hkl, by dsimp only; rw [hps]; exact hmk⟩ (by dsimp only; omega) (by repeat (first | exact trivial | refine ⟨rfl, ?_⟩)) ?_))))))))))
        dsimp only
        exact (by (repeat (refine Sub.sel (by repeat (first | exact Sel.here | apply Sel.there)) ?_)); (repeat apply Sub.cons); first | exact Sub.refl _ | exact Sub.nil _)
    · skip
      have hkg : k = q.2.2.length := by
        have : ¬ k < q.2.2.length := by simpa using hc4
        omega
      have hpa : (sgr sh (stA B)).succTo l[i] k = (sgr sh (stA B)).succ l[i] := by rw [hkg, ← hgl]; exact Gr.succTo_all _ _
      rw [hpa] at hmk hex ⊢
      have hxl : i < (((sgr sh (stA B)).succ l[i]).foldl pmeet l).length := by rw [hex, List.length_append]; omega
      have hf : (stA B).length + 1 - i = ((stA B).length + 1 - (i + 1)) + 1 := by omega
      have hcl2 : (sgr sh (stA B)).close ((stA B).length + 1 - (i + 1)) (i + 1) (((sgr sh (stA B)).succ l[i]).foldl pmeet l) = M := by
        rw [← hcl, hf]; conv => rhs; unfold Gr.close
        rw [dif_pos hlt]
      refine cd_exit (xt_exit_then (xt_exit_then (xt_exit_block (xt_normal_block (xt_then (cd_region (st_v (v_move rfl) (st_v (v_add rfl rfl (by unfold I64 at *; omega)) (st_v (v_assign rfl) (st_nil (nx_kp [0, 1, 6, 8, 9, 13, 15] rfl (nx_xt (xt_ag ((i + 1, ((sgr sh (stA B)).succ l[i]).foldl pmeet l, mw) : Nat × List Int × Value) ⟨hxl, hmk, hcl2⟩ (by dsimp only; omega) (by repeat (first | exact trivial | refine ⟨rfl, ?_⟩)) ?_)))))))))))))
      dsimp only
      exact (by (repeat (refine Sub.sel (by repeat (first | exact Sel.here | apply Sel.there)) ?_)); (repeat apply Sub.cons); first | exact Sub.refl _ | exact Sub.nil _)
  · skip
    have hge2 : ¬ i < l.length := by simpa using hc3
    have hlM : l = M := by rw [← hcl]; exact (Gr.close_end _ (by omega)).symm
    clear hcl hM0 hM
    subst hlM
    refine cd_exit (xt_exit_then (xt_exit_then (xt_exit_block ?_)))
    exact xt_use (hcont mv ma mcp hmv hma hmet)
end
end Go.Proofs.Ytmhmpjgkkpbnnaa
namespace Go.Proofs.Ytmhmpjgkkpbnnaa
open Go.Ck Fx Go.Hm Go.Hm.AM
attribute [local irreducible] St Cd Xt Nx DrL LsW
section
variable {R : Res} {v0 lv rv mv : Value} {sh : List (List Bool)} {xs : List Int} {B : SB} {N b6 b18 : Nat} {Q : Exit → Act → World → Prop} {w0 : World} {hr : SH}
set_option maxHeartbeats 4000000 in
set_option maxRecDepth 100000 in
theorem mm_roots_c (hB : SOk sh (stA B) xs) (hxl : xs.length = N) (hBl : B.length ≤ 2000) {ra : Option Addr} {rcp : Nat} (hrv : rv = .slice ra N rcp) (hra : 0 < N → ∃ b, ra = some ⟨b, 0, none⟩) (hN : N ≤ 200)
    (hcont : ∀ mv, Xt ⟨Try.prog, none, 325, [], w0⟩ .normal Q [(0, v0), (1, .int .i64 (N : Nat)), (6, .pointer (some ⟨b6, 0, none⟩)), (8, lv), (9, rv), (13, mv)] (vec mv 3 1 (xs.foldl pmeet []).length (ints (xs.foldl pmeet [])) :: ([vec lv 151 2 B.length (stC B), Res.star (stRows B), vec rv 3 1 N (ints xs), R] ++ hr))) :
    Cd ⟨Try.prog, none, 325, [], w0⟩ (cdr (cdl (cdr (cdr (cdr (cdr (cdr (cdr (cdr (cdr (fbody Try.f38))))))))))) Q [(0, v0), (1, .int .i64 (N : Nat)), (6, .pointer (some ⟨b6, 0, none⟩)), (8, lv), (9, rv), (13, .slice none 0 0), (14, .int .i64 0)] ([vec lv 151 2 B.length (stC B), Res.star (stRows B), vec rv 3 1 N (ints xs), R] ++ hr) := by
  have hAl : (stA B).length = B.length := List.length_map ..
  have hri := rowI_vec hrv hra hxl
  refine cd_vecnil 3 1 ?_
  refine cd_block (cd_loop (σ := Nat × Value) (fun z => [(0, v0), (1, .int .i64 (N : Nat)), (6, .pointer (some ⟨b6, 0, none⟩)), (8, lv), (9, rv), (13, z.2), (14, .int .i64 (z.1 : Nat))]) (fun z => vec z.2 3 1 ((xs.take z.1).foldl pmeet []).length (ints ((xs.take z.1).foldl pmeet [])) :: ([vec lv 151 2 B.length (stC B), Res.star (stRows B), vec rv 3 1 N (ints xs), R] ++ hr)) (fun z => z.1 ≤ N ∧ PM (Sn (stA B)) ((xs.take z.1).foldl pmeet [])) (fun z => N - z.1) (0, .slice none 0 0) ⟨Nat.zero_le _, PM.nil⟩ ⟨rfl, rfl, rfl, rfl, rfl, rfl, rfl, trivial⟩ (Sub.refl _) ?_)
  rintro ⟨i, mv⟩ ⟨hi, hmet⟩
  dsimp only at hi hmet ⊢
  have hml := sn_len hmet
  simp only [List.cons_append, List.nil_append]
  refine cd_seq (cd_seq (cd_region (st_v (v_move rfl) (st_v (v_move rfl) (st_v (v_lss rfl rfl) (st_nil (nx_kp [0, 1, 6, 8, 9, 13, 14, 190] rfl (nx_then (cd_cond rfl (fun hc => ?_) (fun hc => ?_))))))))))
  · skip
    have hlt : i < xs.length := by rw [hxl]; simpa using hc
    obtain ⟨b, o, cp', hv2, hrd⟩ := hri.at hlt
    have htk : (xs.take (i + 1)).foldl pmeet [] = pmeet ((xs.take i).foldl pmeet []) xs[i] := by rw [List.take_succ_eq_append_getElem hlt, pmeets_snoc]
    refine cd_skip (xt_then (cd_seq (cd_block (cd_region (st_v (v_move rfl) (st_v (v_move rfl) (st_v (v_move rfl) (st_v (v_ixo i (congrArg some hv2) rfl sl34 rfl hlt) (st_v (v_ld rfl ld3) ?_)))))))))
    refine st_cl rfl rfl en63 rfl (rmeet_ct (l := (xs.take i).foldl pmeet []) (lv := mv) (t := xs[i]) (by omega)) ?_
    rintro mv' h' rfl
    simp only [List.cons_append, List.nil_append]
    rw [← htk]
    refine st_v (v_assign rfl) (st_nil (nx_kp [0, 1, 6, 8, 9, 13, 14] rfl (nx_xt (xt_normal_block (xt_then (cd_region (st_v (v_move rfl) (st_v (v_add rfl rfl (by unfold I64 at *; omega)) (st_v (v_assign rfl) (st_nil (nx_kp [0, 1, 6, 8, 9, 13, 14] rfl (nx_xt (xt_ag ((i + 1, mv') : Nat × Value) ⟨by dsimp only; omega, by dsimp only; rw [htk]; exact hmet.meet (hB.roots _ (List.getElem_mem hlt))⟩ (by dsimp only; omega) (by repeat (first | exact trivial | refine ⟨rfl, ?_⟩)) ?_)))))))))))))
    dsimp only
    exact (by (repeat (refine Sub.sel (by repeat (first | exact Sel.here | apply Sel.there)) ?_)); (repeat apply Sub.cons); first | exact Sub.refl _ | exact Sub.nil _)
  · skip
    have hge : xs.take i = xs := List.take_of_length_le (by
      have : ¬ i < N := by simpa using hc
      omega)
    rw [hge]
    refine cd_exit (xt_exit_then (xt_exit_then (xt_exit_block ?_)))
    exact xt_use (hcont mv)
theorem sprow_len (M : List Int) (x : Int) : ((sgr sh (stA B)).prow M x).length = (srow sh (stA B) x).length := by unfold Gr.prow; rw [List.length_map, sgr_len]
theorem sprow_get {M : List Int} {x : Int} {k : Nat} (hk : k < (srow sh (stA B) x).length) : ((sgr sh (stA B)).prow M x)[k]? = some (if (srow sh (stA B) x).getD k false then 1 + idx M ((obj0 (stA B) x).2.getD k 0) else (obj0 (stA B) x).2.getD k 0) := by
  unfold Gr.prow
  rw [List.getElem?_map, List.getElem?_eq_getElem (by rw [sgr_len]; exact hk), sgr_get]
  rfl
set_option maxHeartbeats 4000000 in
set_option maxRecDepth 100000 in
theorem mm_row_c (hS : Shp R v0 sh) (hF : StF B) {x : Int} {j : Nat} {q : Value × Int × List Int} (K : Known R v0 sh B x j q) {M : List Int} {ma : Option Addr} {mcp i b20 b90 : Nat} (hmv : mv = .slice ma M.length mcp) (hma : 0 < M.length → ∃ b, ma = some ⟨b, 0, none⟩) (hMl : M.length ≤ 2000)
    (hcont : Xt ⟨Try.prog, none, 325, [], w0⟩ .normal Q [(0, v0), (1, .int .i64 (N : Nat)), (6, .pointer (some ⟨b6, 0, none⟩)), (8, lv), (9, rv), (13, mv), (18, .pointer (some ⟨b18, 0, none⟩)), (19, .int .i64 (i : Nat)), (20, .pointer (some ⟨b20, 0, none⟩)), (21, .slice (some ⟨b90, 0, none⟩) q.2.2.length q.2.2.length)] (pt b90 (cl (ints ((sgr sh (stA B)).prow M x) ++ []) 3) :: pt b20 (cl [.int .i64 q.2.1, q.1] 151) :: vec mv 3 1 M.length (ints M) :: ([vec lv 151 2 B.length (stC B), Res.star (stRows B), vec rv 3 1 N (ints xs), R] ++ hr))) :
    Cd ⟨Try.prog, none, 325, [], w0⟩ (cdr (cdl (cdr (cdr (cdl (cdl (cdr (cdl (cdl (cdr (cdl (cdr (cdr (cdr (cdr (cdr (cdr (cdr (cdr (cdr (cdr (cdr (fbody Try.f38))))))))))))))))))))))) Q [(0, v0), (1, .int .i64 (N : Nat)), (6, .pointer (some ⟨b6, 0, none⟩)), (8, lv), (9, rv), (13, mv), (18, .pointer (some ⟨b18, 0, none⟩)), (19, .int .i64 (i : Nat)), (20, .pointer (some ⟨b20, 0, none⟩)), (21, .slice (some ⟨b90, 0, none⟩) q.2.2.length q.2.2.length), (22, .int .i64 0)] (pt b90 (cl (List.replicate q.2.2.length (.int .i64 0)) 3) :: pt b20 (cl [.int .i64 q.2.1, q.1] 151) :: vec mv 3 1 M.length (ints M) :: ([vec lv 151 2 B.length (stC B), Res.star (stRows B), vec rv 3 1 N (ints xs), R] ++ hr)) := by
  have hri := st_row hF K.mem
  obtain ⟨ua, ucp, hue, _⟩ := id hri
  have hs1 : q.2.1.toNat < sh.length := K.s1
  have hle := K.le
  have hAl : ((sgr sh (stA B)).prow M x).length = q.2.2.length := by rw [sprow_len, K.row, K.len]
  refine cd_block (cd_loop (σ := Nat) (fun k => [(0, v0), (1, .int .i64 (N : Nat)), (6, .pointer (some ⟨b6, 0, none⟩)), (8, lv), (9, rv), (13, mv), (18, .pointer (some ⟨b18, 0, none⟩)), (19, .int .i64 (i : Nat)), (20, .pointer (some ⟨b20, 0, none⟩)), (21, .slice (some ⟨b90, 0, none⟩) q.2.2.length q.2.2.length), (22, .int .i64 (k : Nat))]) (fun k => pt b90 (cl (ints (((sgr sh (stA B)).prow M x).take k ++ List.replicate (q.2.2.length - k) 0)) 3) :: pt b20 (cl [.int .i64 q.2.1, q.1] 151) :: vec mv 3 1 M.length (ints M) :: ([vec lv 151 2 B.length (stC B), Res.star (stRows B), vec rv 3 1 N (ints xs), R] ++ hr)) (fun k => k ≤ q.2.2.length) (fun k => q.2.2.length - k) 0 (Nat.zero_le _) ⟨rfl, rfl, rfl, rfl, rfl, rfl, rfl, rfl, rfl, rfl, rfl, trivial⟩ (by rw [show ints (((sgr sh (stA B)).prow M x).take 0 ++ List.replicate (q.2.2.length - 0) 0) = List.replicate q.2.2.length (.int .i64 0) by simp [ints]]; exact Sub.refl _) ?_)
  rintro k hk
  simp only [List.cons_append, List.nil_append]
  refine cd_seq (cd_seq (cd_region (st_v (v_move rfl) (st_v (v_fieldAddr rfl fa151_1 rfl) (st_v (v_ld rfl ld34) ?_)))))
  refine st_v (v_len (congrArg some hue) Try.underlying34) (st_v (v_lss rfl rfl) (st_nil (nx_kp [0, 1, 6, 8, 9, 13, 18, 19, 20, 21, 22, 258] rfl (nx_then (cd_cond rfl (fun hc6 => ?_) (fun hc6 => ?_))))))
  · skip
    have hkl : k < q.2.2.length := by simpa using hc6
    have hkr : k < sh[q.2.1.toNat].length := by rw [← K.len]; exact hkl
    obtain ⟨b1, o1, cp1, u, hv1, hu1, hub⟩ := hS.row K.s1
    obtain ⟨ub, uo, ucp', hue2, hrdu⟩ := hub.at hkr
    obtain ⟨fb, fo, fcp, hfe, hfr⟩ := hri.at hkl
    have hpg := sprow_get (sh := sh) (B := B) (M := M) (x := x) (k := k) (by rw [K.row]; exact hkr)
    rw [K.row, K.ob, show sh[q.2.1.toNat].getD k false = sh[q.2.1.toNat][k] from getD_lt hkr, show q.2.2.getD k 0 = q.2.2[k] from getD_lt hkl] at hpg
    have hrl2 : (ints (((sgr sh (stA B)).prow M x).take k ++ List.replicate (q.2.2.length - k) 0)).length = q.2.2.length := by simp [ints]; omega
    refine cd_skip (xt_then (cd_seq (cd_block (cd_seq (cd_region (st_v (v_move rfl) (st_v (v_move rfl) (st_v (v_fieldAddr rfl fa151_1 rfl) (st_v (v_ld rfl ld34) ?_)))))))))
    refine st_v (v_move rfl) (st_v (v_ixo k (congrArg some hfe) rfl sl34 rfl hkl) (st_v (v_ld rfl ld3) ?_))
    refine st_v (v_idx k rfl rfl sl34 rfl hkl) (st_sto rfl rfl sz3 ?_)
    refine st_nil (nx_kp [0, 1, 6, 8, 9, 13, 18, 19, 20, 21, 22] rfl (nx_then (cd_seq (cd_pt (b := b90) (T := 3) (l' := ints (((sgr sh (stA B)).prow M x).take k ++ q.2.2[k] :: List.replicate (q.2.2.length - (k + 1)) 0)) ?he ?_))))
    case he => exact (by rw [ints_set, row_step hAl hkl])
    refine cd_region (st_v (v_move rfl) (st_v (v_fieldAddr rfl fa151_0 rfl) (st_v (v_ld rfl ld3) ?_)))
    refine st_v (v_ixo _ (congrArg some hv1) rfl sl22 (Int.toNat_of_nonneg K.s0).symm K.s1) (st_v (v_ld rfl ld73) ?_)
    refine st_v (v_move rfl) (st_v (v_ixo k (congrArg some hue2) rfl sl73 rfl hkr) (st_v (v_ld rfl ld4) ?_))
    refine st_nil (nx_kp [0, 1, 6, 8, 9, 13, 18, 19, 20, 21, 22, 276] rfl (nx_then (cd_cond rfl (fun hb => ?_) (fun hb => ?_))))
    · skip
      rw [hb, if_pos rfl] at hpg
      have hix := idx_lt (l := M) (t := q.2.2[k])
      have hrl3 : (ints (((sgr sh (stA B)).prow M x).take k ++ q.2.2[k] :: List.replicate (q.2.2.length - (k + 1)) 0)).length = q.2.2.length := by simp [ints]; omega
      refine cd_region (st_v (v_move rfl) (st_v (v_move rfl) (st_v (v_move rfl) (st_v (v_fieldAddr rfl fa151_1 rfl) (st_v (v_ld rfl ld34) ?_)))))
      refine st_v (v_move rfl) (st_v (v_ixo k (congrArg some hfe) rfl sl34 rfl hkl) (st_v (v_ld rfl ld3) ?_))
      refine st_clr rfl rfl en66 rfl (rindex_ct (rowI_vec hmv hma rfl) (by omega)) ?_
      refine st_v (v_add rfl rfl (by unfold I64 at *; omega)) (st_v (v_idx k rfl rfl sl34 rfl hkl) (st_sto rfl rfl sz3 ?_))
      refine st_nil (nx_kp [0, 1, 6, 8, 9, 13, 18, 19, 20, 21, 22] rfl (nx_xt (xt_normal_block (xt_then (cd_region (st_v (v_move rfl) (st_v (v_add rfl rfl (by unfold I64 at *; omega)) (st_v (v_assign rfl) (st_nil (nx_kp [0, 1, 6, 8, 9, 13, 18, 19, 20, 21, 22] rfl (nx_xt (xt_pt (b := b90) (T := 3) (l' := ints (((sgr sh (stA B)).prow M x).take (k + 1) ++ List.replicate (q.2.2.length - (k + 1)) 0)) ?he ?_))))))))))))
      case he => exact (by rw [ints_set, row_step2 hAl hkl, row_next hAl hkl hpg])
      refine xt_ag (k + 1) hkl (by omega)
    · skip
      rw [hb, if_neg (by simp)] at hpg
      refine cd_pt (b := b90) (T := 3) (l' := ints (((sgr sh (stA B)).prow M x).take (k + 1) ++ List.replicate (q.2.2.length - (k + 1)) 0)) ?he ?_
      case he => exact (by rw [row_next hAl hkl hpg])
      refine cd_skip (xt_normal_block (xt_then (cd_region (st_v (v_move rfl) (st_v (v_add rfl rfl (by unfold I64 at *; omega)) (st_v (v_assign rfl) (st_nil (nx_kp [0, 1, 6, 8, 9, 13, 18, 19, 20, 21, 22] rfl (nx_xt ?_)))))))))
      refine xt_ag (k + 1) hkl (by omega)
  · skip
    have hkg : k = q.2.2.length := by
      have : ¬ k < q.2.2.length := by simpa using hc6
      omega
    have hAk : ints (((sgr sh (stA B)).prow M x).take k ++ List.replicate (q.2.2.length - k) 0) = ints ((sgr sh (stA B)).prow M x) ++ [] := by rw [hkg, Nat.sub_self, List.take_of_length_le (by omega)]; simp
    refine cd_pt (b := b90) (T := 3) hAk ?_
    refine cd_exit (xt_exit_then (xt_exit_then (xt_exit_block ?_)))
    exact xt_use hcont
end
end Go.Proofs.Ytmhmpjgkkpbnnaa
