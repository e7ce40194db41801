/-
  Go's library: Min, Compare, Or on names. Conditions: what is read.
  Package heir: shortest. Conditions: what is read.
  Package heir and the specification: named. No condition.
  Package heir: twice. Conditions: what is read.
  Package heir: Ring; Go's library: Or. Conditions: what is read.
  The law's at; the specification's SameNames. Conditions: what is read.
  Go's library: IndexFunc, ContainsFunc on names; package heir: names. Conditions: what is read, what the given function does.
-/
import Derived.Test.YtjgiaohieadeiaaGreatM5
import Derived.Test.YtjgiaohieadeiaaGreatM3
set_option linter.unusedVariables false
set_option linter.unusedSimpArgs false
namespace Go.Hr
open Go Go.Ck Go.Proofs Go.Proofs.YtjgiaohieadeiaaGreat Fx
attribute [local irreducible] Go.Ck.Sub St Cd Xt Nx DrL LsW
def cmpI (a b : Int) : Int := if a < b then -1 else if b < a then 1 else 0
def cmpS (a b : Nm) : Int := if lt a b = true then -1 else if lt b a = true then 1 else 0
def cmpL : List Nm → List Nm → Int
  | [], [] => 0
  | [], _ :: _ => -1
  | _ :: _, [] => 1
  | a :: x, b :: y => if cmpS a b ≠ 0 then cmpS a b else cmpL x y
theorem cmpL_lt : ∀ a b : List Nm, decide (cmpL a b < 0) = lexLt a b
  | [], [] => rfl
  | [], _ :: _ => rfl
  | _ :: _, [] => rfl
  | a :: x, b :: y => by
    unfold cmpL lexLt
    have ih := cmpL_lt x y
    unfold cmpS
    rcases lt_total a b with h | h | h
    · simp [h]
    · subst h; rw [lt_irrefl]; simp [ih]
    · have h2 := lt_asymm h
      rw [h2, h]
      have : (a == b) = false := by
        cases hab : a == b with
        | false => rfl
        | true => rw [show a = b by simpa using hab, lt_irrefl] at h; cases h
      simp [this]
section
variable {S S' : Res} {v v' : Value}
set_option maxRecDepth 100000 in
theorem nanI_ct (a : Int) : Reads Tryz.prog 79 #[.int .i64 a] [] (.bool false) := by
  refine ct_of (n := 6) Tryz.func79 rfl rfl (len rfl) fun hr w0 => ?_
  refine cd_seq (cd_region (st_v (v_assign rfl) (st_nil (nx_then (cd_seq (cd_region (st_v (v_move rfl) (st_v (v_move rfl) (st_v (v_neq rfl rfl) (st_v (v_assign rfl) (st_nil (nx_kp [2] rfl (nx_then (cd_ret ?_))))))))))))))
  rw [show (a != a) = false by simp]
  exact xt_rt rfl ⟨rfl, rfl⟩ (by (repeat (refine Sub.sel (by repeat (first | exact Sel.here | apply Sel.there)) ?_)); (repeat apply Sub.cons); first | exact Sub.refl _ | exact Sub.nil _)
set_option maxRecDepth 100000 in
theorem nanS_ct (a : Nm) : Reads Tryz.prog 106 #[sv a] [] (.bool false) := by
  refine ct_of (n := 6) Tryz.func106 rfl rfl (len rfl) fun hr w0 => ?_
  refine cd_seq (cd_region (st_v (v_assign rfl) (st_nil (nx_then (cd_seq (cd_region (st_v (v_move rfl) (st_v (v_move rfl) (st_v (v_sneq rfl rfl) (st_v (v_assign rfl) (st_nil (nx_kp [2] rfl (nx_then (cd_ret ?_))))))))))))))
  rw [show (!(a == a)) = false by simp]
  exact xt_rt rfl ⟨rfl, rfl⟩ (by (repeat (refine Sub.sel (by repeat (first | exact Sel.here | apply Sel.there)) ?_)); (repeat apply Sub.cons); first | exact Sub.refl _ | exact Sub.nil _)
set_option maxRecDepth 100000 in
theorem cmpI_ct (a b : Int) : Reads Tryz.prog 62 #[.int .i64 a, .int .i64 b] [] (.int .i64 (cmpI a b)) := by
  unfold cmpI
  refine ct_of (n := 20) Tryz.func62 rfl rfl (len rfl) fun hr w0 => ?_
  refine cd_seq (cd_region (st_v (v_assign rfl) (st_nil (nx_then (cd_seq (cd_region (st_v (v_move rfl) (st_clr rfl rfl en79 rfl (nanI_ct a) ?_))))))))
  refine st_v (v_assign rfl) (st_nil (nx_kp [0, 1, 4, 5] rfl (nx_then (cd_seq (cd_region (st_v (v_move rfl) (st_clr rfl rfl en79 rfl (nanI_ct b) ?_)))))))
  refine st_v (v_assign rfl) (st_nil (nx_kp [0, 1, 4, 5, 6] rfl (nx_then (cd_seq (cd_seq (cd_region (st_v (v_move rfl) (st_nil (nx_kp [0, 1, 4, 6, 11] rfl (nx_then (cd_false rfl ?_)))))))))))
  refine cd_skip (xt_then (cd_seq (cd_seq (cd_region (st_v (v_move rfl) (st_nil (nx_kp [0, 1, 4, 13] rfl (nx_then (cd_false rfl ?_)))))))))
  refine cd_skip (xt_then (cd_seq (cd_seq (cd_region (st_v (v_move rfl) (st_v (v_move rfl) (st_v (v_lss rfl rfl) (st_nil (nx_kp [0, 1, 4, 16] rfl (nx_then (cd_cond rfl (fun h1 => ?_) (fun h1 => ?_))))))))))))
  · skip
    refine cd_seq (cd_region (st_v (v_assign rfl) (st_nil (nx_kp [4] rfl (nx_then (cd_ret (xt_ret_then ?_)))))))
    rw [if_pos (by simpa using h1)]
    exact xt_rt rfl ⟨rfl, rfl⟩ (by (repeat (refine Sub.sel (by repeat (first | exact Sel.here | apply Sel.there)) ?_)); (repeat apply Sub.cons); first | exact Sub.refl _ | exact Sub.nil _)
  · skip
    rw [if_neg (by simpa using h1)]
    refine cd_skip (xt_then (cd_seq (cd_seq (cd_region (st_v (v_move rfl) (st_v (v_move rfl) (st_v (v_gtr rfl rfl) (st_nil (nx_kp [4, 19] rfl (nx_then (cd_cond rfl (fun h2 => ?_) (fun h2 => ?_))))))))))))
    · skip
      refine cd_seq (cd_region (st_v (v_assign rfl) (st_nil (nx_kp [4] rfl (nx_then (cd_ret (xt_ret_then ?_)))))))
      rw [if_pos (by simpa using h2)]
      exact xt_rt rfl ⟨rfl, rfl⟩ (by (repeat (refine Sub.sel (by repeat (first | exact Sel.here | apply Sel.there)) ?_)); (repeat apply Sub.cons); first | exact Sub.refl _ | exact Sub.nil _)
    · skip
      refine cd_skip (xt_then (cd_seq (cd_region (st_v (v_assign rfl) (st_nil (nx_kp [4] rfl (nx_then (cd_ret ?_))))))))
      rw [if_neg (by simpa using h2)]
      exact xt_rt rfl ⟨rfl, rfl⟩ (by (repeat (refine Sub.sel (by repeat (first | exact Sel.here | apply Sel.there)) ?_)); (repeat apply Sub.cons); first | exact Sub.refl _ | exact Sub.nil _)
set_option maxRecDepth 100000 in
theorem cmpS_ct (a b : Nm) : Reads Tryz.prog 80 #[sv a, sv b] [] (.int .i64 (cmpS a b)) := by
  unfold cmpS
  refine ct_of (n := 20) Tryz.func80 rfl rfl (len rfl) fun hr w0 => ?_
  refine cd_seq (cd_region (st_v (v_assign rfl) (st_nil (nx_then (cd_seq (cd_region (st_v (v_move rfl) (st_clr rfl rfl en106 rfl (nanS_ct a) ?_))))))))
  refine st_v (v_assign rfl) (st_nil (nx_kp [0, 1, 4, 5] rfl (nx_then (cd_seq (cd_region (st_v (v_move rfl) (st_clr rfl rfl en106 rfl (nanS_ct b) ?_)))))))
  refine st_v (v_assign rfl) (st_nil (nx_kp [0, 1, 4, 5, 6] rfl (nx_then (cd_seq (cd_seq (cd_region (st_v (v_move rfl) (st_nil (nx_kp [0, 1, 4, 6, 11] rfl (nx_then (cd_false rfl ?_)))))))))))
  refine cd_skip (xt_then (cd_seq (cd_seq (cd_region (st_v (v_move rfl) (st_nil (nx_kp [0, 1, 4, 13] rfl (nx_then (cd_false rfl ?_)))))))))
  refine cd_skip (xt_then (cd_seq (cd_seq (cd_region (st_v (v_move rfl) (st_v (v_move rfl) (st_v (v_slss rfl rfl) (st_nil (nx_kp [0, 1, 4, 16] rfl (nx_then (cd_cond rfl (fun h1 => ?_) (fun h1 => ?_))))))))))))
  · skip
    refine cd_seq (cd_region (st_v (v_assign rfl) (st_nil (nx_kp [4] rfl (nx_then (cd_ret (xt_ret_then ?_)))))))
    rw [if_pos h1]
    exact xt_rt rfl ⟨rfl, rfl⟩ (by (repeat (refine Sub.sel (by repeat (first | exact Sel.here | apply Sel.there)) ?_)); (repeat apply Sub.cons); first | exact Sub.refl _ | exact Sub.nil _)
  · skip
    rw [if_neg (show ¬ lt a b = true by rw [show lt a b = false from h1]; decide)]
    refine cd_skip (xt_then (cd_seq (cd_seq (cd_region (st_v (v_move rfl) (st_v (v_move rfl) (st_v (v_sgtr rfl rfl) (st_nil (nx_kp [4, 19] rfl (nx_then (cd_cond rfl (fun h2 => ?_) (fun h2 => ?_))))))))))))
    · skip
      refine cd_seq (cd_region (st_v (v_assign rfl) (st_nil (nx_kp [4] rfl (nx_then (cd_ret (xt_ret_then ?_)))))))
      rw [if_pos (by
        rw [Bool.not_eq_true', Bool.or_eq_false_iff] at h2
        rcases lt_total a b with h | h | h
        · exact absurd h (by rw [show lt a b = false from h2.1]; decide)
        · rw [h] at h2; simp at h2
        · exact h)]
      exact xt_rt rfl ⟨rfl, rfl⟩ (by (repeat (refine Sub.sel (by repeat (first | exact Sel.here | apply Sel.there)) ?_)); (repeat apply Sub.cons); first | exact Sub.refl _ | exact Sub.nil _)
    · skip
      refine cd_skip (xt_then (cd_seq (cd_region (st_v (v_assign rfl) (st_nil (nx_kp [4] rfl (nx_then (cd_ret ?_))))))))
      rw [if_neg (by
        rw [Bool.not_eq_false', Bool.or_eq_true] at h2
        rcases h2 with h2 | h2
        · rw [lt_asymm h2]; decide
        · rw [show a = b by simpa using h2, lt_irrefl]; decide)]
      exact xt_rt rfl ⟨rfl, rfl⟩ (by (repeat (refine Sub.sel (by repeat (first | exact Sel.here | apply Sel.there)) ?_)); (repeat apply Sub.cons); first | exact Sub.refl _ | exact Sub.nil _)
set_option maxRecDepth 100000 in
theorem cmpL_ct {xs ys : List Nm} (hv : nmsR S v xs) (hv' : nmsR S' v' ys) (hl : xs.length ≤ 1099511627776) (hl' : ys.length ≤ 1099511627776) : Reads Tryz.prog 63 #[v, v'] [S, S'] (.int .i64 (cmpL xs ys)) := by
  obtain ⟨a, cap, rfl, _⟩ := id hv
  obtain ⟨a', cap', rfl, _⟩ := id hv'
  refine ct_of (n := 36) Tryz.func63 rfl rfl (len rfl) fun hr w0 => ?_
  refine cd_seq (cd_region (st_v (v_assign rfl) (st_nil (nx_then (cd_seq (cd_seq (cd_region (st_v (v_move rfl) (st_v (v_len rfl Tryz.underlying25) (st_v (v_move rfl) (st_nil (nx_then (cd_block (cd_lq (σ := Nat) (fun i => [(0, .slice a xs.length cap), (1, .slice a' ys.length cap'), (9, .slice a xs.length cap), (10, .int .i64 xs.length), (11, .int .i64 (i : Nat))]) (fun _ => S :: S' :: hr) (fun i => i ≤ xs.length ∧ i ≤ ys.length ∧ cmpL xs ys = cmpL (xs.drop i) (ys.drop i)) (fun i => xs.length - i) 0 ⟨Nat.zero_le _, Nat.zero_le _, rfl⟩ ?_))))))))))))))
  rintro i ⟨hi, hi', hc⟩
  refine cd_seq (cd_region (st_v (v_lss rfl rfl) (st_nil (nx_then (cd_seq (cd_cond rfl (fun hd => ?_) (fun hd => ?_)))))))
  · skip
    have hlt : i < xs.length := by simpa using hd
    obtain ⟨b, o, cap2, hv2, hrd⟩ := nms_at hv (List.getElem?_eq_getElem hlt)
    have hx : xs.drop i = xs[i] :: xs.drop (i + 1) := (List.getElem_cons_drop hlt).symm
    refine cd_skip (xt_then (cd_seq (cd_block (cd_seq (cd_region (st_v (v_move rfl) (st_v (v_indexAddr (k := i) (congrArg some hv2) rfl sl25 rfl hlt rfl) (st_v (v_ldy rfl ld9) ?_))))))))
    refine st_v (v_assign rfl) (st_v (v_assign rfl) (st_nil (nx_kp [0, 1, 5, 6, 9, 10, 11] rfl (nx_then (cd_seq (cd_seq (cd_region (st_v (v_move rfl) (st_v (v_move rfl) (st_v (v_len rfl Tryz.underlying25) (st_v (v_geq rfl rfl) (st_nil (nx_kp [0, 1, 5, 6, 9, 10, 11, 19] rfl (nx_then (cd_cond rfl (fun he => ?_) (fun he => ?_))))))))))))))))
    · skip
      have he : ys.length ≤ i := by have : (ys.length : Int) ≤ i := by simpa using he
                                    omega
      have hy : ys.drop i = [] := List.drop_eq_nil_of_le he
      refine cd_seq (cd_region (st_v (v_assign rfl) (st_nil (nx_kp [4] rfl (nx_then (cd_ret (xt_ret_then (xt_ret_block (xt_ret_then (xt_ret_then (xt_ret_block (xt_ret_then ?_))))))))))))
      rw [hc, hx, hy]
      exact xt_rt rfl ⟨rfl, rfl⟩ (by (repeat (refine Sub.sel (by repeat (first | exact Sel.here | apply Sel.there)) ?_)); (repeat apply Sub.cons); first | exact Sub.refl _ | exact Sub.nil _)
    · skip
      have he : i < ys.length := by have : ¬ (ys.length : Int) ≤ i := by simpa using he
                                    omega
      obtain ⟨b', o', cap2', hv2', hrd'⟩ := nms_at hv' (List.getElem?_eq_getElem he)
      have hy : ys.drop i = ys[i] :: ys.drop (i + 1) := (List.getElem_cons_drop he).symm
      refine cd_skip (xt_then (cd_seq (cd_region (st_v (v_move rfl) (st_v (v_move rfl) (st_v (v_indexAddr (k := i) (congrArg some hv2') rfl sl25 rfl he rfl) (st_v (v_ldy rfl ld9) ?_)))))))
      refine st_v (v_assign rfl) (st_nil (nx_kp [0, 1, 6, 7, 9, 10, 11] rfl (nx_then (cd_seq (cd_region (st_v (v_move rfl) (st_v (v_move rfl) (st_clr rfl rfl en80 rfl (cmpS_ct xs[i] ys[i]) ?_))))))))
      refine st_v (v_assign rfl) (st_nil (nx_kp [0, 1, 8, 9, 10, 11] rfl (nx_then (cd_seq (cd_region (st_v (v_move rfl) (st_v (v_neq rfl rfl) (st_nil (nx_kp [0, 1, 8, 9, 10, 11, 28] rfl (nx_then (cd_cond rfl (fun hn => ?_) (fun hn => ?_))))))))))))
      · skip
        have hn : cmpS xs[i] ys[i] ≠ 0 := by simpa using hn
        refine cd_seq (cd_region (st_v (v_move rfl) (st_v (v_assign rfl) (st_nil (nx_kp [4] rfl (nx_then (cd_ret (xt_ret_block (xt_ret_then (xt_ret_then (xt_ret_block (xt_ret_then ?_))))))))))))
        rw [hc, hx, hy, cmpL, if_pos hn]
        exact xt_rt rfl ⟨rfl, rfl⟩ (by (repeat (refine Sub.sel (by repeat (first | exact Sel.here | apply Sel.there)) ?_)); (repeat apply Sub.cons); first | exact Sub.refl _ | exact Sub.nil _)
      · skip
        have hn : cmpS xs[i] ys[i] = 0 := by simpa using hn
        refine cd_skip (xt_normal_block (xt_then (cd_region (st_v (v_add rfl rfl (by unfold I64 at *; omega)) (st_v (v_move rfl) (st_nil (nx_kp [0, 1, 9, 10, 11] rfl (nx_xt ?_))))))))
        refine xt_aq (i + 1) ⟨hlt, he, by rw [hc, hx, hy, cmpL, if_neg (by rw [hn]; decide)]⟩ (by show _ - _ < _ - _; omega)
  · skip
    have hil : i = xs.length := by have : ¬ i < xs.length := by simpa using hd
                                   omega
    have hx : xs.drop i = [] := List.drop_eq_nil_of_le (by omega)
    refine cd_exit (xt_exit_then (xt_exit_then (xt_exit_block (xt_then (cd_seq (cd_seq (cd_region (st_v (v_move rfl) (st_v (v_len rfl Tryz.underlying25) (st_v (v_move rfl) (st_v (v_len rfl Tryz.underlying25) (st_v (v_lss rfl rfl) (st_nil (nx_kp [35] rfl (nx_then ?_)))))))))))))))
    refine cd_cond rfl (fun he => ?_) (fun he => ?_)
    · skip
      have he : xs.length < ys.length := by have : (xs.length : Int) < ys.length := by simpa using he
                                            omega
      refine cd_seq (cd_region (st_v (v_assign rfl) (st_nil (nx_kp [4] rfl (nx_then (cd_ret (xt_ret_then ?_)))))))
      rw [hc, hx, ← List.getElem_cons_drop (show i < ys.length by omega)]
      exact xt_rt rfl ⟨rfl, rfl⟩ (by (repeat (refine Sub.sel (by repeat (first | exact Sel.here | apply Sel.there)) ?_)); (repeat apply Sub.cons); first | exact Sub.refl _ | exact Sub.nil _)
    · skip
      have he : ¬ xs.length < ys.length := by have : ¬ (xs.length : Int) < ys.length := by simpa using he
                                              omega
      refine cd_skip (xt_then (cd_seq (cd_region (st_v (v_assign rfl) (st_nil (nx_kp [4] rfl (nx_then (cd_ret ?_))))))))
      rw [hc, hx, List.drop_eq_nil_of_le (by omega)]
      exact xt_rt rfl ⟨rfl, rfl⟩ (by (repeat (refine Sub.sel (by repeat (first | exact Sel.here | apply Sel.there)) ?_)); (repeat apply Sub.cons); first | exact Sub.refl _ | exact Sub.nil _)
set_option maxRecDepth 100000 in
theorem Min_ct {xs : List Nm} (hv : nmsR S v xs) (hl : xs.length ≤ 1099511627776) (hne : xs ≠ []) : Reads Tryz.prog 49 #[v] [S] (sv (minN xs)) := by
  obtain ⟨a, cap, rfl, _⟩ := id hv
  have h0 : 0 < xs.length := List.length_pos_iff.2 hne
  obtain ⟨b0, o0, cap0, hv0, hrd0⟩ := nms_at hv (List.getElem?_eq_getElem h0)
  refine ct_of (n := 25) Tryz.func49 rfl rfl (len rfl) fun hr w0 => ?_
  refine cd_seq (cd_region (st_v (v_assign rfl) (st_nil (nx_then (cd_seq (cd_seq (cd_region (st_v (v_move rfl) (st_v (v_len rfl Tryz.underlying25) (st_v (v_lss rfl rfl) (st_nil (nx_kp [0, 2, 7] rfl (nx_then (cd_cond rfl (fun hz => ?_) (fun hz => ?_)))))))))))))))
  · skip
    have : (xs.length : Int) < 1 := by simpa using hz
    omega
  · skip
    refine cd_skip (xt_then (cd_seq (cd_region (st_v (v_move rfl) (st_v (v_indexAddr (k := 0) (congrArg some hv0) rfl sl25 rfl h0 rfl) (st_v (v_ldy rfl ld9) ?_))))))
    refine st_v (v_assign rfl) (st_nil (nx_kp [0, 2, 3] rfl (nx_then (cd_seq (cd_seq (cd_region (st_v (v_assign rfl) (st_nil (nx_then (cd_block (cd_lq (σ := Nm × Nat) (fun q => [(0, .slice a xs.length cap), (3, sv q.1), (4, .int .i64 (q.2 : Nat))]) (fun _ => S :: hr) (fun q => q.2 ≤ xs.length ∧ q.1 ∈ xs.take q.2 ∧ ∀ y ∈ xs.take q.2, lt y q.1 = false) (fun q => xs.length - q.2) (xs[0], 1) ⟨h0, by rw [List.take_succ_eq_append_getElem h0]; simp, fun y hy => by rw [List.take_succ_eq_append_getElem h0] at hy; simp at hy; rw [hy]; exact lt_irrefl _⟩ ?_)))))))))))
    rintro ⟨m, i⟩ ⟨hi, hm, hle⟩
    simp only at hi hm hle
    dsimp only
    refine cd_seq (cd_seq (cd_region (st_v (v_move rfl) (st_v (v_move rfl) (st_v (v_len rfl Tryz.underlying25) (st_v (v_lss rfl rfl) (st_nil (nx_kp [0, 3, 4, 15] rfl (nx_then (cd_cond rfl (fun hd => ?_) (fun hd => ?_)))))))))))
    · skip
      have hlt : i < xs.length := by simpa using hd
      obtain ⟨b, o, cap2, hv2, hrd⟩ := nms_at hv (List.getElem?_eq_getElem hlt)
      have ht := List.take_succ_eq_append_getElem hlt
      refine cd_skip (xt_then (cd_seq (cd_block (cd_region (st_v (v_move rfl) (st_v (v_move rfl) (st_v (v_move rfl) (st_v (v_indexAddr (k := i) (congrArg some hv2) rfl sl25 rfl hlt rfl) (st_v (v_ldy rfl ld9) ?_)))))))))
      refine st_v (v_smin rfl rfl) (st_v (v_assign rfl) (st_nil (nx_kp [0, 3, 4] rfl (nx_xt (xt_normal_block (xt_then (cd_region (st_v (v_move rfl) (st_v (v_add rfl rfl (by unfold I64 at *; omega)) (st_v (v_assign rfl) (st_nil (nx_kp [0, 3, 4] rfl (nx_xt (xt_aq (_, i + 1) ⟨hlt, ?_, ?_⟩ (by show _ - _ < _ - _; omega)))))))))))))))
      · show (if _ then _ else _) ∈ xs.take (i + 1)
        rw [ht, List.mem_append]
        split
        · exact .inl hm
        · exact .inr (List.mem_singleton.2 rfl)
      · intro y hy
        show lt y (if _ then _ else _) = false
        rw [ht, List.mem_append, List.mem_singleton] at hy
        split
        · rename_i hq
          rcases hy with hy | rfl
          · exact hle y hy
          · rw [Bool.or_eq_true] at hq
            rcases hq with hq | hq
            · exact lt_asymm hq
            · rw [show m = xs[i] by simpa using hq]; exact lt_irrefl _
        · rename_i hq
          rw [Bool.not_eq_true, Bool.or_eq_false_iff] at hq
          rcases hy with hy | rfl
          · cases hc : lt y xs[i] with
            | false => rfl
            | true =>
              have hxm : lt xs[i] m = true := by
                rcases lt_total m xs[i] with h | h | h
                · exact absurd h (by rw [show lt m xs[i] = false from hq.1]; decide)
                · rw [h] at hq; simp at hq
                · exact h
              have := hle y hy
              rw [lt_trans hc hxm] at this; cases this
          · exact lt_irrefl _
    · skip
      have hil : i = xs.length := by have : ¬ i < xs.length := by simpa using hd
                                     omega
      subst hil
      rw [List.take_length] at hm hle
      rw [minN_uniq hm hle]
      refine cd_exit (xt_exit_then (xt_exit_then (xt_exit_block (xt_then (cd_seq (cd_region (st_v (v_move rfl) (st_v (v_assign rfl) (st_nil (nx_kp [2] rfl (nx_then (cd_ret ?_))))))))))))
      exact xt_rt rfl ⟨rfl, rfl⟩ (by (repeat (refine Sub.sel (by repeat (first | exact Sel.here | apply Sel.there)) ?_)); (repeat apply Sub.cons); first | exact Sub.refl _ | exact Sub.nil _)
end
end Go.Hr
namespace Go.Hr
open Go Go.Ck Go.Proofs Go.Proofs.YtjgiaohieadeiaaGreat Fx
attribute [local irreducible] Go.Ck.Sub St Cd Xt Nx DrL LsW
/-- What shortest finds. -/
def shortR (l : Sys) (to c : Nm) : List Nm := match dist l to c with | none => [] | some k => short l to k c
theorem far_look {l : Sys} {to : Nm} {F : List (Nm × Nat)} (hF : ∀ x, alook F x = dist l to x) (x : Nm) : (slook (mvG nV F) x).getD (.int .i64 0) = match dist l to x with | none => .int .i64 0 | some k => .int .i64 ((k : Int) + 1) := by
  rw [slook_mvG, hF]
  cases dist l to x <;> rfl
theorem dist_le {l : Sys} {to c : Nm} {k : Nat} (h : dist l to c = some k) : k ≤ l.length := by
  unfold dist at h
  have := List.mem_of_find?_eq_some h
  rw [List.mem_range] at this
  omega
theorem dist_zero {l : Sys} {to c : Nm} : dist l to c = some 0 ↔ c = to := by
  rw [dist_some]
  simp [W]
theorem short_head (l : Sys) (to : Nm) : ∀ k c, short l to k c = c :: (short l to k c).drop 1
  | 0, c => rfl
  | k + 1, c => rfl
theorem par_len {l : Sys} (hF : Fine l) (c : Nm) : (par l c).length ≤ 1099511627776 := by
  refine Nat.le_trans (List.length_filter_le _ _) ?_
  unfold pars
  cases hf : find l c with
  | none => simp
  | some x => exact hF.few x (find_name hf).2
section
variable {S : Res} {v : Value} {l : Sys}
set_option maxHeartbeats 2000000 in
set_option maxRecDepth 100000 in
theorem shortest_ct {mb : Nat} (hv : sysR S v l) (hF : Fine l) (from_ to : Nm) : CtN Tryz.prog 47 #[.agg #[v, .map (some mb)], sv from_, sv to] [S, mps mb (kindsM l)] fun u T => ∃ a cp, u = .slice a (shortR l to from_).length cp ∧ a.isNone = (dist l to from_).isNone ∧ T = NR u (shortR l to from_) := by
  obtain ⟨a, cap, rfl, _⟩ := id hv
  have hFl := hF.len
  refine ct_ofM (n := 52) Tryz.func47 rfl rfl (len rfl) fun hr w0 => ?_
  refine cd_seq (cd_region (st_bx rfl rfl fun b3 => ?_))
  refine st_bx rfl rfl fun b4 => ?_
  refine st_v (v_assign rfl) (st_nil (nx_kp [2, 3, 4, 6] rfl (nx_then (cd_seq (cd_region (st_v (v_ldn rfl ld75 rfl rds_pt) ?_))))))
  refine st_v (v_move rfl) (st_cl rfl rfl en75 rfl (far_ct hv hF to) ?_)
  rintro u h' ⟨mf, F, rfl, rfl, hFF⟩
  simp only [List.cons_append, List.nil_append]
  refine st_alc al73 fun b7 => ?_
  refine st_sto rfl rfl sz73 ?_
  refine st_nil (nx_kp [2, 3, 4, 6, 7] rfl (nx_then (cd_seq (cd_seq (cd_region (st_v (v_ldy rfl ld73) ?_))))))
  refine st_v (v_ldy rfl ld9) ?_
  cases hd0 : dist l to from_
  · skip
    have hsr : shortR l to from_ = [] := by unfold shortR; rw [hd0]
    refine st_v (v_is (show (slook (mvG nV F) from_).getD (.int .i64 0) = .int .i64 0 by rw [far_look hFF, hd0]) (v_slookup rfl rfl mp73 inf3 (by repeat (first | exact Sel.here | apply Sel.there)))) ?_
    refine st_v (v_eql rfl rfl) (st_nil (nx_kp [2, 3, 4, 6, 7, 18] rfl (nx_then (cd_true rfl ?_))))
    refine cd_seq (cd_region (st_v (v_assign rfl) (st_nil (nx_kp [6] rfl (nx_then (cd_ret (xt_ret_then ?_)))))))
    rw [hsr]
    refine xt_vw (vw_nil 9 1) (xt_retM (bs := []) rfl rfl ⟨NR (.slice none 0 0) [], rfl, none, 0, rfl, rfl, rfl⟩ (by (repeat (refine Sub.sel (by repeat (first | exact Sel.here | apply Sel.there)) ?_)); (repeat apply Sub.cons); first | exact Sub.refl _ | exact Sub.nil _))
  · skip
    rename_i k0
    have hsr : shortR l to from_ = short l to k0 from_ := by unfold shortR; rw [hd0]
    have hk0 := dist_le hd0
    refine st_v (v_is (show (slook (mvG nV F) from_).getD (.int .i64 0) = .int .i64 ((k0 : Int) + 1) by rw [far_look hFF, hd0]) (v_slookup rfl rfl mp73 inf3 (by repeat (first | exact Sel.here | apply Sel.there)))) ?_
    refine st_v (v_eql rfl rfl) (st_nil (nx_kp [2, 3, 4, 6, 7, 18] rfl (nx_then ?_)))
    rw [show (((k0 : Int) + 1) == 0) = false by simp; omega]
    refine cd_false rfl ?_
    refine cd_skip (xt_then (cd_seq (cd_region (st_v (v_ldy rfl ld9) ?_))))
    refine st_buildSlice (cells := [sv from_]) rfl Tryz.underlying25 inf9 rfl rfl (by kernel_rfl) (ltn rfl) fun b20 => ?_
    refine st_v (v_assign rfl) (st_nil (nx_kp [2, 3, 4, 6, 7, 8] rfl (nx_then (cd_seq (cd_block (cd_pv (pv_of (b := b20) (n := 1) (sz := 1) (E := 9) [nC from_] rfl (by simp [nC]) rfl (by decide)) ?_))))))
    refine cd_marks0 ?_
    simp only [List.cons_append, List.nil_append]
    refine cd_loopD (σ := (Nat × Nm) × (Value × List Nm) × List Nat) (fun q => q.2.2.map mk) (fun q => [(2, sv to), (3, .pointer (some ⟨b3, 0, none⟩)), (4, .pointer (some ⟨b4, 0, none⟩)), (7, .pointer (some ⟨b7, 0, none⟩)), (8, q.2.1.1)]) (fun q => Res.star (marks q.2.2) :: pt b4 (cl [sv q.1.2] 9) :: NR q.2.1.1 q.2.1.2 :: pt b7 (cl [.map (some mf)] 73) :: mps mf (mvG nV F) :: pt b3 (cl [.slice a l.length cap, .map (some mb)] 75) :: S :: mps mb (kindsM l) :: hr) (fun q => dist l to q.1.2 = some q.1.1 ∧ q.2.1.1.oneCell' = true ∧ q.2.1.2 ++ (short l to q.1.1 q.1.2).drop 1 = short l to k0 from_) (fun q => q.1.1) ((k0, from_), (.slice (some ⟨b20, 0, none⟩) 1 1, [from_]), []) ⟨hd0, rfl, (short_head l to k0 from_).symm⟩ rfl ⟨rfl, rfl, rfl, rfl, rfl, trivial⟩ (by (repeat (refine Sub.sel (by repeat (first | exact Sel.here | apply Sel.there)) ?_)); (repeat apply Sub.cons); first | exact Sub.refl _ | exact Sub.nil _) ?_
    rintro ⟨⟨j, c⟩, ⟨w0v, out⟩, bs⟩ ⟨hdj, hw0, hout⟩
    simp only at hdj hw0 hout
    dsimp only
    have holen : out.length ≤ k0 + 1 := by
      have := congrArg List.length hout
      rw [List.length_append, short_len] at this
      omega
    refine cd_seq (cd_seq (cd_region (st_v (v_ldy rfl ld9) ?_)))
    refine st_v (v_move rfl) (st_v (v_sneq rfl rfl) (st_nil (nx_kp [2, 3, 4, 7, 8, 23] rfl (nx_then (cd_cond rfl (fun hct => ?_) (fun hct => ?_))))))
    · skip
      have hct : c ≠ to := by simpa using hct
      obtain ⟨j', rfl⟩ : ∃ j', j = j' + 1 := by
        cases j with
        | zero => exact absurd (dist_zero.1 hdj) hct
        | succ j' => exact ⟨j', rfl⟩
      have hnx := nexts_ne hdj
      have hdn := next_spec hdj
      have hjl := dist_le hdj
      refine cd_skip (xt_then (cd_block (cd_seq (cd_region (st_alc al25 fun b9 => ?_)))))
      refine st_nil (nx_kp [2, 3, 4, 7, 8, 9] rfl (nx_then (cd_seq (cd_seq (cd_region (st_v (v_ldn rfl ld75 rfl rds_pt) ?_))))))
      refine st_v (v_ldy rfl ld9) ?_
      refine st_cl rfl rfl en37 rfl (parents0_ct rfl) ?_
      rintro u h' ⟨n1, n2, rfl, rfl⟩
      refine st_nil (nx_kp [2, 3, 4, 7, 8, 9, 26] rfl (nx_then (cd_block (cd_vw (vw_nil 9 1) ?_))))
      simp only [List.cons_append, List.nil_append]
      unfold seqv
      refine cd_range' rfl en71 fun yl db rec hst hpe hps hasg hbo hkn2 => ?_
      refine ⟨_, Ct.perm (it_ct (σ := Value × List Nm) (b1 := n1) (b2 := n2) (mb := mb) (yl := yl) (c := c) (fun q => pt yl (.loop rec) :: pt db (.deferred (some [])) :: pt b9 (cl [q.1] 25) :: NR q.1 q.2 :: Res.star (marks bs) :: pt b4 (cl [sv c] 9) :: NR w0v out :: pt b7 (cl [.map (some mf)] 73) :: mps mf (mvG nV F) :: pt b3 (cl [.slice a l.length cap, .map (some mb)] 75) :: hr)
        (fun k q => q.1.oneCell' = true ∧ q.2 = ((par l c).take k).filter fun p => dist l to p == some j') (fun _ _ => False) (.slice none 0 0, []) ⟨rfl, rfl⟩ hv hF.few ?_) ?_, ?_⟩
      · rintro k ⟨w, ns⟩ p hk ⟨hw, hns⟩
        simp only at hw hns
        obtain ⟨hkl, hke⟩ := List.getElem?_eq_some_iff.1 hk
        have hpl := par_len hF c
        have hnl : ns.length ≤ k := by rw [hns]; exact Nat.le_trans (List.length_filter_le _ _) (by simp; omega)
        have htk : ((par l c).take (k + 1)).filter (fun p => dist l to p == some j') = ns ++ (if dist l to p == some j' then [p] else []) := by
          rw [List.take_succ_eq_append_getElem hkl, hke, List.filter_append, ← hns]
          congr 1
          by_cases hq : (dist l to p == some j') = true
          · rw [if_pos hq, List.filter_cons_of_pos (by exact hq)]; rfl
          · rw [if_neg hq, List.filter_cons_of_neg (by exact hq)]; rfl
        refine Yc.perm (yc_of (n := 52) (rec := rec) (args := [sv p]) (hf := pt db (.deferred (some [])) :: pt b9 (cl [w] 25) :: NR w ns :: Res.star (marks bs) :: pt b4 (cl [sv c] 9) :: NR w0v out :: pt b7 (cl [.map (some mf)] 73) :: mps mf (mvG nV F) :: pt b3 (cl [.slice a l.length cap, .map (some mb)] 75) :: S :: mps mb (kindsM l) :: hr) (by rw [hps]; rfl) hkn2 (by rw [hps]; decide) ?_) (by exact (by repeat (first | exact Pm.refl | refine Pm.cons (by repeat (first | exact Sel.here | apply Sel.there)) ?_) : Pm _ _).perm)
        intro hr2 w1
        rw [hasg, hps, hbo]
        simp only [List.cons_append, List.nil_append]
        refine cd_region (st_v (v_assign rfl) (st_nil (nx_kp [4, 7, 9, 10] rfl (nx_xt (xt_mid rfl (by repeat (first | exact Sel.here | apply Sel.there)) (by first | rfl | assumption) ?_)))))
        refine cd_block (cd_seq (cd_region (st_v (v_ldy rfl ld73) ?_)))
        refine st_v (v_move rfl) ?_
        cases hdp : dist l to p
        · skip
          refine st_v (v_is (show (slook (mvG nV F) p).getD (.int .i64 0) = .int .i64 0 by rw [far_look hFF, hdp]) (v_slookup rfl rfl mp73 inf3 (by repeat (first | exact Sel.here | apply Sel.there)))) ?_
          refine st_v (v_assign rfl) (st_nil (nx_kp [4, 7, 9, 10, 11] rfl (nx_then (cd_seq (cd_region (st_v (v_move rfl) (st_v (v_gtr rfl rfl) (st_v (v_move rfl) (st_sk rfl rfl rfl ?_)))))))))
          refine st_sk rfl rfl rfl ?_
          refine st_sk rfl rfl rfl ?_
          refine st_sk rfl rfl rfl ?_
          refine st_sk rfl rfl rfl ?_
          refine st_sk rfl rfl rfl ?_
          refine st_v (v_pick_false rfl rfl) (st_nil (nx_kp [9, 10, 40] rfl (nx_then (cd_false rfl ?_))))
          refine cd_skip (xt_normal_block (xt_round (by repeat (first | exact Sel.here | apply Sel.there)) (.inl ⟨rfl, (w, ns), ⟨hw, ?_⟩, rfl⟩) ?_))
          · show ns = _
            rw [htk, hdp]; simp
          · rw [rec_back hst hpe]
            exact (by repeat (first | exact Sub.refl _ | exact Sub.nil _ | refine Sub.sel (by repeat (first | exact Sel.here | apply Sel.there)) ?_ | apply Sub.cons))
        · skip
          rename_i m
          have hml := dist_le hdp
          refine st_v (v_is (show (slook (mvG nV F) p).getD (.int .i64 0) = .int .i64 ((m : Int) + 1) by rw [far_look hFF, hdp]) (v_slookup rfl rfl mp73 inf3 (by repeat (first | exact Sel.here | apply Sel.there)))) ?_
          refine st_v (v_assign rfl) (st_nil (nx_kp [4, 7, 9, 10, 11] rfl (nx_then (cd_seq (cd_region (st_v (v_move rfl) (st_v (v_gtr rfl rfl) (st_v (v_move rfl) ?_))))))))
          rw [show decide ((0 : Int) < (m : Int) + 1) = true from decide_eq_true (by omega)]
          refine st_vg rfl rfl (v_move rfl) (st_vg rfl rfl (v_ldy rfl ld73) ?_)
          refine st_vg rfl rfl (v_ldy rfl ld9) ?_
          refine st_vg rfl rfl (v_is (show (slook (mvG nV F) c).getD (.int .i64 0) = .int .i64 (((j' + 1 : Nat) : Int) + 1) by rw [far_look hFF, hdj]) (v_slookup rfl rfl mp73 inf3 (by repeat (first | exact Sel.here | apply Sel.there)))) ?_
          refine st_vg rfl rfl (v_sub rfl rfl (by unfold I64 at *; omega)) (st_vg rfl rfl (v_eql rfl rfl) (st_v (v_pick_true rfl rfl) (st_nil (nx_kp [9, 10, 40] rfl (nx_then (cd_cond rfl (fun hb => ?_) (fun hb => ?_)))))))
          · skip
            have hb : m = j' := by have : (m : Int) + 1 = ((j' + 1 : Nat) : Int) + 1 - 1 := by simpa using hb
                                   omega
            refine cd_region (st_v (v_ldy rfl ld25) ?_)
            refine st_v (v_move rfl) (st_buildSlice (cells := [sv p]) rfl Tryz.underlying25 inf9 rfl rfl (by kernel_rfl) (ltn rfl) fun b43 => ?_)
            refine st_app [nC p] rfl rfl Tryz.underlying25 inf9 rfl (by decide) (show Sel _ (NR w ns) _ from (by repeat (first | exact Sel.here | apply Sel.there))) (by simp [nC]) rfl (fun j u2 hu2 => at_here (rd_cl (by simpa [nC] using hu2))) (by simp [nC, Value.oneCell']) (by simp; omega) (by simp; omega) (ltn rfl) fun w3 hw3 _ => ?_
            rw [show ns.map nC ++ [nC p] = (ns ++ [p]).map nC by simp]
            refine st_sto rfl rfl sz25 ?_
            refine st_nil (nx_kp [] rfl (nx_xt (xt_normal_block (xt_round (by repeat (first | exact Sel.here | apply Sel.there)) (.inl ⟨rfl, (w3, ns ++ [p]), ⟨hw3, ?_⟩, rfl⟩) ?_))))
            · show ns ++ [p] = _
              rw [htk, hdp, hb]; simp
            · rw [rec_back hst hpe]
              exact (by repeat (first | exact Sub.refl _ | exact Sub.nil _ | refine Sub.sel (by repeat (first | exact Sel.here | apply Sel.there)) ?_ | apply Sub.cons))
          · skip
            have hb : m ≠ j' := fun e => by
              have : ¬ (m : Int) + 1 = ((j' + 1 : Nat) : Int) + 1 - 1 := by simpa using hb
              omega
            refine cd_skip (xt_normal_block (xt_round (by repeat (first | exact Sel.here | apply Sel.there)) (.inl ⟨rfl, (w, ns), ⟨hw, ?_⟩, rfl⟩) ?_))
            · show ns = _
              rw [htk, hdp]; simp [hb]
            · rw [rec_back hst hpe]
              exact (by repeat (first | exact Sub.refl _ | exact Sub.nil _ | refine Sub.sel (by repeat (first | exact Sel.here | apply Sel.there)) ?_ | apply Sub.cons))
      · exact (by repeat (first | exact Pm.refl | refine Pm.cons (by repeat (first | exact Sel.here | apply Sel.there)) ?_) : Pm _ _).perm
      · rintro u h' ⟨rfl, (⟨⟨w, ns⟩, ⟨hw, hns⟩, rfl⟩ | ⟨_, _, hfalse, _⟩)⟩
        · simp only at hw hns
          rw [List.take_length] at hns
          refine ⟨rec, _, (by repeat (first | exact Sel.here | apply Sel.there)), (by rw [hst]; simp), ?_⟩
          rw [hpe]
          dsimp only
          have hnx2 : ns = nexts l to j' c := hns
          have hnl : ns.length ≤ 1099511627776 := by rw [hns]; exact Nat.le_trans (List.length_filter_le _ _) (par_len hF c)
          rw [← hnx2] at hnx hdn
          have hsh : short l to (j' + 1) c = c :: short l to j' (minN ns) := by rw [short, ← hnx2]
          rw [hsh] at hout
          refine xt_normal_block (xt_then (cd_seq (cd_region (st_v (v_ldy rfl ld25) ?_))))
          refine st_ok (r := NR w ns) (by repeat (first | exact Sel.here | apply Sel.there)) fun hok => ?_
          refine st_clr rfl rfl en49 rfl (Min_ct (nms_own hok) hnl hnx) ?_
          refine st_sto rfl rfl sz9 ?_
          refine st_nil (nx_kp [2, 3, 4, 7, 8] rfl (nx_then (cd_region (st_v (v_move rfl) (st_v (v_ldy rfl ld9) ?_)))))
          refine st_buildSlice (cells := [sv (minN ns)]) rfl Tryz.underlying25 inf9 rfl rfl (by kernel_rfl) (ltn rfl) fun b49 => ?_
          refine st_app [nC (minN ns)] rfl rfl Tryz.underlying25 inf9 rfl (by decide) (show Sel _ (NR w0v out) _ from (by repeat (first | exact Sel.here | apply Sel.there))) (by simp [nC]) rfl (fun j u2 hu2 => at_here (rd_cl (by simpa [nC] using hu2))) (by simp [nC, Value.oneCell']) (by simp; omega) (by simp; omega) (ltn rfl) fun w3 hw3 _ => ?_
          rw [show out.map nC ++ [nC (minN ns)] = (out ++ [minN ns]).map nC by simp]
          refine st_v (v_assign rfl) (st_nil (nx_kp [2, 3, 4, 7, 8] rfl (nx_xt (xt_normal_block (xt_mark (by repeat (first | exact Sel.here | apply Sel.there)) (by repeat (first | exact Sel.here | apply Sel.there)) ?_)))))
          refine xt_againD ((j', minN ns), (w3, out ++ [minN ns]), db :: bs) ⟨hdn.2, hw3, ?_⟩ (Nat.lt_succ_self _) rfl ⟨rfl, rfl, rfl, rfl, rfl, trivial⟩ (by (repeat (refine Sub.sel (by repeat (first | exact Sel.here | apply Sel.there)) ?_)); (repeat apply Sub.cons); first | exact Sub.refl _ | exact Sub.nil _)
          show out ++ [minN ns] ++ (short l to j' (minN ns)).drop 1 = short l to k0 from_
          rw [← hout, List.append_assoc]
          congr 1
          exact (short_head l to j' (minN ns)).symm
        · exact hfalse.elim
    · skip
      have hct : c = to := by simpa using hct
      have hj0 : j = 0 := by
        have := (dist_zero (l := l)).2 hct
        rw [hdj] at this; cases this; rfl
      subst hj0
      have hout2 : out = short l to k0 from_ := by rw [← hout]; simp [short]
      have hne : out ≠ [] := fun e => by
        have := short_len l to k0 from_
        rw [← hout2, e] at this; cases this
      rw [hsr, ← hout2]
      refine cd_exit (xt_exit_then (xt_exit_then (xt_exit_block (xt_then (cd_seq (cd_region (st_v (v_move rfl) (st_v (v_assign rfl) (st_nil (nx_kp [6] rfl (nx_then (cd_ret (xt_ok (r := NR w0v out) (by repeat (first | exact Sel.here | apply Sel.there)) fun ⟨fh, hok⟩ => ?_)))))))))))))
      rcases VR.form hok with ⟨_, he⟩ | ⟨vb, vo, vc, he, _, _⟩
      · exact absurd (List.map_eq_nil_iff.1 he) hne
      · rw [List.length_map] at he
        subst he
        refine xt_retS (bs := bs) rfl rfl ⟨NR (.slice (some ⟨vb, vo, none⟩) out.length vc) out, rfl, some ⟨vb, vo, none⟩, vc, rfl, rfl, rfl⟩ (by (repeat (refine Sub.sel (by repeat (first | exact Sel.here | apply Sel.there)) ?_)); (repeat apply Sub.cons); first | exact Sub.refl _ | exact Sub.nil _)
end
end Go.Hr
namespace Go.Hr
open Go Go.Ck Go.Proofs Go.Proofs.YtjgiaohieadeiaaGreat Fx
attribute [local irreducible] Go.Ck.Sub St Cd Xt Nx DrL LsW
def okB (u : UInt8) : Bool := upper u || digit u || u.toNat == 95
def oddR (r : Int) : Bool := ((decide (r < 65) || decide (90 < r)) && (decide (r < 48) || decide (57 < r))) && (r != 95)
theorem odd_ok {u : UInt8} (h : u.toNat < 128) : oddR u.toNat = !okB u := by
  unfold oddR okB upper digit
  rw [Bool.eq_iff_iff]
  simp only [Bool.and_eq_true, Bool.or_eq_true, decide_eq_true_eq, bne_iff_ne, ne_eq, Bool.not_eq_true', Bool.or_eq_false_iff, Bool.and_eq_false_iff, decide_eq_false_iff_not, beq_eq_false_iff_ne]
  omega
theorem odd_big {r : Int} (h : 128 ≤ r) : oddR r = true := by
  unfold oddR
  simp only [Bool.and_eq_true, Bool.or_eq_true, decide_eq_true_eq, bne_iff_ne, ne_eq]
  omega
theorem ok_small {u : UInt8} (h : okB u = true) : u.toNat < 128 := by
  unfold okB upper digit at h
  simp only [Bool.or_eq_true, Bool.and_eq_true, decide_eq_true_eq, beq_iff_eq] at h
  omega
def ixO (s : Nm) : Int := match s.findIdx? (fun u => !okB u) with | some i => i | none => -1
theorem ixO_any (s : Nm) : decide (0 ≤ ixO s) = s.any fun u => !okB u := by
  unfold ixO
  cases h : s.findIdx? (fun u => !okB u) with
  | none =>
    rw [List.findIdx?_eq_none_iff] at h
    symm
    show _ = false
    rw [List.any_eq_false]
    intro x hx; rw [h x hx]; decide
  | some i =>
    show decide (0 ≤ (i : Int)) = _
    obtain ⟨hi, h1, _⟩ := List.findIdx?_eq_some_iff_getElem.1 h
    rw [List.any_eq_true.2 ⟨s[i], List.getElem_mem hi, h1⟩]
    exact decide_eq_true (by omega)
section
set_option maxRecDepth 100000 in
theorem odd_ct (r : Int) : Reads Tryz.prog 72 #[.int .i32 r] [] (.bool (oddR r)) := by
  unfold oddR
  refine ct_of (n := 21) Tryz.func72 rfl rfl (len rfl) fun hr w0 => ?_
  refine cd_seq (cd_region (st_v (v_assign rfl) (st_nil (nx_then (cd_seq (cd_region (st_v (v_move rfl) (st_v (v_lss rfl rfl) (st_v (v_move rfl) (st_cut (k := 6) (d := 8) (v := .bool (decide (r < 65) || decide (90 < r))) (fun hcut => bool_want (b := decide (r < 65)) false (fun hg => ?_) (fun hg => ?_)) ?_))))))))))
  · refine st_sk rfl rfl hg ?_
    refine st_sk rfl rfl hg ?_
    refine st_v (v_pick_true (bool_ev rfl hg) rfl) ?_
    exact hcut _ (ssub_head (by first | rfl | (rw [hg]; rfl) | simp_all) (ssub_skip rfl (ssub_skip rfl (ssub_refl))))
  · skip
    refine st_vg rfl (bool_get rfl hg) (v_move rfl) (st_vg rfl (bool_get rfl hg) (v_gtr rfl rfl) (st_v (v_pick_false (bool_ev rfl hg) rfl) ?_))
    exact hcut _ (ssub_head (by first | rfl | (rw [hg]; rfl) | simp_all) (ssub_skip rfl (ssub_skip rfl (ssub_refl))))
  refine st_v (v_move rfl) (st_cut (k := 14) (d := 16) (v := .bool ((decide (r < 65) || decide (90 < r)) && (decide (r < 48) || decide (57 < r)))) (fun hcut => bool_want (b := (decide (r < 65) || decide (90 < r))) true (fun hg => ?_) (fun hg => ?_)) ?_)
  · refine st_sk rfl rfl hg ?_
    refine st_sk rfl rfl hg ?_
    refine st_sk rfl rfl hg ?_
    refine st_sku rfl rfl ?_
    refine st_sku rfl rfl ?_
    refine st_sk rfl rfl hg ?_
    refine st_v (v_pick_false (bool_ev rfl hg) rfl) ?_
    exact hcut _ (ssub_head (by first | rfl | (rw [hg]; rfl) | simp_all) (ssub_skip rfl (ssub_skip rfl (ssub_skip rfl (ssub_skip rfl (ssub_skip rfl (ssub_skip rfl (ssub_refl))))))))
  · skip
    refine st_vg rfl (bool_get rfl hg) (v_move rfl) (st_vg rfl (bool_get rfl hg) (v_lss rfl rfl) (st_vg rfl (bool_get rfl hg) (v_move rfl) (st_cut (k := 13) (d := 15) (v := .bool (decide (r < 48) || decide (57 < r))) (fun hcut => bool_want (b := decide (r < 48)) false (fun hg1 => ?_) (fun hg1 => ?_)) ?_)))
    · refine st_sk rfl rfl hg1 ?_
      refine st_sk rfl rfl hg1 ?_
      refine st_vg rfl (bool_get rfl hg) (v_pick_true (bool_ev rfl hg1) rfl) ?_
      exact hcut _ (ssub_head (by first | rfl | (rw [hg1]; rfl) | simp_all) (ssub_skip rfl (ssub_skip rfl (ssub_refl))))
    · skip
      refine st_vg rfl (bool_get rfl hg1) (v_move rfl) (st_vg rfl (bool_get rfl hg1) (v_gtr rfl rfl) (st_vg rfl (bool_get rfl hg) (v_pick_false (bool_ev rfl hg1) rfl) ?_))
      exact hcut _ (ssub_head (by first | rfl | (rw [hg1]; rfl) | simp_all) (ssub_skip rfl (ssub_skip rfl (ssub_refl))))
    refine st_v (v_pick_true (bool_ev rfl hg) rfl) ?_
    exact hcut _ (ssub_head (by first | rfl | (rw [hg]; rfl) | simp_all) (by repeat (first | exact ssub_refl | refine ssub_skip rfl ?_)))
  refine st_v (v_move rfl) (st_cut (k := 18) (d := 20) (v := .bool (((decide (r < 65) || decide (90 < r)) && (decide (r < 48) || decide (57 < r))) && (r != 95))) (fun hcut => bool_want (b := ((decide (r < 65) || decide (90 < r)) && (decide (r < 48) || decide (57 < r)))) true (fun hg => ?_) (fun hg => ?_)) ?_)
  · refine st_sk rfl rfl hg ?_
    refine st_sk rfl rfl hg ?_
    refine st_v (v_pick_false (bool_ev rfl hg) rfl) ?_
    exact hcut _ (ssub_head (by first | rfl | (rw [hg]; rfl) | simp_all) (ssub_skip rfl (ssub_skip rfl (ssub_refl))))
  · skip
    refine st_vg rfl (bool_get rfl hg) (v_move rfl) (st_vg rfl (bool_get rfl hg) (v_neq rfl rfl) (st_v (v_pick_true (bool_ev rfl hg) rfl) ?_))
    exact hcut _ (ssub_head (by first | rfl | (rw [hg]; rfl) | simp_all) (ssub_skip rfl (ssub_skip rfl (ssub_refl))))
  refine st_v (v_assign rfl) (st_nil (nx_kp [2] rfl (nx_then (cd_ret ?_))))
  exact xt_rt rfl ⟨rfl, rfl⟩ (by (repeat (refine Sub.sel (by repeat (first | exact Sel.here | apply Sel.there)) ?_)); (repeat apply Sub.cons); first | exact Sub.refl _ | exact Sub.nil _)
set_option maxRecDepth 100000 in
theorem indexFunc_ct (s : Nm) (hl : s.length ≤ 1099511627776) : Reads Tryz.prog 114 #[sv s, .func (.func 72) #[] #[], .bool true] [] (.int .i64 (ixO s)) := by
  refine ct_of (n := 21) Tryz.func114 rfl rfl (len rfl) fun hr w0 => ?_
  refine cd_seq (cd_region (st_v (v_assign rfl) (st_nil (nx_then (cd_seq (cd_seq (cd_region (st_v (v_move rfl) (st_srange rfl Tryz.underlying9 (ltn rfl) fun b10 => ?_)))))))))
  refine st_nil (nx_kp [1, 2, 6, 10] rfl (nx_then (cd_block (cd_lq (σ := Nat) (fun i => [(1, .func (.func 72) #[] #[]), (2, .bool true), (10, .pointer (some ⟨b10, 0, none⟩))]) (fun i => pt b10 (.stringIter ⟨⟨s⟩⟩ i) :: hr) (fun i => i ≤ s.length ∧ ∀ (j : Nat) (y : UInt8), j < i → s[j]? = some y → okB y = true) (fun i => s.length - i) 0 ⟨Nat.zero_le _, fun j y hj => by omega⟩ ?_))))
  rintro i ⟨hi, hok⟩
  by_cases hlt : i < s.length
  · skip
    have hu := List.getElem?_eq_getElem hlt
    refine cd_seq (cd_region (st_snext rfl (by repeat (first | exact Sel.here | apply Sel.there)) hlt (ltn rfl) ?_))
    refine st_v (v_extract rfl rfl) (st_nil (nx_then (cd_seq (cd_true rfl ?_))))
    refine cd_skip (xt_then (cd_block (cd_seq (cd_region (st_v (v_extract rfl rfl) (st_v (v_extract rfl rfl) (st_v (v_assign rfl) (st_v (v_assign rfl) (st_nil (nx_kp [1, 2, 7, 8, 10] rfl (nx_then (cd_seq (cd_region (st_v (v_move rfl) (st_v (v_move rfl) ?_)))))))))))))))
    by_cases hq : okB s[i] = true
    · have hd := dec_ascii hu (ok_small hq)
      have hod : oddR (s[i]).toNat = false := by rw [odd_ok (ok_small hq), hq]; rfl
      rw [hd]
      refine st_clr rfl rfl en72 rfl (odd_ct (((s[i]).toNat : Nat) : Int)) ?_
      rw [hod]
      refine st_v (v_move rfl) (st_v (v_eql_bool Tryz.underlying4 rfl rfl) (st_nil (nx_kp [1, 2, 7, 10, 19] rfl (nx_then (cd_false rfl ?_)))))
      refine cd_skip (xt_normal_block (xt_aq (i + 1) ⟨hlt, fun j y hj hy => ?_⟩ (by show _ - _ < _ - _; omega)))
      by_cases hji : j = i
      · subst hji; rw [hu] at hy; cases hy; exact hq
      · exact hok j y (by omega) hy
    · have hq : okB s[i] = false := by simpa using hq
      have hod : oddR ((Utf8.decode ⟨⟨s⟩⟩ i).1 : Nat) = true := by
        rcases Nat.lt_or_ge (s[i]).toNat 128 with h | h
        · rw [dec_ascii hu h]
          show oddR ((s[i]).toNat : Nat) = true
          rw [odd_ok h, hq]; rfl
        · exact odd_big (by have := dec_other hu h; omega)
      refine st_clr rfl rfl en72 rfl (odd_ct (((Utf8.decode ⟨⟨s⟩⟩ i).1 : Nat) : Int)) ?_
      rw [hod]
      refine st_v (v_move rfl) (st_v (v_eql_bool Tryz.underlying4 rfl rfl) (st_nil (nx_kp [1, 2, 7, 10, 19] rfl (nx_then (cd_true rfl ?_)))))
      refine cd_seq (cd_region (st_v (v_move rfl) (st_v (v_assign rfl) (st_nil (nx_kp [6] rfl (nx_then (cd_ret (xt_ret_block (xt_ret_then (xt_ret_block (xt_ret_then ?_)))))))))))
      rw [show ixO s = (i : Int) by
        unfold ixO
        rw [show s.findIdx? (fun u => !okB u) = some i from List.findIdx?_eq_some_iff_getElem.2 ⟨hlt, by rw [hq]; rfl, fun j hj => by
          rw [hok j _ hj (List.getElem?_eq_getElem (Nat.lt_trans hj hlt))]; decide⟩]]
      exact xt_rt rfl ⟨rfl, rfl⟩ (by (repeat (refine Sub.sel (by repeat (first | exact Sel.here | apply Sel.there)) ?_)); (repeat apply Sub.cons); first | exact Sub.refl _ | exact Sub.nil _)
  · skip
    refine cd_seq (cd_region (st_snext0 rfl (by repeat (first | exact Sel.here | apply Sel.there)) (by omega) (ltn rfl) ?_))
    refine st_v (v_extract rfl rfl) (st_nil (nx_then (cd_seq (cd_false rfl ?_))))
    refine cd_exit (xt_exit_then (xt_exit_then (xt_exit_block (xt_then (cd_seq (cd_region (st_v (v_assign rfl) (st_nil (nx_kp [6] rfl (nx_then (cd_ret ?_)))))))))))
    rw [show ixO s = -1 by
      unfold ixO
      rw [show s.findIdx? (fun u => !okB u) = none from List.findIdx?_eq_none_iff.2 fun x hx => by
        obtain ⟨j, hj, rfl⟩ := List.getElem_of_mem hx
        rw [hok j _ (by omega) (List.getElem?_eq_getElem hj)]; rfl]]
    exact xt_rt rfl ⟨rfl, rfl⟩ (by (repeat (refine Sub.sel (by repeat (first | exact Sel.here | apply Sel.there)) ?_)); (repeat apply Sub.cons); first | exact Sub.refl _ | exact Sub.nil _)
set_option maxRecDepth 100000 in
theorem IndexFunc_ct (s : Nm) (hl : s.length ≤ 1099511627776) : Reads Tryz.prog 94 #[sv s, .func (.func 72) #[] #[]] [] (.int .i64 (ixO s)) := by
  refine ct_of (n := 8) Tryz.func94 rfl rfl (len rfl) fun hr w0 => ?_
  refine cd_seq (cd_region (st_v (v_assign rfl) (st_nil (nx_then (cd_seq (cd_region (st_v (v_move rfl) (st_v (v_move rfl) (st_clr rfl rfl en114 rfl (indexFunc_ct s hl) ?_)))))))))
  refine st_v (v_assign rfl) (st_nil (nx_kp [4] rfl (nx_then (cd_ret ?_))))
  exact xt_rt rfl ⟨rfl, rfl⟩ (by (repeat (refine Sub.sel (by repeat (first | exact Sel.here | apply Sel.there)) ?_)); (repeat apply Sub.cons); first | exact Sub.refl _ | exact Sub.nil _)
set_option maxRecDepth 100000 in
theorem ContainsFunc_ct (s : Nm) (hl : s.length ≤ 1099511627776) : Reads Tryz.prog 73 #[sv s, .func (.func 72) #[] #[]] [] (.bool (s.any fun u => !okB u)) := by
  refine ct_of (n := 9) Tryz.func73 rfl rfl (len rfl) fun hr w0 => ?_
  refine cd_seq (cd_region (st_v (v_assign rfl) (st_nil (nx_then (cd_seq (cd_region (st_v (v_move rfl) (st_v (v_move rfl) (st_clr rfl rfl en94 rfl (IndexFunc_ct s hl) ?_)))))))))
  refine st_v (v_geq rfl rfl) (st_v (v_assign rfl) (st_nil (nx_kp [4] rfl (nx_then (cd_ret ?_)))))
  rw [ixO_any]
  exact xt_rt rfl ⟨rfl, rfl⟩ (by (repeat (refine Sub.sel (by repeat (first | exact Sel.here | apply Sel.there)) ?_)); (repeat apply Sub.cons); first | exact Sub.refl _ | exact Sub.nil _)
theorem reserved_lit : reserved = [[73, 78, 84, 69, 71, 69, 82], [66, 79, 79, 76, 69, 65, 78], [65, 78, 89], [78, 79, 78, 69]] := by decide +kernel
theorem named_cons (u : UInt8) (t : Nm) : named (u :: t) = (!((((decide (((u :: t).length : Int) < 1) || decide (20 < ((u :: t).length : Int))) || ((u :: t).any fun u => !okB u)) || decide ((u.toNat : Int) < 65)) || decide (90 < (u.toNat : Int))) && !reserved.contains (u :: t)) := by
  have h1 : ((u :: t).any fun u => !okB u) = !((u :: t).all fun b => upper b || digit b || b.toNat == 95) := by
    rw [List.any_eq_not_all_not]
    congr 2
    funext x
    simp [okB]
  rw [h1]
  unfold named upper
  rw [Bool.eq_iff_iff]
  simp only [Bool.and_eq_true, Bool.or_eq_true, decide_eq_true_eq, Bool.not_eq_true', Bool.or_eq_false_iff, decide_eq_false_iff_not, Bool.not_eq_false', List.length_cons]
  constructor
  · rintro ⟨⟨⟨a1, a2⟩, a3⟩, a4⟩
    exact ⟨⟨⟨⟨⟨by omega, by omega⟩, a3⟩, by omega⟩, by omega⟩, a4⟩
  · rintro ⟨⟨⟨⟨⟨_, a1⟩, a3⟩, a5⟩, a6⟩, a4⟩
    exact ⟨⟨⟨by omega, by omega, by omega⟩, a3⟩, a4⟩
set_option maxRecDepth 100000 in
theorem named_ct (s : Nm) : Reads Tryz.prog 42 #[sv s] [] (.bool (named s)) := by
  cases s with
  | nil =>
    refine ct_of (n := 31) Tryz.func42 rfl rfl (len rfl) fun hr w0 => ?_
    refine cd_seq (cd_region (st_v (v_assign rfl) (st_nil (nx_then (cd_seq (cd_region (st_v (v_assign rfl) (st_nil (nx_then (cd_seq (cd_seq (cd_region (st_v (v_move rfl) (st_v (v_slen rfl Tryz.underlying9) (st_v (v_lss rfl rfl) ?_)))))))))))))))
    refine st_v (v_move rfl) (st_sk rfl rfl rfl ?_)
    refine st_sk rfl rfl rfl ?_
    refine st_sk rfl rfl rfl ?_
    refine st_v (v_pick_true rfl rfl) (st_v (v_move rfl) (st_sk rfl rfl rfl ?_))
    refine st_sk rfl rfl rfl ?_
    refine st_sk rfl rfl rfl ?_
    refine st_v (v_pick_true rfl rfl) (st_v (v_move rfl) (st_sk rfl rfl rfl ?_))
    refine st_sk rfl rfl rfl ?_
    refine st_sk rfl rfl rfl ?_
    refine st_v (v_pick_true rfl rfl) (st_v (v_move rfl) (st_sk rfl rfl rfl ?_))
    refine st_sk rfl rfl rfl ?_
    refine st_sk rfl rfl rfl ?_
    refine st_v (v_pick_true rfl rfl) (st_nil (nx_kp [0, 2, 26] rfl (nx_then (cd_true rfl ?_))))
    refine cd_seq (cd_region (st_v (v_assign rfl) (st_nil (nx_kp [2] rfl (nx_then (cd_ret (xt_ret_then ?_)))))))
    exact xt_rt rfl ⟨rfl, rfl⟩ (by (repeat (refine Sub.sel (by repeat (first | exact Sel.here | apply Sel.there)) ?_)); (repeat apply Sub.cons); first | exact Sub.refl _ | exact Sub.nil _)
  | cons u t =>
    rw [named_cons]
    refine ct_of (n := 31) Tryz.func42 rfl rfl (len rfl) fun hr w0 => ?_
    refine cd_seq (cd_region (st_v (v_assign rfl) (st_nil (nx_then (cd_seq (cd_region (st_v (v_assign rfl) (st_nil (nx_then (cd_seq (cd_seq (cd_region (st_v (v_move rfl) (st_v (v_slen rfl Tryz.underlying9) (st_v (v_lss rfl rfl) ?_)))))))))))))))
    refine st_v (v_move rfl) (st_cut (k := 8) (d := 11) (v := .bool (decide (((u :: t).length : Int) < 1) || decide (20 < ((u :: t).length : Int)))) (fun hcut => bool_want (b := decide (((u :: t).length : Int) < 1)) false (fun hg => ?_) (fun hg => ?_)) ?_)
    · refine st_sk rfl rfl hg ?_
      refine st_sk rfl rfl hg ?_
      refine st_sk rfl rfl hg ?_
      refine st_v (v_pick_true (bool_ev rfl hg) rfl) ?_
      exact hcut _ (ssub_head (by first | rfl | (rw [hg]; rfl) | simp_all) (ssub_skip rfl (ssub_skip rfl (ssub_skip rfl (ssub_refl)))))
    · skip
      refine st_vg rfl (bool_get rfl hg) (v_move rfl) (st_vg rfl (bool_get rfl hg) (v_slen rfl Tryz.underlying9) (st_vg rfl (bool_get rfl hg) (v_gtr rfl rfl) (st_v (v_pick_false (bool_ev rfl hg) rfl) ?_)))
      exact hcut _ (ssub_head (by first | rfl | (rw [hg]; rfl) | simp_all) (ssub_skip rfl (ssub_skip rfl (ssub_skip rfl (ssub_refl)))))
    refine st_v (v_move rfl) (st_cut (k := 13) (d := 16) (v := .bool ((decide (((u :: t).length : Int) < 1) || decide (20 < ((u :: t).length : Int))) || ((u :: t).any fun u => !okB u))) (fun hcut => bool_want (b := decide (((u :: t).length : Int) < 1) || decide (20 < ((u :: t).length : Int))) false (fun hg => ?_) (fun hg => ?_)) ?_)
    · refine st_sk rfl rfl hg ?_
      refine st_sk rfl rfl hg ?_
      refine st_sk rfl rfl hg ?_
      refine st_v (v_pick_true (bool_ev rfl hg) rfl) ?_
      exact hcut _ (ssub_head (by first | rfl | (rw [hg]; rfl) | simp_all) (ssub_skip rfl (ssub_skip rfl (ssub_skip rfl (ssub_refl)))))
    · skip
      refine st_vg rfl (bool_get rfl hg) (v_move rfl) (st_vg rfl (bool_get rfl hg) (v_move rfl) (st_clrg rfl (bool_get rfl hg) rfl rfl en73 rfl (ContainsFunc_ct (u :: t) (by simp only [Bool.or_eq_false_iff, decide_eq_false_iff_not] at hg; omega)) ?_))
      refine st_v (v_pick_false (bool_ev rfl hg) rfl) ?_
      exact hcut _ (ssub_head (by first | rfl | (rw [hg]; rfl) | simp_all) (ssub_skip rfl (ssub_skip rfl (ssub_skip rfl (ssub_refl)))))
    refine st_v (v_move rfl) (st_cut (k := 18) (d := 21) (v := .bool (((decide (((u :: t).length : Int) < 1) || decide (20 < ((u :: t).length : Int))) || ((u :: t).any fun u => !okB u)) || decide ((u.toNat : Int) < 65))) (fun hcut => bool_want (b := (decide (((u :: t).length : Int) < 1) || decide (20 < ((u :: t).length : Int))) || ((u :: t).any fun u => !okB u)) false (fun hg => ?_) (fun hg => ?_)) ?_)
    · refine st_sk rfl rfl hg ?_
      refine st_sk rfl rfl hg ?_
      refine st_sk rfl rfl hg ?_
      refine st_v (v_pick_true (bool_ev rfl hg) rfl) ?_
      exact hcut _ (ssub_head (by first | rfl | (rw [hg]; rfl) | simp_all) (ssub_skip rfl (ssub_skip rfl (ssub_skip rfl (ssub_refl)))))
    · skip
      refine st_vg rfl (bool_get rfl hg) (v_move rfl) (st_vg rfl (bool_get rfl hg) (v_sindex (k := 0) rfl rfl Tryz.underlying9 rfl rfl) (st_vg rfl (bool_get rfl hg) (v_lss rfl rfl) (st_v (v_pick_false (bool_ev rfl hg) rfl) ?_)))
      exact hcut _ (ssub_head (by first | rfl | (rw [hg]; rfl) | simp_all) (ssub_skip rfl (ssub_skip rfl (ssub_skip rfl (ssub_refl)))))
    refine st_v (v_move rfl) (st_cut (k := 23) (d := 26) (v := .bool ((((decide (((u :: t).length : Int) < 1) || decide (20 < ((u :: t).length : Int))) || ((u :: t).any fun u => !okB u)) || decide ((u.toNat : Int) < 65)) || decide (90 < (u.toNat : Int)))) (fun hcut => bool_want (b := ((decide (((u :: t).length : Int) < 1) || decide (20 < ((u :: t).length : Int))) || ((u :: t).any fun u => !okB u)) || decide ((u.toNat : Int) < 65)) false (fun hg => ?_) (fun hg => ?_)) ?_)
    · refine st_sk rfl rfl hg ?_
      refine st_sk rfl rfl hg ?_
      refine st_sk rfl rfl hg ?_
      refine st_v (v_pick_true (bool_ev rfl hg) rfl) ?_
      exact hcut _ (ssub_head (by first | rfl | (rw [hg]; rfl) | simp_all) (ssub_skip rfl (ssub_skip rfl (ssub_skip rfl (ssub_refl)))))
    · skip
      refine st_vg rfl (bool_get rfl hg) (v_move rfl) (st_vg rfl (bool_get rfl hg) (v_sindex (k := 0) rfl rfl Tryz.underlying9 rfl rfl) (st_vg rfl (bool_get rfl hg) (v_gtr rfl rfl) (st_v (v_pick_false (bool_ev rfl hg) rfl) ?_)))
      exact hcut _ (ssub_head (by first | rfl | (rw [hg]; rfl) | simp_all) (ssub_skip rfl (ssub_skip rfl (ssub_skip rfl (ssub_refl)))))
    refine st_nil (nx_kp [0, 2, 26] rfl (nx_then (cd_cond rfl (fun hx => ?_) (fun hx => ?_))))
    · skip
      refine cd_seq (cd_region (st_v (v_assign rfl) (st_nil (nx_kp [2] rfl (nx_then (cd_ret (xt_ret_then ?_)))))))
      rw [hx]
      exact xt_rt rfl ⟨rfl, rfl⟩ (by (repeat (refine Sub.sel (by repeat (first | exact Sel.here | apply Sel.there)) ?_)); (repeat apply Sub.cons); first | exact Sub.refl _ | exact Sub.nil _)
    · skip
      refine cd_skip (xt_then (cd_seq (cd_region ?_)))
      rw [hx, reserved_lit]
      refine st_buildSlice (cells := [sv [73, 78, 84, 69, 71, 69, 82], sv [66, 79, 79, 76, 69, 65, 78], sv [65, 78, 89], sv [78, 79, 78, 69]]) rfl Tryz.underlying25 inf9 rfl rfl (by kernel_rfl) (ltn rfl) fun b27 => ?_
      refine st_pv (pv_of (b := b27) (n := 4) (sz := 1) (E := 9) (([[73, 78, 84, 69, 71, 69, 82], [66, 79, 79, 76, 69, 65, 78], [65, 78, 89], [78, 79, 78, 69]] : List Nm).map nC) rfl (by simp [nC]) rfl (by decide)) ?_
      simp only [List.cons_append, List.nil_append]
      refine st_ok (r := NR (.slice (some ⟨b27, 0, none⟩) 4 4) [[73, 78, 84, 69, 71, 69, 82], [66, 79, 79, 76, 69, 65, 78], [65, 78, 89], [78, 79, 78, 69]]) (by repeat (first | exact Sel.here | apply Sel.there)) fun hok => ?_
      refine st_v (v_move rfl) (st_clr rfl rfl en35 rfl (Contains_ct (nms_own hok) (u :: t) (by decide)) ?_)
      refine st_v (v_not rfl) (st_v (v_assign rfl) (st_nil (nx_kp [2] rfl (nx_then (cd_ret ?_)))))
      exact xt_rt rfl ⟨rfl, rfl⟩ (by (repeat (refine Sub.sel (by repeat (first | exact Sel.here | apply Sel.there)) ?_)); (repeat apply Sub.cons); first | exact Sub.refl _ | exact Sub.nil _)
end
end Go.Hr
namespace Go.Hr
open Go Go.Ck Go.Proofs Go.Proofs.YtjgiaohieadeiaaGreat Fx
attribute [local irreducible] Go.Ck.Sub St Cd Xt Nx DrL LsW
theorem dd_len : ∀ (xs o : List Nm), o.Nodup → (dd o xs).length ≤ o.length + xs.length ∧ ((dd o xs).length < o.length + xs.length ↔ ¬ (o ++ xs).Nodup)
  | [], o, ho => by simp [dd, ho]
  | x :: t, o, ho => by
    show (dd (step o x) t).length ≤ _ ∧ ((dd (step o x) t).length < _ ↔ _)
    by_cases hx : x ∈ o
    · rw [step_mem hx]
      have := (dd_len t o ho).1
      rw [List.length_cons]
      refine ⟨by omega, fun _ hn => ?_, fun _ => by omega⟩
      exact (List.nodup_append.1 hn).2.2 x hx x (by simp) rfl
    · rw [step_new hx]
      have hn : (o ++ [x]).Nodup := List.nodup_append.2 ⟨ho, by simp, fun a ha b hb e => by simp at hb; exact hx (hb ▸ e ▸ ha)⟩
      have := dd_len t (o ++ [x]) hn
      rw [List.length_append, List.length_singleton, List.append_assoc] at this
      rw [List.length_cons]
      simp only [List.cons_append, List.nil_append] at this
      rw [show o.length + (t.length + 1) = o.length + 1 + t.length by omega]
      exact this
def twM (xs : List Nm) : List (Nm × Unit) := xs.foldl (fun F x => aupd F x ()) []
theorem tw_keys (xs : List Nm) : (twM xs).map (·.1) = dd [] xs := by
  have key : ∀ (xs : List Nm) (F : List (Nm × Unit)), (xs.foldl (fun F x => aupd F x ()) F).map (·.1) = dd (F.map (·.1)) xs := by
    intro xs
    induction xs with
    | nil => intro F; rfl
    | cons x t ih =>
      intro F
      rw [List.foldl_cons, ih]
      show dd _ t = dd (step _ x) t
      congr 1
      cases h : alook F x with
      | none => rw [aupd_new h, step_new (alook_none.1 h), List.map_append]; rfl
      | some u => rw [aupd_keys h, step_mem (alook_mem h)]
  exact key xs []
theorem tw_less (xs : List Nm) : decide (((twM xs).length : Int) < xs.length) = !decide xs.Nodup := by
  have h1 : (twM xs).length = (dd [] xs).length := by rw [← tw_keys, List.length_map]
  have h2 := dd_len xs [] List.nodup_nil
  rw [h1]
  simp only [List.length_nil, Nat.zero_add, List.nil_append] at h2
  rw [Bool.eq_iff_iff, decide_eq_true_eq, Bool.not_eq_true', decide_eq_false_iff_not, ← h2.2]
  omega
theorem tw_take {xs : List Nm} {i : Nat} (h : i < xs.length) : twM (xs.take (i + 1)) = aupd (twM (xs.take i)) xs[i] () := by
  unfold twM
  rw [List.take_succ_eq_append_getElem h, List.foldl_append]; rfl
def tV (_ : Unit) : Value := .bool true
theorem mvG_len {α : Type} (g : α → Value) (F : List (Nm × α)) : (mvG g F).length = F.length := by simp [mvG]
section
variable {S : Res} {v : Value}
set_option maxRecDepth 100000 in
theorem tellP_ct (p : Nm) (a b c d e : Value) (h1 : [sv p, a, b, c, d, e].all Value.oneCell' = true) : Reads Tryz.prog 44 #[.agg #[sv p, a, b, c, d, e]] [] (sv p) := by
  refine ct_of (n := 5) Tryz.func44 rfl rfl (len rfl) fun hr w0 => ?_
  refine cd_seq (cd_region (st_bx rfl rfl fun b1 => ?_))
  refine st_v (v_assign rfl) (st_nil (nx_kp [1, 2] rfl (nx_then (cd_seq (cd_region (st_v (v_fieldAddr rfl fa93_0 rfl) (st_v (v_ldy rfl ld9) ?_)))))))
  refine st_v (v_assign rfl) (st_nil (nx_kp [2] rfl (nx_then (cd_ret ?_))))
  exact xt_rt rfl ⟨rfl, rfl⟩ (by (repeat (refine Sub.sel (by repeat (first | exact Sel.here | apply Sel.there)) ?_)); (repeat apply Sub.cons); first | exact Sub.refl _ | exact Sub.nil _)
set_option maxRecDepth 100000 in
theorem twiceP_ct {ps : List Nm} (hP : Row S 6 parC v ps) (hl : ps.length ≤ 1099511627776) : Reads Tryz.prog 43 #[v, .func (.func 44) #[] #[]] [S] (.bool (!decide ps.Nodup)) := by
  obtain ⟨a, cap, rfl, _⟩ := id hP
  refine ct_of (n := 25) Tryz.func43 rfl rfl (len rfl) fun hr w0 => ?_
  refine cd_seq (cd_region (st_v (v_assign rfl) (st_nil (nx_then (cd_seq (cd_region (st_smakeMap (ltn rfl) fun b8 => ?_)))))))
  refine st_v (v_assign rfl) (st_nil (nx_kp [0, 1, 4, 5] rfl (nx_then (cd_seq (cd_seq (cd_region (st_v (v_move rfl) (st_v (v_len rfl Tryz.underlying24) (st_v (v_move rfl) (st_nil (nx_then (cd_block ?_))))))))))))
  rw [show ([] : List (Bs × Value)) = mvG tV (twM (ps.take 0)) from rfl]
  refine cd_lq (σ := Nat) (fun i => [(0, .slice a ps.length cap), (1, .func (.func 44) #[] #[]), (5, .map (some b8)), (9, .slice a ps.length cap), (10, .int .i64 ps.length), (11, .int .i64 (i : Nat))]) (fun i => mps b8 (mvG tV (twM (ps.take i))) :: S :: hr) (fun i => i ≤ ps.length) (fun i => ps.length - i) 0 (Nat.zero_le _) ?_
  intro i hi
  refine cd_seq (cd_region (st_v (v_lss rfl rfl) (st_nil (nx_then (cd_seq (cd_cond rfl (fun hd => ?_) (fun hd => ?_)))))))
  · skip
    have hlt : i < ps.length := by simpa using hd
    obtain ⟨b, o, cap2, c1, c2, c3, c4, c5, hv2, hrd, hone⟩ := par_at hP (List.getElem?_eq_getElem hlt)
    refine cd_skip (xt_then (cd_seq (cd_block (cd_seq (cd_region (st_v (v_indexAddr (k := i) (congrArg some hv2) rfl sl24 rfl hlt rfl) (st_v (v_ldn rfl ld93 rfl hrd) ?_)))))))
    refine st_alc al93 fun b7 => ?_
    refine st_stoW rfl rfl sz93 rfl hone ?_
    refine st_nil (nx_kp [0, 1, 5, 7, 9, 10, 11] rfl (nx_then (cd_region (st_v (v_move rfl) (st_v (v_move rfl) (st_v (v_ldn rfl ld93 rfl rds_pt) ?_))))))
    refine st_clr rfl rfl en44 rfl (tellP_ct ps[i] c1 c2 c3 c4 c5 hone) ?_
    refine st_smapUpdate rfl rfl rfl mp100 (by repeat (first | exact Sel.here | apply Sel.there)) ?_
    refine st_nil (nx_kp [0, 1, 5, 9, 10, 11] rfl (nx_xt (xt_normal_block (xt_then (cd_region (st_v (v_add rfl rfl (by unfold I64 at *; omega)) (st_v (v_move rfl) (st_nil (nx_kp [0, 1, 5, 9, 10, 11] rfl (nx_xt ?_))))))))))
    rw [show supd (mvG tV (twM (ps.take i))) ps[i] (.bool true) = mvG tV (twM (ps.take (i + 1))) by rw [tw_take hlt]; exact supd_mvG tV _ _ ()]
    refine xt_aq (i + 1) hlt (by show _ - _ < _ - _; omega)
  · skip
    have hil : i = ps.length := by have : ¬ i < ps.length := by simpa using hd
                                   omega
    subst hil
    rw [List.take_length]
    refine cd_exit (xt_exit_then (xt_exit_then (xt_exit_block (xt_then (cd_seq (cd_region (st_v (v_move rfl) (st_v (v_mlen rfl Tryz.underlying100 (by repeat (first | exact Sel.here | apply Sel.there))) ?_))))))))
    refine st_v (v_move rfl) (st_v (v_len rfl Tryz.underlying24) (st_v (v_lss rfl rfl) (st_v (v_assign rfl) (st_nil (nx_kp [4] rfl (nx_then (cd_ret ?_)))))))
    rw [mvG_len, tw_less]
    exact xt_rt rfl ⟨rfl, rfl⟩ (by (repeat (refine Sub.sel (by repeat (first | exact Sel.here | apply Sel.there)) ?_)); (repeat apply Sub.cons); first | exact Sub.refl _ | exact Sub.nil _)
end
end Go.Hr
namespace Go.Hr
open Go Go.Ck Go.Proofs Go.Proofs.YtjgiaohieadeiaaGreat Fx
attribute [local irreducible] Go.Ck.Sub St Cd Xt Nx DrL LsW
def numC (us : List Value) (n : Int) : Prop := us = [.int .i64 n]
def orI (xs : List Int) : Int := (xs.find? (· != 0)).getD 0
theorem ring_lt {a b : List Nm} : decide (orI [cmpI a.length b.length, cmpL a b] < 0) = ringLt a b := by
  unfold orI ringLt cmpI
  rw [← cmpL_lt]
  rcases Nat.lt_trichotomy a.length b.length with h | h | h
  · have h1 : (a.length : Int) < b.length := by omega
    simp [h1, h]
  · simp only [h, Int.lt_irrefl, if_false, List.find?_cons, bne_self_eq_false, Nat.lt_irrefl, decide_false, Bool.false_or, decide_true, Bool.true_and]
    by_cases hc : cmpL a b = 0
    · simp [hc]
    · have : (cmpL a b != 0) = true := by simpa using hc
      rw [this]; rfl
  · have h1 : ¬ (a.length : Int) < b.length := by omega
    have h2 : (b.length : Int) < a.length := by omega
    have h3 : ¬ a.length < b.length := by omega
    have h4 : ¬ a.length = b.length := by omega
    simp [h1, h2, h3, h4]
section
variable {S : Res} {v : Value} {l : Sys}
set_option maxRecDepth 100000 in
theorem Or_ct {xs : List Int} (hv : Row S 1 numC v xs) (hl : xs.length ≤ 1099511627776) : Reads Tryz.prog 61 #[v] [S] (.int .i64 (orI xs)) := by
  obtain ⟨a, cap, rfl, _⟩ := id hv
  refine ct_of (n := 18) Tryz.func61 rfl rfl (len rfl) fun hr w0 => ?_
  refine cd_seq (cd_region (st_v (v_assign rfl) (st_nil (nx_then (cd_seq (cd_region (st_v (v_assign rfl) (st_nil (nx_then (cd_seq (cd_seq (cd_region (st_v (v_move rfl) (st_v (v_len rfl Tryz.underlying126) (st_v (v_move rfl) ?_)))))))))))))))
  refine st_nil (nx_kp [2, 3, 6, 7, 8] rfl (nx_then (cd_block (cd_lq (σ := Nat) (fun i => [(3, .int .i64 0), (6, .slice a xs.length cap), (7, .int .i64 xs.length), (8, .int .i64 (i : Nat))]) (fun _ => S :: hr) (fun i => i ≤ xs.length ∧ orI xs = orI (xs.drop i)) (fun i => xs.length - i) 0 ⟨Nat.zero_le _, rfl⟩ ?_))))
  rintro i ⟨hi, ho⟩
  refine cd_seq (cd_region (st_v (v_lss rfl rfl) (st_nil (nx_then (cd_seq (cd_cond rfl (fun hd => ?_) (fun hd => ?_)))))))
  · skip
    have hlt : i < xs.length := by simpa using hd
    obtain ⟨b, o, cap2, u, hv2, hrd, hu⟩ := Row.at1 hv (List.getElem?_eq_getElem hlt)
    simp only [numC, List.cons.injEq, and_true] at hu
    subst hu
    have hx : xs.drop i = xs[i] :: xs.drop (i + 1) := (List.getElem_cons_drop hlt).symm
    refine cd_skip (xt_then (cd_seq (cd_block (cd_seq (cd_region (st_v (v_indexAddr (k := i) (congrArg some hv2) rfl sl126 rfl hlt rfl) (st_v (v_ldy rfl ld3) ?_)))))))
    refine st_v (v_assign rfl) (st_nil (nx_kp [3, 5, 6, 7, 8] rfl (nx_then (cd_seq (cd_region (st_v (v_move rfl) (st_v (v_move rfl) (st_v (v_neq rfl rfl) (st_nil (nx_kp [3, 5, 6, 7, 8, 14] rfl (nx_then (cd_cond rfl (fun hn => ?_) (fun hn => ?_)))))))))))))
    · skip
      refine cd_seq (cd_region (st_v (v_move rfl) (st_v (v_assign rfl) (st_nil (nx_kp [2] rfl (nx_then (cd_ret (xt_ret_block (xt_ret_then (xt_ret_then (xt_ret_block (xt_ret_then ?_))))))))))))
      rw [ho, hx, show orI (xs[i] :: xs.drop (i + 1)) = xs[i] by unfold orI; rw [List.find?_cons_of_pos (by exact hn)]; rfl]
      exact xt_rt rfl ⟨rfl, rfl⟩ (by (repeat (refine Sub.sel (by repeat (first | exact Sel.here | apply Sel.there)) ?_)); (repeat apply Sub.cons); first | exact Sub.refl _ | exact Sub.nil _)
    · skip
      refine cd_skip (xt_normal_block (xt_then (cd_region (st_v (v_add rfl rfl (by unfold I64 at *; omega)) (st_v (v_move rfl) (st_nil (nx_kp [3, 6, 7, 8] rfl (nx_xt (xt_aq (i + 1) ⟨hlt, by rw [ho, hx]; unfold orI; rw [List.find?_cons_of_neg (by rw [hn]; decide)]⟩ (by show _ - _ < _ - _; omega))))))))))
  · skip
    have hil : i = xs.length := by have : ¬ i < xs.length := by simpa using hd
                                   omega
    rw [ho, List.drop_eq_nil_of_le (by omega)]
    refine cd_exit (xt_exit_then (xt_exit_then (xt_exit_block (xt_then (cd_seq (cd_region (st_v (v_move rfl) (st_v (v_assign rfl) (st_nil (nx_kp [2] rfl (nx_then (cd_ret ?_))))))))))))
    exact xt_rt rfl ⟨rfl, rfl⟩ (by (repeat (refine Sub.sel (by repeat (first | exact Sel.here | apply Sel.there)) ?_)); (repeat apply Sub.cons); first | exact Sub.refl _ | exact Sub.nil _)
theorem rd_vr_flat {b o n cp j : Nat} {E : TypeId} {sz : Nat} {rows : List (List Value)} {u : Value} (hj : rows.flatten[j]? = some u) : Rd (VR (.slice (some ⟨b, o, none⟩) n cp) E sz rows) ⟨b, o + j, none⟩ u := fun w hw => by
  obtain ⟨h1, h2⟩ := hw
  rcases h2 with ⟨h3, _⟩ | ⟨b', o', cp', pre, jj, h3, hb, hp, _⟩
  · cases h3
  · cases h3
    have hb' : w.heap[b]? = _ := hb
    have hlt := (List.getElem?_eq_some_iff.1 hj).1
    simp only [World.cell?, hb', cl, List.getElem?_toArray, Option.isSome_none, Bool.false_eq_true, if_false]
    rw [List.getElem?_append_right (by omega), hp, show o + j - o = j by omega, List.getElem?_append_left hlt, hj]
theorem flat_nC (xs : List Nm) : (xs.map nC).flatten = xs.map sv := by
  induction xs with
  | nil => rfl
  | cons x t ih => rw [List.map_cons, List.flatten_cons, ih]; rfl
theorem flat_drop {xs : List Nm} {j : Nat} {u : Value} (h : ((xs.dropLast).map nC).flatten[j]? = some u) : (xs.map nC).flatten[j]? = some u := by
  rw [flat_nC, List.getElem?_map] at h ⊢
  obtain ⟨x, hx, he⟩ := Option.map_eq_some_iff.1 h
  rw [List.dropLast_eq_take, List.getElem?_take] at hx
  split at hx
  · rw [hx]; simp [he]
  · cases hx
theorem flat_one {xs : List Nm} {u : Value} (h : u ∈ (xs.map nC).flatten) : u.oneCell' = true := by
  rw [flat_nC] at h
  obtain ⟨x, _, rfl⟩ := List.mem_map.1 h
  rfl
/-- A ring that was found, or none: the slice that says so. -/
def BestV (w : Value) (b : Option (List Nm)) : Prop := ∃ wa cp, w = .slice wa (b.getD []).length cp ∧ wa.isNone = b.isNone
def preC (l : Sys) (i : Nat) : List (List Nm) := (l.take i).flatMap fun x => (par l x.name).filterMap (cand l x.name)
theorem preC_all (l : Sys) : preC l l.length = cands l := by
  unfold preC cands nms
  rw [List.take_length, List.flatMap_map]
theorem preC_succ {l : Sys} {i : Nat} (h : i < l.length) : preC l (i + 1) = preC l i ++ (par l (l[i]).name).filterMap (cand l (l[i]).name) := by
  unfold preC
  rw [List.take_succ_eq_append_getElem h, List.flatMap_append, List.flatMap_singleton]
theorem shortR_len (l : Sys) (to c : Nm) : (shortR l to c).length ≤ l.length + 1 := by
  unfold shortR
  cases h : dist l to c with
  | none => simp
  | some k => have := dist_le h; simp only [short_len]; omega
theorem mem_len {l : Sys} {i k : Nat} {cn : Nm} {q : List Nm} (h : some q = (preC l i ++ ((par l cn).take k).filterMap (cand l cn)).foldl better none) : q.length ≤ l.length + 1 := by
  have hm := ((better_some _ _).2 q h.symm).resolve_left (by simp)
  have key : ∀ c p, cand l c p = some q → q.length ≤ l.length + 1 := fun c p hc => by
    unfold cand at hc
    obtain ⟨m, hdm, rfl⟩ := Option.map_eq_some_iff.1 hc
    have := dist_le hdm
    simp [short_len]; omega
  rcases List.mem_append.1 hm with hm | hm
  · obtain ⟨x, _, hx⟩ := List.mem_flatMap.1 hm
    obtain ⟨p, _, hp⟩ := List.mem_filterMap.1 hx
    exact key _ p hp
  · obtain ⟨p, _, hp⟩ := List.mem_filterMap.1 hm
    exact key _ p hp
theorem row_two {b : Nat} {x y : Int} : Row (pt b (cl [.int .i64 x, .int .i64 y] 3)) 1 numC (.slice (some ⟨b, 0, none⟩) 2 2) [x, y] :=
  ⟨some ⟨b, 0, none⟩, 2, rfl, Nat.le_refl _, by decide, (fun h => by cases h), fun i z hi => by
    match i, hi with
    | 0, hi => cases hi; exact ⟨b, 0, [.int .i64 x], rfl, rfl, fun j hj => by match j, hj with | 0, _ => exact rd_cl rfl, rfl⟩
    | 1, hi => cases hi; exact ⟨b, 0, [.int .i64 y], rfl, rfl, fun j hj => by match j, hj with | 0, _ => exact rd_cl rfl, rfl⟩⟩
theorem ring_snoc {cs : List (List Nm)} {r : List Nm} : (cs ++ [r]).foldl better none = better (cs.foldl better none) r := by simp [List.foldl_append]
set_option maxHeartbeats 2000000 in
set_option maxRecDepth 100000 in
theorem Ring_ct (hv : sysR S v l) (hF : Fine l) : CtN Tryz.prog 26 #[v] [S] fun u T => ∃ w, u = .tuple #[w, .bool (ring l).isSome] ∧ w.oneCell' = true ∧ T = NR w ((ring l).getD []) := by
  obtain ⟨a, cap, rfl, _⟩ := id hv
  have hFl := hF.len
  refine ct_ofM (n := 60) Tryz.func26 rfl rfl (len rfl) fun hr w0 => ?_
  refine cd_seq (cd_region (st_v (v_assign rfl) (st_v (v_assign rfl) (st_nil (nx_then (cd_seq (cd_region (st_v (v_move rfl) (st_cl rfl rfl en51 rfl (of_ct hv (by omega)) ?_)))))))))
  rintro u h' ⟨mb, rfl, rfl⟩
  refine st_alc al75 fun b4 => ?_
  refine st_stoW rfl rfl sz75 rfl rfl ?_
  refine st_nil (nx_kp [0, 2, 3, 4] rfl (nx_then (cd_seq (cd_region (st_alc al25 fun b5 => ?_)))))
  refine st_nil (nx_then (cd_seq (cd_seq (cd_region (st_v (v_move rfl) (st_v (v_len rfl Tryz.underlying22) (st_v (v_move rfl) (st_nil (nx_kp [2, 3, 4, 5, 13, 14, 15] rfl (nx_then (cd_block (cd_vw (vw_nil 9 1) (cd_marks0 ?_)))))))))))))
  simp only [List.cons_append, List.nil_append]
  refine cd_loopD (σ := Nat × (Value × Option (List Nm)) × List Nat) (fun q => q.2.2.map mk) (fun q => [(4, .pointer (some ⟨b4, 0, none⟩)), (5, .pointer (some ⟨b5, 0, none⟩)), (13, .slice a l.length cap), (14, .int .i64 l.length), (15, .int .i64 (q.1 : Nat))]) (fun q => Res.star (marks q.2.2) :: pt b5 (cl [q.2.1.1] 25) :: NR q.2.1.1 (q.2.1.2.getD []) :: pt b4 (cl [.slice a l.length cap, .map (some mb)] 75) :: S :: mps mb (kindsM l) :: hr) (fun q => q.1 ≤ l.length ∧ BestV q.2.1.1 q.2.1.2 ∧ q.2.1.2 = (preC l q.1).foldl better none) (fun q => l.length - q.1) (0, (.slice none 0 0, none), []) ⟨Nat.zero_le _, ⟨none, 0, rfl, rfl⟩, rfl⟩ rfl ⟨rfl, rfl, rfl, rfl, rfl, trivial⟩ (by (repeat (refine Sub.sel (by repeat (first | exact Sel.here | apply Sel.there)) ?_)); (repeat apply Sub.cons); first | exact Sub.refl _ | exact Sub.nil _) ?_
  rintro ⟨i, ⟨w0, best⟩, bs⟩ ⟨hi, hbv, hbest⟩
  simp only at hi hbv hbest
  obtain ⟨wa, wcp, rfl, hwa⟩ := id hbv
  dsimp only
  refine cd_seq (cd_region (st_v (v_lss rfl rfl) (st_nil (nx_then (cd_seq (cd_cond rfl (fun hd => ?_) (fun hd => ?_)))))))
  · skip
    have hlt : i < l.length := by simpa using hd
    obtain ⟨b, o, cap2, d, f, pa, pc, c2, fa, fc, j2, hv2, hrd, hP, hone⟩ := sys_at hv (List.getElem?_eq_getElem hlt)
    have hpre := preC_succ hlt
    generalize hcn : (l[i]).name = cn at *
    refine cd_skip (xt_then (cd_seq (cd_block (cd_seq (cd_region (st_v (v_indexAddr (k := i) (congrArg some hv2) rfl sl22 rfl hlt rfl) (st_v (v_ldn rfl ld29 rfl hrd) ?_)))))))
    refine st_alc al29 fun b7 => ?_
    refine st_stoW rfl rfl sz29 rfl hone ?_
    refine st_nil (nx_kp [4, 5, 7, 13, 14, 15] rfl (nx_then (cd_seq (cd_region (st_v (v_ldn rfl ld75 rfl rds_pt) ?_)))))
    refine st_v (v_fieldAddr rfl fa29_0 rfl) (st_v (v_ldy rfl ld9) ?_)
    refine st_cl rfl rfl en37 rfl (parents0_ct rfl) ?_
    rintro u h' ⟨n1, n2, rfl, rfl⟩
    refine st_nil (nx_kp [4, 5, 7, 13, 14, 15, 22] rfl (nx_then (cd_block ?_)))
    simp only [List.cons_append, List.nil_append]
    unfold seqv
    refine cd_range' rfl en71 fun yl db rec hst hpe hps hasg hbo hkn2 => ?_
    refine ⟨_, Ct.perm (it_ct (σ := Value × Option (List Nm)) (b1 := n1) (b2 := n2) (mb := mb) (yl := yl) (c := cn) (fun q => pt yl (.loop rec) :: pt db (.deferred (some [])) :: pt b7 (cl [sv cn, d, f, .slice pa l[i].parents.length pc, c2, .slice fa l[i].feats fc, j2] 29) :: Res.star (marks bs) :: pt b5 (cl [q.1] 25) :: NR q.1 (q.2.getD []) :: pt b4 (cl [.slice a l.length cap, .map (some mb)] 75) :: hr)
      (fun k q => BestV q.1 q.2 ∧ q.2 = (preC l i ++ ((par l cn).take k).filterMap (cand l cn)).foldl better none) (fun _ _ => False) (_, best) ⟨hbv, by rw [hbest]; simp⟩ hv hF.few ?_) ?_, ?_⟩
    · rintro k ⟨w, bst⟩ p hk ⟨hbv2, hb2⟩
      simp only at hbv2 hb2
      obtain ⟨hkl, hke⟩ := List.getElem?_eq_some_iff.1 hk
      have hpm := List.mem_of_getElem? hk
      have htk : ((par l cn).take (k + 1)).filterMap (cand l cn) = ((par l cn).take k).filterMap (cand l cn) ++ (cand l cn p).toList := by
        rw [List.take_succ_eq_append_getElem hkl, hke, List.filterMap_append]
        congr 1
      obtain ⟨wa2, wcp2, rfl, hwa2⟩ := id hbv2
      refine Yc.perm (yc_of (n := 60) (rec := rec) (args := [sv p]) (hf := pt db (.deferred (some [])) :: pt b7 (cl [sv cn, d, f, .slice pa l[i].parents.length pc, c2, .slice fa l[i].feats fc, j2] 29) :: Res.star (marks bs) :: pt b5 (cl [.slice wa2 (bst.getD []).length wcp2] 25) :: NR (.slice wa2 (bst.getD []).length wcp2) (bst.getD []) :: pt b4 (cl [.slice a l.length cap, .map (some mb)] 75) :: S :: mps mb (kindsM l) :: hr) (by rw [hps]; rfl) hkn2 (by rw [hps]; decide) ?_) (by exact (by repeat (first | exact Pm.refl | refine Pm.cons (by repeat (first | exact Sel.here | apply Sel.there)) ?_) : Pm _ _).perm)
      intro hr2 w1
      rw [hasg, hps, hbo]
      simp only [List.cons_append, List.nil_append]
      refine cd_region (st_v (v_assign rfl) (st_nil (nx_kp [4, 5, 7, 8] rfl (nx_xt (xt_mid rfl (by repeat (first | exact Sel.here | apply Sel.there)) (by first | rfl | assumption) ?_)))))
      refine cd_block (cd_seq (cd_region (st_v (v_ldn rfl ld75 rfl rds_pt) ?_)))
      refine st_v (v_move rfl) (st_v (v_fieldAddr rfl fa29_0 rfl) (st_v (v_ldy rfl ld9) ?_))
      refine st_cl rfl rfl en47 rfl (shortest_ct hv hF p cn) ?_
      rintro u h' ⟨T, rfl, sa, scp, rfl, hsa, rfl⟩
      simp only [List.cons_append, List.nil_append]
      refine st_v (v_assign rfl) (st_nil (nx_kp [5, 7, 9] rfl (nx_then (cd_seq (cd_seq (cd_region (st_v (v_move rfl) (st_v (v_eql_slice_nil rfl rfl Tryz.underlying25) (st_nil (nx_kp [5, 7, 9, 30] rfl (nx_then ?_)))))))))))
      have hsl := shortR_len l cn p
      rw [hsa]
      cases hdp : dist l cn p
      · skip
        have hcd : cand l cn p = none := by unfold cand; rw [hdp]; rfl
        refine cd_true rfl ?_
        refine cd_exit (xt_exit_then (xt_exit_block (xt_round (by repeat (first | exact Sel.here | apply Sel.there)) (.inl ⟨rfl, (_, bst), ⟨hbv2, ?_⟩, rfl⟩) ?_)))
        · show bst = _
          rw [htk, hcd, hb2]; simp
        · rw [rec_back hst hpe]
          exact (by repeat (first | exact Sub.refl _ | exact Sub.nil _ | refine Sub.sel (by repeat (first | exact Sel.here | apply Sel.there)) ?_ | apply Sub.cons))
      · skip
        rename_i m
        have hml := dist_le hdp
        have hcd : cand l cn p = some (cn :: (short l cn m p).dropLast) := by unfold cand; rw [hdp]; rfl
        have hsr : shortR l cn p = short l cn m p := by unfold shortR; rw [hdp]
        rw [hsr] at hsl ⊢
        refine cd_ok (r := NR (.slice sa (short l cn m p).length scp) (short l cn m p)) (by repeat (first | exact Sel.here | apply Sel.there)) fun ⟨fh, hok⟩ => ?_
        obtain ⟨ub, uo, rfl⟩ : ∃ ub uo, sa = some ⟨ub, uo, none⟩ := by
          rcases VR.form hok with ⟨he, _⟩ | ⟨ub, uo, uc, he, _⟩
          · injection he with e1 _ _
            rw [e1, hdp] at hsa; cases hsa
          · injection he with e1 _ _
            exact ⟨ub, uo, e1⟩
        have hscp : (short l cn m p).length ≤ scp := by
          rcases VR.form hok with ⟨he, _⟩ | ⟨ub', uo', uc, he, hc1, _⟩
          · cases he
          · injection he with _ _ e3
            rw [List.length_map] at hc1; omega
        refine cd_false rfl ?_
        refine cd_skip (xt_then (cd_seq (cd_draw (ork [(0, 2), (1, 1), (3, 2), (4, 2), (5, 2), (6, 2), (7, 1), (2, 0), (8, 0), (9, 2)] .nil) (fun i => !(Nat.beq i 8)) [pt b7 (cl [sv cn, d, f, .slice pa l[i].parents.length pc, c2, .slice fa l[i].feats fc, j2] 29)] mixed (by kernel_rfl) ?_)))
        refine dp_v rfl (v_fieldAddr rfl fa29_0 rfl) (dr_v rfl (v_ldy rfl ld9) ?_)
        refine dp_v rfl (v_move rfl) (dp_v rfl (v_move rfl) (dp_v rfl (v_len rfl Tryz.underlying25) (dp_v rfl (v_sub rfl rfl (by unfold I64 at *; omega)) (dr_v rfl (v_sliceHead (hi := m) rfl rfl sl25 (by rw [short_len]; omega) (by rw [short_len] at hscp; omega)) ?_))))
        refine dr_eff rfl (st_buildSlice (cells := [sv cn]) rfl Tryz.underlying25 inf9 rfl rfl (by kernel_rfl) (ltn rfl) fun b33 => dr_nx ?_)
        refine dr_eff rfl (st_pv (p := .cons .here .nil) (pv_of (b := b33) (n := 1) (sz := 1) (E := 9) [nC cn] rfl (by simp [nC]) rfl (by decide)) (st_app (v := .slice (some ⟨b33, 0, none⟩) 1 1) ((short l cn m p).dropLast.map nC) rfl rfl Tryz.underlying25 inf9 rfl (by decide) (by repeat (first | exact Sel.here | apply Sel.there)) (fun r hr => by obtain ⟨x, _, rfl⟩ := List.mem_map.1 hr; rfl) (by simp [short_len]) (fun j u2 hu2 => ⟨NR (.slice (some ⟨ub, uo, none⟩) (short l cn m p).length scp) (short l cn m p), _, (by repeat (first | exact Sel.here | apply Sel.there)), rd_vr_flat (flat_drop hu2)⟩) (fun u2 hu2 => flat_one hu2) (by simp; omega) (by simp; omega) (ltn rfl) fun v3 hv3 hv0 => (dr_nx ?_)))
        rw [show [nC cn] ++ (short l cn m p).dropLast.map nC = (cn :: (short l cn m p).dropLast).map nC from rfl]
        refine dp_v rfl (v_assign rfl) (dr_nil (nx_kp [5, 10] rfl (nx_then (cd_seq (cd_ok (r := NR v3 (cn :: (short l cn m p).dropLast)) (by repeat (first | exact Sel.here | apply Sel.there)) fun ⟨fh2, hok2⟩ => ?_)))))
        obtain ⟨vb, vo, vc, rfl⟩ : ∃ vb vo vc, v3 = .slice (some ⟨vb, vo, none⟩) (cn :: (short l cn m p).dropLast).length vc := by
          rcases VR.form hok2 with ⟨_, he⟩ | ⟨vb, vo, vc, he, _⟩
          · cases he
          · exact ⟨vb, vo, vc, by rw [he, List.length_map]⟩
        have hrl : (cn :: (short l cn m p).dropLast).length ≤ 900002 := by simp [short_len]; omega
        generalize cn :: (short l cn m p).dropLast = r at *
        rw [hcd] at htk
        have hround : ∀ b', b' = better bst r → b' = (preC l i ++ ((par l cn).take (k + 1)).filterMap (cand l cn)).foldl better none := fun b' hb' => by
          rw [hb', htk, ← List.append_assoc, Option.toList_some, ring_snoc, ← hb2]
        cases bst
        · skip
          obtain rfl : wa2 = none := by cases wa2 with | none => rfl | some x => cases hwa2
          refine cd_drawh (ork [(0, 1), (1, 1), (2, 2), (3, 2), (4, 2), (5, 1), (6, 2), (7, 1), (8, 2), (9, 1), (10, 1), (11, 1), (12, 1), (13, 2), (14, 2)] .nil) (fun _ => true) mixed (by kernel_rfl) ?_
          refine dr_v rfl (v_ldy rfl ld25) ?_
          refine dr_v rfl (v_eql_slice_nil rfl rfl Tryz.underlying25) (dp_v rfl (v_move rfl) (dp_sk rfl rfl rfl rfl ?_))
          refine dp_sk rfl rfl rfl rfl ?_
          refine dr_sk rfl rfl rfl rfl ?_
          refine dp_sk rfl rfl rfl rfl ?_
          refine dr_sk rfl rfl rfl rfl ?_
          refine dp_sk rfl rfl rfl rfl ?_
          refine dr_sk rfl rfl rfl rfl ?_
          refine dr_sk rfl rfl rfl rfl ?_
          refine dr_sk rfl rfl rfl rfl ?_
          refine dr_sk rfl rfl rfl rfl ?_
          refine dp_sk rfl rfl rfl rfl ?_
          refine dp_v rfl (v_pick_true rfl rfl) (dr_nil (nx_kp [5, 10, 54] rfl (nx_then (cd_true rfl ?_))))
          refine cd_region (st_v (v_move rfl) (st_sto rfl rfl sz25 ?_))
          refine st_nil (nx_kp [] rfl (nx_xt (xt_normal_block (xt_round (by repeat (first | exact Sel.here | apply Sel.there)) (.inl ⟨rfl, (.slice (some ⟨vb, vo, none⟩) r.length vc, some r), ⟨⟨some ⟨vb, vo, none⟩, vc, rfl, rfl⟩, hround (some r) rfl⟩, rfl⟩) ?_))))
          rw [rec_back hst hpe]
          exact (by repeat (first | exact Sub.refl _ | exact Sub.nil _ | refine Sub.sel (by repeat (first | exact Sel.here | apply Sel.there)) ?_ | apply Sub.cons))
        · skip
          rename_i q
          obtain ⟨qa, rfl⟩ : ∃ x, wa2 = some x := by cases wa2 with | none => cases hwa2 | some x => exact ⟨x, rfl⟩
          have hql := mem_len hb2
          simp only [Option.getD_some]
          refine cd_ok (r := NR (.slice (some qa) q.length wcp2) q) (by repeat (first | exact Sel.here | apply Sel.there)) fun ⟨fh3, hokq⟩ => ?_
          refine cd_drawh (ork [(0, 1), (1, 1), (2, 2), (3, 2), (4, 2), (5, 1), (6, 2), (7, 1), (8, 2), (9, 1), (10, 1), (11, 0), (12, 0), (13, 2), (14, 2)] .nil) (fun i => !(Nat.beq i 11 || Nat.beq i 12)) mixed (by kernel_rfl) ?_
          refine dr_v rfl (v_ldy rfl ld25) ?_
          refine dr_v rfl (v_eql_slice_nil rfl rfl Tryz.underlying25) (dp_v rfl (v_move rfl) (dp_vg rfl rfl rfl (v_move rfl) (dp_vg rfl rfl rfl (v_len rfl Tryz.underlying25) (dr_vg rfl rfl rfl (v_ldy rfl ld25) ?_))))
          refine dp_vg rfl rfl rfl (v_len rfl Tryz.underlying25) (dr_clrg rfl rfl rfl rfl rfl en62 rfl (cmpI_ct r.length q.length) ?_)
          refine dp_vg rfl rfl rfl (v_move rfl) (dr_vg rfl rfl rfl (v_ldy rfl ld25) ?_)
          refine dr_clrg rfl rfl rfl rfl rfl en63 rfl (cmpL_ct (nms_own ⟨fh2, hok2⟩) (nms_own ⟨fh3, hokq⟩) (by omega) (by omega)) ?_
          refine dr_effg rfl rfl rfl (st_grd rfl rfl (st_buildSlice (cells := [.int .i64 (cmpI r.length q.length), .int .i64 (cmpL r q)]) rfl Tryz.underlying126 inf3 rfl rfl (by kernel_rfl) (ltn rfl) fun b51 => dr_nx ?_))
          refine dr_effg rfl rfl rfl (st_grd rfl rfl (st_cl rfl rfl en61 rfl (Or_ct (xs := [cmpI r.length q.length, cmpL r q]) row_two (by simp)) ?_))
          rintro u h' ⟨rfl, rfl⟩
          simp only [List.cons_append, List.nil_append]
          refine dr_nx ?_
          refine dp_vg rfl rfl rfl (v_lss rfl rfl) (dp_v rfl (v_pick_false rfl rfl) (dr_nil (nx_kp [5, 10, 54] rfl (nx_then ?_))))
          rw [ring_lt]
          refine cd_cond rfl (fun hbt => ?_) (fun hbt => ?_)
          · skip
            refine cd_region (st_v (v_move rfl) (st_sto rfl rfl sz25 ?_))
            refine st_nil (nx_kp [] rfl (nx_xt (xt_normal_block (xt_round (by repeat (first | exact Sel.here | apply Sel.there)) (.inl ⟨rfl, (.slice (some ⟨vb, vo, none⟩) r.length vc, some r), ⟨⟨some ⟨vb, vo, none⟩, vc, rfl, rfl⟩, hround (some r) (by show _ = (if ringLt r q = true then some r else some q); rw [if_pos hbt])⟩, rfl⟩) ?_))))
            rw [rec_back hst hpe]
            exact (by repeat (first | exact Sub.refl _ | exact Sub.nil _ | refine Sub.sel (by repeat (first | exact Sel.here | apply Sel.there)) ?_ | apply Sub.cons))
          · skip
            refine cd_skip (xt_normal_block (xt_round (by repeat (first | exact Sel.here | apply Sel.there)) (.inl ⟨rfl, (.slice (some qa) q.length wcp2, some q), ⟨⟨some qa, wcp2, rfl, rfl⟩, hround (some q) (by show _ = (if ringLt r q = true then some r else some q); rw [if_neg (by rw [hbt]; decide)])⟩, rfl⟩) ?_))
            rw [rec_back hst hpe]
            exact (by repeat (first | exact Sub.refl _ | exact Sub.nil _ | refine Sub.sel (by repeat (first | exact Sel.here | apply Sel.there)) ?_ | apply Sub.cons))
    · exact (by repeat (first | exact Pm.refl | refine Pm.cons (by repeat (first | exact Sel.here | apply Sel.there)) ?_) : Pm _ _).perm
    · rintro u h' ⟨rfl, (⟨⟨w, bst⟩, ⟨hbv2, hb2⟩, rfl⟩ | ⟨_, _, hfalse, _⟩)⟩
      · simp only at hbv2 hb2
        rw [List.take_length, ← hpre] at hb2
        refine ⟨rec, _, (by repeat (first | exact Sel.here | apply Sel.there)), (by rw [hst]; simp), ?_⟩
        rw [hpe]
        dsimp only
        refine xt_normal_block (xt_normal_block (xt_then (cd_region (st_v (v_add rfl rfl (by unfold I64 at *; omega)) (st_v (v_move rfl) (st_nil (nx_kp [4, 5, 13, 14, 15] rfl (nx_xt (xt_mark (by repeat (first | exact Sel.here | apply Sel.there)) (by repeat (first | exact Sel.here | apply Sel.there)) ?_)))))))))
        refine xt_againD (i + 1, (w, bst), db :: bs) ⟨hlt, hbv2, hb2⟩ (by show _ - _ < _ - _; omega) rfl ⟨rfl, rfl, rfl, rfl, rfl, trivial⟩ (by (repeat (refine Sub.sel (by repeat (first | exact Sel.here | apply Sel.there)) ?_)); (repeat apply Sub.cons); first | exact Sub.refl _ | exact Sub.nil _)
      · exact hfalse.elim
  · skip
    have hil : i = l.length := by have : ¬ i < l.length := by simpa using hd
                                  omega
    subst hil
    rw [preC_all] at hbest
    have hbr : best = ring l := hbest
    refine cd_exit (xt_exit_then (xt_exit_then (xt_exit_block (xt_then (cd_seq (cd_drawh (ork [(0, 1), (1, 1), (2, 1), (3, 2), (4, 2)] .nil) (fun _ => true) mixed (by kernel_rfl) ?_))))))
    refine dr_v rfl (v_ldy rfl ld25) ?_
    refine dr_v rfl (v_ldy rfl ld25) ?_
    refine dr_v rfl (v_neq_slice_nil rfl rfl Tryz.underlying25) (dp_v rfl (v_assign rfl) (dp_v rfl (v_assign rfl) (dr_nil (nx_kp [2, 3] rfl (nx_then (cd_ret ?_))))))
    rw [show (!wa.isNone) = (ring l).isSome by rw [hwa, hbr]; cases ring l <;> rfl]
    refine xt_retS (bs := bs) rfl rfl ⟨NR (.slice wa (best.getD []).length wcp) (best.getD []), rfl, _, rfl, rfl, by rw [hbr]⟩ (by (repeat (refine Sub.sel (by repeat (first | exact Sel.here | apply Sel.there)) ?_)); (repeat apply Sub.cons); first | exact Sub.refl _ | exact Sub.nil _)
end
end Go.Hr
namespace Go.Hr
open Go Go.Ck Go.Proofs Go.Proofs.YtjgiaohieadeiaaGreat Fx
attribute [local irreducible] Go.Ck.Sub St Cd Xt Nx DrL LsW
section
variable {S S' : Res} {v v' : Value}
set_option maxRecDepth 100000 in
theorem SameNames_ct {xs ys : List Nm} (hv : nmsR S v xs) (hv' : nmsR S' v' ys) (hl : xs.length ≤ 1099511627776) : Reads Tryz.prog 27 #[v, v'] [S, S'] (.bool (xs == ys)) := by
  obtain ⟨a, cap, rfl, _⟩ := id hv
  obtain ⟨a', cap', rfl, _⟩ := id hv'
  refine ct_of (n := 26) Tryz.func27 rfl rfl (len rfl) fun hr w0 => ?_
  refine cd_seq (cd_region (st_v (v_assign rfl) (st_nil (nx_then (cd_seq (cd_seq (cd_region (st_v (v_move rfl) (st_v (v_len rfl Tryz.underlying25) (st_v (v_move rfl) (st_v (v_len rfl Tryz.underlying25) (st_v (v_neq rfl rfl) (st_nil (nx_kp [0, 1, 4, 10] rfl (nx_then (cd_cond rfl (fun hn => ?_) (fun hn => ?_)))))))))))))))))
  · skip
    have hn : xs.length ≠ ys.length := by
      intro e
      rw [e] at hn; simp at hn
    refine cd_seq (cd_region (st_v (v_assign rfl) (st_nil (nx_kp [4] rfl (nx_then (cd_ret (xt_ret_then ?_)))))))
    rw [show (xs == ys) = false by
      rw [beq_eq_false_iff_ne]
      exact fun e => hn (by rw [e])]
    exact xt_rt rfl ⟨rfl, rfl⟩ (by (repeat (refine Sub.sel (by repeat (first | exact Sel.here | apply Sel.there)) ?_)); (repeat apply Sub.cons); first | exact Sub.refl _ | exact Sub.nil _)
  · skip
    have hn : xs.length = ys.length := by
      have : (xs.length : Int) = ys.length := by simpa using hn
      omega
    refine cd_skip (xt_then (cd_seq (cd_seq (cd_region (st_v (v_assign rfl) (st_nil (nx_kp [0, 1, 4, 5] rfl (nx_then (cd_block (cd_lq (σ := Nat) (fun i => [(0, .slice a xs.length cap), (1, .slice a' ys.length cap'), (5, .int .i64 (i : Nat))]) (fun _ => S :: S' :: hr) (fun i => i ≤ xs.length ∧ ∀ (j : Nat), j < i → xs[j]? = ys[j]?) (fun i => xs.length - i) 0 ⟨Nat.zero_le _, fun j hj => by omega⟩ ?_))))))))))
    rintro i ⟨hi, hne⟩
    refine cd_seq (cd_seq (cd_region (st_v (v_move rfl) (st_v (v_move rfl) (st_v (v_len rfl Tryz.underlying25) (st_v (v_lss rfl rfl) (st_nil (nx_kp [0, 1, 5, 14] rfl (nx_then (cd_cond rfl (fun hd => ?_) (fun hd => ?_)))))))))))
    · skip
      have hlt : i < xs.length := by simpa using hd
      have hlt' : i < ys.length := by omega
      obtain ⟨b, o, cap2, hv2, hrd⟩ := nms_at hv (List.getElem?_eq_getElem hlt)
      obtain ⟨b', o', cap2', hv2', hrd'⟩ := nms_at hv' (List.getElem?_eq_getElem hlt')
      refine cd_skip (xt_then (cd_seq (cd_block (cd_seq (cd_drawh (ork [(0, 2), (1, 2), (2, 2), (3, 1), (4, 2), (5, 2), (6, 2), (7, 1), (8, 1)] .nil) (fun _ => true) mixed (by kernel_rfl) ?_)))))
      refine dp_v rfl (v_move rfl) (dp_v rfl (v_move rfl) (dp_v rfl (v_indexAddr (k := i) (congrArg some hv2) rfl sl25 rfl hlt rfl) (dr_v rfl (v_ldy rfl ld9) ?_)))
      refine dp_v rfl (v_move rfl) (dp_v rfl (v_move rfl) (dp_v rfl (v_indexAddr (k := i) (congrArg some hv2') rfl sl25 rfl hlt' rfl) (dr_v rfl (v_ldy rfl ld9) ?_)))
      refine dr_v rfl (v_sneq rfl rfl) (dr_nil (nx_kp [0, 1, 5, 25] rfl (nx_then (cd_cond rfl (fun he => ?_) (fun he => ?_)))))
      · skip
        have he : xs[i] ≠ ys[i] := fun e => by rw [e] at he; simp at he
        refine cd_seq (cd_region (st_v (v_assign rfl) (st_nil (nx_kp [4] rfl (nx_then (cd_ret (xt_ret_block (xt_ret_then (xt_ret_then (xt_ret_block (xt_ret_then ?_)))))))))))
        rw [show (xs == ys) = false by
          rw [beq_eq_false_iff_ne]
          exact fun e => he (by subst e; rfl)]
        exact xt_rt rfl ⟨rfl, rfl⟩ (by (repeat (refine Sub.sel (by repeat (first | exact Sel.here | apply Sel.there)) ?_)); (repeat apply Sub.cons); first | exact Sub.refl _ | exact Sub.nil _)
      · skip
        have he : xs[i] = ys[i] := by simpa using he
        refine cd_skip (xt_normal_block (xt_then (cd_region (st_v (v_move rfl) (st_v (v_add rfl rfl (by unfold I64 at *; omega)) (st_v (v_assign rfl) (st_nil (nx_kp [0, 1, 5] rfl (nx_xt (xt_aq (i + 1) ⟨hlt, fun j hj => ?_⟩ (by show _ - _ < _ - _; omega)))))))))))
        by_cases hji : j = i
        · subst hji; rw [List.getElem?_eq_getElem hlt, List.getElem?_eq_getElem hlt', he]
        · exact hne j (by omega)
    · skip
      refine cd_exit (xt_exit_then (xt_exit_then (xt_exit_block (xt_then (cd_seq (cd_region (st_v (v_assign rfl) (st_nil (nx_kp [4] rfl (nx_then (cd_ret ?_)))))))))))
      have hil : i = xs.length := by have : ¬ i < xs.length := by simpa using hd
                                     omega
      rw [show (xs == ys) = true by
        rw [beq_iff_eq]
        apply List.ext_getElem? 
        intro j
        rcases Nat.lt_or_ge j xs.length with h | h
        · exact hne j (by omega)
        · rw [List.getElem?_eq_none h, List.getElem?_eq_none (by omega)]]
      exact xt_rt rfl ⟨rfl, rfl⟩ (by (repeat (refine Sub.sel (by repeat (first | exact Sel.here | apply Sel.there)) ?_)); (repeat apply Sub.cons); first | exact Sub.refl _ | exact Sub.nil _)
end
end Go.Hr
namespace Go.Hr
open Go Go.Ck Go.Proofs Go.Proofs.YtjgiaohieadeiaaGreat Fx
attribute [local irreducible] Go.Ck.Sub St Cd Xt Nx DrL LsW
def ixP (g : Nm → Bool) (xs : List Nm) : Int := match xs.findIdx? g with | some i => i | none => -1
theorem ixP_any (g : Nm → Bool) (xs : List Nm) : decide (0 ≤ ixP g xs) = xs.any g := by
  unfold ixP
  cases h : xs.findIdx? g with
  | none =>
    rw [List.findIdx?_eq_none_iff] at h
    symm
    show _ = false
    rw [List.any_eq_false]
    intro x hx; rw [h x hx]; decide
  | some i =>
    show decide (0 ≤ (i : Int)) = _
    obtain ⟨hi, h1, _⟩ := List.findIdx?_eq_some_iff_getElem.1 h
    rw [List.any_eq_true.2 ⟨xs[i], List.getElem_mem hi, h1⟩]
    exact decide_eq_true (by omega)
section
variable {S : Res} {v : Value} {l : Sys} {kf : FuncId} {cp : Array Value} {g : Nm → Bool}
set_option maxRecDepth 100000 in
theorem IndexFuncN_ct {xs : List Nm} (hv : nmsR S v xs) (hl : xs.length ≤ 1099511627776) (hE : Enters Tryz.prog kf) (hf : ∀ x ∈ xs, Reads Tryz.prog kf (#[] ++ [sv x].toArray ++ cp) [S] (.bool (g x))) : Reads Tryz.prog 78 #[v, .func (.func kf) #[] cp] [S] (.int .i64 (ixP g xs)) := by
  obtain ⟨a, cap, rfl, _⟩ := id hv
  refine ct_of (n := 19) Tryz.func78 rfl rfl (len rfl) fun hr w0 => ?_
  refine cd_seq (cd_region (st_v (v_assign rfl) (st_nil (nx_then (cd_seq (cd_seq (cd_region (st_v (v_move rfl) (st_v (v_len rfl Tryz.underlying25) (st_v (v_move rfl) (st_nil (nx_kp [0, 1, 4, 7, 8] rfl (nx_then (cd_block (cd_lq (σ := Nat) (fun i => [(0, .slice a xs.length cap), (1, .func (.func kf) #[] cp), (7, .int .i64 xs.length), (8, .int .i64 (i : Nat))]) (fun _ => S :: hr) (fun i => i ≤ xs.length ∧ ∀ (j : Nat) (y : Nm), j < i → xs[j]? = some y → g y = false) (fun i => xs.length - i) 0 ⟨Nat.zero_le _, fun j y hj => by omega⟩ ?_)))))))))))))))
  rintro i ⟨hi, hne⟩
  refine cd_seq (cd_region (st_v (v_lss rfl rfl) (st_nil (nx_then (cd_seq (cd_cond rfl (fun hd => ?_) (fun hd => ?_)))))))
  · skip
    have hlt : i < xs.length := by simpa using hd
    obtain ⟨b, o, cap2, hv2, hrd⟩ := nms_at hv (List.getElem?_eq_getElem hlt)
    refine cd_skip (xt_then (cd_seq (cd_block (cd_seq (cd_region (st_v (v_move rfl) (st_v (v_assign rfl) (st_nil (nx_kp [0, 1, 5, 7, 8] rfl (nx_then (cd_seq (cd_region (st_v (v_move rfl) (st_v (v_move rfl) (st_v (v_move rfl) ?_)))))))))))))))
    refine st_v (v_indexAddr (k := i) (congrArg some hv2) rfl sl25 rfl hlt rfl) (st_v (v_ldy rfl ld9) ?_)
    refine st_clr rfl rfl hE rfl ((hf xs[i] (List.getElem_mem hlt))) ?_
    refine st_nil (nx_kp [0, 1, 5, 7, 8, 16] rfl (nx_then (cd_cond rfl (fun he => ?_) (fun he => ?_))))
    · skip
      refine cd_seq (cd_region (st_v (v_move rfl) (st_v (v_assign rfl) (st_nil (nx_kp [4] rfl (nx_then (cd_ret (xt_ret_block (xt_ret_then (xt_ret_then (xt_ret_block (xt_ret_then ?_))))))))))))
      rw [show ixP g xs = (i : Int) by
        unfold ixP
        rw [show xs.findIdx? g = some i from List.findIdx?_eq_some_iff_getElem.2 ⟨hlt, he, fun j hj => by rw [hne j _ hj (List.getElem?_eq_getElem (Nat.lt_trans hj hlt))]; decide⟩]]
      exact xt_rt rfl ⟨rfl, rfl⟩ (by (repeat (refine Sub.sel (by repeat (first | exact Sel.here | apply Sel.there)) ?_)); (repeat apply Sub.cons); first | exact Sub.refl _ | exact Sub.nil _)
    · skip
      refine cd_skip (xt_normal_block (xt_then (cd_region (st_v (v_add rfl rfl (by unfold I64 at *; omega)) (st_v (v_move rfl) (st_nil (nx_kp [0, 1, 7, 8] rfl (nx_xt (xt_aq (i + 1) ⟨hlt, fun j y hj hy => ?_⟩ (by show _ - _ < _ - _; omega))))))))))
      by_cases hji : j = i
      · subst hji; rw [List.getElem?_eq_getElem hlt] at hy; cases hy; exact he
      · exact hne j y (by omega) hy
  · skip
    refine cd_exit (xt_exit_then (xt_exit_then (xt_exit_block (xt_then (cd_seq (cd_region (st_v (v_assign rfl) (st_nil (nx_kp [4] rfl (nx_then (cd_ret ?_)))))))))))
    have hil : i = xs.length := by have : ¬ i < xs.length := by simpa using hd
                                   omega
    rw [show ixP g xs = -1 by
      unfold ixP
      rw [show xs.findIdx? g = none from List.findIdx?_eq_none_iff.2 fun x hx => by
        obtain ⟨j, hj, rfl⟩ := List.getElem_of_mem hx
        exact hne j _ (by omega) (List.getElem?_eq_getElem hj)]]
    exact xt_rt rfl ⟨rfl, rfl⟩ (by (repeat (refine Sub.sel (by repeat (first | exact Sel.here | apply Sel.there)) ?_)); (repeat apply Sub.cons); first | exact Sub.refl _ | exact Sub.nil _)
set_option maxRecDepth 100000 in
theorem ContainsFuncN_ct {xs : List Nm} (hv : nmsR S v xs) (hl : xs.length ≤ 1099511627776) (hE : Enters Tryz.prog kf) (hf : ∀ x ∈ xs, Reads Tryz.prog kf (#[] ++ [sv x].toArray ++ cp) [S] (.bool (g x))) : Reads Tryz.prog 57 #[v, .func (.func kf) #[] cp] [S] (.bool (xs.any g)) := by
  refine ct_of (n := 9) Tryz.func57 rfl rfl (len rfl) fun hr w0 => ?_
  refine cd_seq (cd_region (st_v (v_assign rfl) (st_nil (nx_then (cd_seq (cd_region (st_v (v_move rfl) (st_v (v_move rfl) (st_clr rfl rfl en78 rfl (IndexFuncN_ct hv hl hE hf) ?_)))))))))
  refine st_v (v_geq rfl rfl) (st_v (v_assign rfl) (st_nil (nx_kp [4] rfl (nx_then (cd_ret ?_)))))
  rw [ixP_any]
  exact xt_rt rfl ⟨rfl, rfl⟩ (by (repeat (refine Sub.sel (by repeat (first | exact Sel.here | apply Sel.there)) ?_)); (repeat apply Sub.cons); first | exact Sub.refl _ | exact Sub.nil _)
set_option maxRecDepth 100000 in
theorem names_ct {mb : Nat} (hv : sysR S v l) (hF : Fine l) (hE : Enters Tryz.prog kf) (hf : ∀ x ∈ nms l, Reads Tryz.prog kf (#[] ++ [sv x].toArray ++ cp) [S] (.bool (g x))) : CtN Tryz.prog 50 #[.agg #[v, .map (some mb)], .func (.func kf) #[] cp] [S] fun u T => u.oneCell' = true ∧ T = NR u ((nms l).filter g) := by
  obtain ⟨a, cap, rfl, _⟩ := id hv
  have hFl := hF.len
  have hnl : (nms l).length = l.length := by simp [nms]
  refine ct_of (n := 26) Tryz.func50 rfl rfl (len rfl) fun hr w0 => ?_
  refine cd_seq (cd_region (st_bx rfl rfl fun b2 => ?_))
  refine st_v (v_assign rfl) (st_nil (nx_kp [1, 2, 4] rfl (nx_then (cd_seq (cd_region (st_v (v_assign rfl) (st_nil (nx_then (cd_seq (cd_seq (cd_region (st_v (v_fieldAddr rfl fa75_0 rfl) (st_v (v_ldy rfl ld22) ?_)))))))))))))
  refine st_v (v_len rfl Tryz.underlying22) (st_v (v_move rfl) (st_nil (nx_kp [1, 4, 5, 9, 10, 11] rfl (nx_then (cd_block (cd_vw (vw_nil 9 1) (cd_lq (σ := Value × Nat) (fun q => [(1, .func (.func kf) #[] cp), (5, q.1), (9, .slice a l.length cap), (10, .int .i64 l.length), (11, .int .i64 (q.2 : Nat))]) (fun q => NR q.1 (((nms l).take q.2).filter g) :: S :: hr) (fun q => q.1.oneCell' = true ∧ q.2 ≤ l.length) (fun q => l.length - q.2) (.slice none 0 0, 0) ⟨rfl, Nat.zero_le _⟩ ?_)))))))
  rintro ⟨w, i⟩ ⟨hw, hi⟩
  simp only at hw hi
  dsimp only
  refine cd_seq (cd_region (st_v (v_lss rfl rfl) (st_nil (nx_then (cd_seq (cd_cond rfl (fun hd => ?_) (fun hd => ?_)))))))
  · skip
    have hlt : i < l.length := by simpa using hd
    obtain ⟨b, o, cap2, d, f, pa, pc, c2, fa, fc, j2, hv2, hrd, hP, hone⟩ := sys_at hv (List.getElem?_eq_getElem hlt)
    have hlt' : i < (nms l).length := by omega
    have hnm : (nms l)[i] = (l[i]).name := by simp [nms]
    have hmem : (l[i]).name ∈ nms l := by rw [← hnm]; exact List.getElem_mem hlt'
    have hll : (((nms l).take i).filter g).length ≤ 900000 := Nat.le_trans (List.length_filter_le _ _) (by rw [List.length_take]; omega)
    have ht : ((nms l).take (i + 1)).filter g = ((nms l).take i).filter g ++ (if g (l[i]).name = true then [(l[i]).name] else []) := by
      rw [List.take_succ_eq_append_getElem hlt', List.filter_append, hnm]
      congr 1
      by_cases hg : g (l[i]).name = true <;> simp [hg]
    refine cd_skip (xt_then (cd_seq (cd_block (cd_seq (cd_region (st_v (v_indexAddr (k := i) (congrArg some hv2) rfl sl22 rfl hlt rfl) (st_v (v_ldn rfl ld29 rfl hrd) ?_)))))))
    refine st_alc al29 fun b7 => ?_
    refine st_stoW rfl rfl sz29 rfl hone ?_
    refine st_nil (nx_kp [1, 5, 7, 9, 10, 11] rfl (nx_then (cd_seq (cd_region (st_v (v_move rfl) (st_v (v_fieldAddr rfl fa29_0 rfl) (st_v (v_ldy rfl ld9) ?_)))))))
    refine st_clr rfl rfl hE rfl ((hf (l[i]).name hmem)) ?_
    refine st_nil (nx_kp [1, 5, 7, 9, 10, 11, 18] rfl (nx_then (cd_cond rfl (fun he => ?_) (fun he => ?_))))
    · skip
      rw [if_pos he] at ht
      refine cd_region (st_v (v_move rfl) (st_v (v_fieldAddr rfl fa29_0 rfl) (st_v (v_ldy rfl ld9) ?_)))
      refine st_buildSlice (cells := [sv (l[i]).name]) rfl Tryz.underlying25 inf9 rfl rfl (by kernel_rfl) (ltn rfl) fun b22 => ?_
      refine st_app [nC (l[i]).name] rfl rfl Tryz.underlying25 inf9 rfl (by decide) (show Sel _ (NR w (((nms l).take i).filter g)) _ from (by repeat (first | exact Sel.here | apply Sel.there))) (by simp [nC]) rfl (fun j u2 hu2 => at_here (rd_cl (by simpa [nC] using hu2))) (by simp [nC, Value.oneCell']) (by rw [List.length_map]; omega) (by rw [List.length_map]; omega) (ltn rfl) fun w3 hw3 _ => ?_
      rw [show (((nms l).take i).filter g).map nC ++ [nC (l[i]).name] = (((nms l).take (i + 1)).filter g).map nC by rw [ht]; simp]
      refine st_v (v_assign rfl) (st_nil (nx_kp [1, 5, 9, 10, 11] rfl (nx_xt (xt_normal_block (xt_then (cd_region (st_v (v_add rfl rfl (by unfold I64 at *; omega)) (st_v (v_move rfl) (st_nil (nx_kp [1, 5, 9, 10, 11] rfl (nx_xt ?_)))))))))))
      refine xt_aq (w3, i + 1) ⟨hw3, hlt⟩ (by show _ - _ < _ - _; omega)
    · skip
      rw [if_neg (by rw [he]; decide), List.append_nil] at ht
      refine cd_skip (xt_normal_block (xt_then (cd_region (st_v (v_add rfl rfl (by unfold I64 at *; omega)) (st_v (v_move rfl) (st_nil (nx_kp [1, 5, 9, 10, 11] rfl (nx_xt ?_))))))))
      rw [← ht]
      refine xt_aq (w, i + 1) ⟨hw, hlt⟩ (by show _ - _ < _ - _; omega)
  · skip
    have hil : i = l.length := by have : ¬ i < l.length := by simpa using hd
                                  omega
    subst hil
    rw [← hnl, List.take_length]
    refine cd_exit (xt_exit_then (xt_exit_then (xt_exit_block (xt_then (cd_seq (cd_region (st_v (v_move rfl) (st_v (v_assign rfl) (st_nil (nx_kp [4] rfl (nx_then (cd_ret ?_))))))))))))
    exact xt_rt rfl ⟨_, rfl, hw, rfl⟩ (by (repeat (refine Sub.sel (by repeat (first | exact Sel.here | apply Sel.there)) ?_)); (repeat apply Sub.cons); first | exact Sub.refl _ | exact Sub.nil _)
end
end Go.Hr
