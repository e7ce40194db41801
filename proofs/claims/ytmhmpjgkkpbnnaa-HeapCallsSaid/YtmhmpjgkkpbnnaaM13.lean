/-
  The law's own functions: fit, short; a call of a method, in package heap and in the reference. Conditions: what the heap holds, that the machine is in order.
  HeapCalls: for every input the law answers true. Conditions: what the heap holds, that numbers are those of the machine.
  HeapCalls: for every input the law answers true, and the input reads as it did. No condition.
-/
import Derived.Test.YtmhmpjgkkpbnnaaM12
import Derived.Test.YtmhmpjgkkpbnnaaM9
import Derived.Test.YtmhmpjgkkpbnnaaRows
import Derived.Test.YtmhmpjgkkpbnnaaM2
import Derived.JoinedCond
namespace Go.Hm.AM
/-- A call of a method: a number, a list, an error, and the machine behind it. -/
def call (m : AM) (k a b c : Int) (roots : List Int) : Int × List Int × Int × AM :=
  if k = 0 then ((m.alloc a).1, [], (m.alloc a).2.1, (m.alloc a).2.2)
  else if k = 1 then ((m.shapeOf a).1, [], (m.shapeOf a).2, m)
  else if k = 2 then ((m.get a b).1, [], (m.get a b).2.1, (m.get a b).2.2)
  else if k = 3 then (0, [], (m.set a b c).1, (m.set a b c).2)
  else if k = 4 then (0, (m.minor roots).1, (m.minor roots).2.1, (m.minor roots).2.2)
  else if k = 5 then (0, (m.flip roots).1, (m.flip roots).2.1, (m.flip roots).2.2)
  else ((m.step a).1, [], (m.step a).2.1, (m.step a).2.2)
end Go.Hm.AM
namespace Go.Proofs.Ytmhmpjgkkpbnnaa
open Go.Ck Fx Go.Hm Go.Hm.AM
attribute [local irreducible] St Cd Xt Nx DrL LsW
section
theorem Fine.call {m : AM} (h : Fine m) (k a b c : Int) (roots : List Int) : Fine (m.call k a b c roots).2.2.2 := by
  unfold AM.call
  split; exact h.alloc a
  split; exact h
  split; exact h.get a b
  split; exact h.set a b c
  split; exact h.minor roots
  split; exact h.flip roots
  exact h.step a
variable {R : Res} {m : AM} {ly ln lf : List Int} {φ : Int → Option Nat} {A : Store} {v : Value} {roots : List Int} {S : Res}
def fitRow (l : List Bool) : Bool := !((decide (8 < (l.length : Int)) && decide ((l.length : Int) ≤ 60)) || decide (70 < (l.length : Int)))
def fitp (sh : List (List Bool)) : Bool := sh.all fitRow && (decide ((sh.length : Int) ≤ 8) || (decide (60 < (sh.length : Int)) && decide ((sh.length : Int) ≤ 70)))
set_option maxRecDepth 100000 in
theorem fit_ct {sh : List (List Bool)} (h : Shp R v sh) (hl : sh.length ≤ maxLen) : Reads Try.prog 12 #[v] [R] (.bool (fitp sh)) := by
  obtain ⟨a, cp, hv, _⟩ := id h
  unfold maxLen at hl
  unfold fitp
  refine ct_of (n := 45) Try.func12 rfl rfl (len rfl) fun hr w0 => ?_
  refine cd_seq (cd_region (st_v (v_assign rfl) (st_nil (nx_then (cd_seq (cd_seq (cd_region (st_v (v_assign rfl) (st_nil (nx_then (cd_block (cd_loop (σ := Nat) (fun i => [(0, v), (3, .int .i64 (i : Nat))]) (fun _ => R :: hr) (fun i => i ≤ sh.length ∧ (sh.take i).all fitRow = true) (fun i => sh.length - i) 0 ⟨Nat.zero_le _, rfl⟩ ⟨rfl, rfl, trivial⟩ (Sub.refl _) ?_))))))))))))
  rintro i ⟨hi, hne⟩
  refine cd_seq (cd_seq (cd_region (st_v (v_move rfl) (st_v (v_move rfl) (st_v (v_len (congrArg some hv) Try.underlying22) (st_v (v_lss rfl rfl) (st_nil (nx_kp [0, 3, 7] rfl (nx_then (cd_cond rfl (fun hd => ?_) (fun hd => ?_)))))))))))
  · skip
    have hlt : i < sh.length := by simpa using hd
    obtain ⟨b, o, cp', u, hv', hrd, hu⟩ := h.row hlt
    obtain ⟨ua, ucp, hue, _⟩ := id hu
    subst hue
    refine cd_skip (xt_then (cd_seq (cd_block (cd_seq (cd_region (st_v (v_move rfl) (st_v (v_move rfl) (st_v (v_ixo i (congrArg some hv') rfl sl22 rfl hlt) (st_v (v_ld rfl ld73) ?_)))))))))
    refine st_v (v_len rfl Try.underlying73) (st_v (v_gtr rfl rfl) (st_v (v_move rfl) (st_cut (k := 14) (d := 23) (v := .bool (decide (8 < (sh[i].length : Int)) && decide ((sh[i].length : Int) ≤ 60))) (fun hcut => bool_want (b := decide (8 < (sh[i].length : Int))) true (fun hg => ?_) (fun hg => ?_)) ?_)))
    · refine st_sk rfl rfl hg ?_
      refine st_sk rfl rfl hg ?_
      refine st_sk rfl rfl hg ?_
      refine st_sk rfl rfl hg ?_
      refine st_sk rfl rfl hg ?_
      refine st_sk rfl rfl hg ?_
      refine st_v (v_pick_false (bool_ev rfl hg) rfl) ?_
      exact hcut _ (ssub_head (by first | rfl | (rw [hg]; rfl) | simp_all) (ssub_skip rfl (ssub_skip rfl (ssub_skip rfl (ssub_skip rfl (ssub_skip rfl (ssub_skip rfl (ssub_refl))))))))
    · skip
      refine st_vg rfl (bool_get rfl hg) (v_move rfl) (st_vg rfl (bool_get rfl hg) (v_move rfl) (st_vg rfl (bool_get rfl hg) (v_ixo i (congrArg some hv') rfl sl22 rfl hlt) (st_vg rfl (bool_get rfl hg) (v_ld rfl ld73) ?_)))
      refine st_vg rfl (bool_get rfl hg) (v_len rfl Try.underlying73) (st_vg rfl (bool_get rfl hg) (v_leq rfl rfl) (st_v (v_pick_true (bool_ev rfl hg) rfl) ?_))
      exact hcut _ (ssub_head (by first | rfl | (rw [hg]; rfl) | simp_all) (ssub_skip rfl (ssub_skip rfl (ssub_skip rfl (ssub_skip rfl (ssub_skip rfl (ssub_skip rfl (ssub_refl))))))))
    refine st_v (v_move rfl) (st_cut (k := 22) (d := 31) (v := .bool ((decide (8 < (sh[i].length : Int)) && decide ((sh[i].length : Int) ≤ 60)) || decide (70 < (sh[i].length : Int)))) (fun hcut => bool_want (b := (decide (8 < (sh[i].length : Int)) && decide ((sh[i].length : Int) ≤ 60))) false (fun hg => ?_) (fun hg => ?_)) ?_)
    · refine st_sk rfl rfl hg ?_
      refine st_sk rfl rfl hg ?_
      refine st_sk rfl rfl hg ?_
      refine st_sk rfl rfl hg ?_
      refine st_sk rfl rfl hg ?_
      refine st_sk rfl rfl hg ?_
      refine st_v (v_pick_true (bool_ev rfl hg) rfl) ?_
      exact hcut _ (ssub_head (by first | rfl | (rw [hg]; rfl) | simp_all) (ssub_skip rfl (ssub_skip rfl (ssub_skip rfl (ssub_skip rfl (ssub_skip rfl (ssub_skip rfl (ssub_refl))))))))
    · skip
      refine st_vg rfl (bool_get rfl hg) (v_move rfl) (st_vg rfl (bool_get rfl hg) (v_move rfl) (st_vg rfl (bool_get rfl hg) (v_ixo i (congrArg some hv') rfl sl22 rfl hlt) (st_vg rfl (bool_get rfl hg) (v_ld rfl ld73) ?_)))
      refine st_vg rfl (bool_get rfl hg) (v_len rfl Try.underlying73) (st_vg rfl (bool_get rfl hg) (v_gtr rfl rfl) (st_v (v_pick_false (bool_ev rfl hg) rfl) ?_))
      exact hcut _ (ssub_head (by first | rfl | (rw [hg]; rfl) | simp_all) (ssub_skip rfl (ssub_skip rfl (ssub_skip rfl (ssub_skip rfl (ssub_skip rfl (ssub_skip rfl (ssub_refl))))))))
    refine st_nil (nx_kp [0, 3, 31] rfl (nx_then (cd_cond rfl (fun he => ?_) (fun he => ?_))))
    · skip
      have hf : sh.all fitRow = false := by
        rw [Bool.eq_false_iff]; intro hall
        have := List.all_eq_true.1 hall _ (List.getElem_mem hlt)
        unfold fitRow at this; rw [he] at this; cases this
      rw [hf, Bool.false_and]
      refine cd_seq (cd_region (st_v (v_assign rfl) (st_nil (nx_kp [0, 2, 3] rfl (nx_then (cd_ret (xt_ret_block (xt_ret_then (xt_ret_then (xt_ret_block (xt_ret_then ?_)))))))))))
      exact xt_rt rfl ⟨rfl, rfl⟩
    · skip
      refine cd_skip (xt_normal_block (xt_then (cd_region (st_v (v_move rfl) (st_v (v_add rfl rfl (by unfold I64 at *; omega)) (st_v (v_assign rfl) (st_nil (nx_kp [0, 3] rfl (nx_xt ?_)))))))))
      refine xt_ag (i + 1) ⟨hlt, by rw [List.take_succ_eq_append_getElem hlt, List.all_append, hne, Bool.true_and]; simp only [List.all_cons, List.all_nil, Bool.and_true]; unfold fitRow; rw [he]; rfl⟩ (by omega)
  · skip
    have hge : sh.length ≤ i := by simpa using hd
    rw [List.take_of_length_le hge] at hne
    rw [hne, Bool.true_and]
    refine cd_exit (xt_exit_then (xt_exit_then (xt_exit_block (xt_then (cd_seq (cd_region (st_v (v_move rfl) (st_v (v_len (congrArg some hv) Try.underlying22) (st_v (v_leq rfl rfl) (st_v (v_move rfl) (st_cut (k := 13) (d := 44) (v := .bool (decide ((sh.length : Int) ≤ 8) || (decide (60 < (sh.length : Int)) && decide ((sh.length : Int) ≤ 70)))) (fun hcut => bool_want (b := decide ((sh.length : Int) ≤ 8)) false (fun hg => ?_) (fun hg => ?_)) ?_)))))))))))
    · refine st_sk rfl rfl hg ?_
      refine st_sk rfl rfl hg ?_
      refine st_sk rfl rfl hg ?_
      refine st_sk rfl rfl hg ?_
      refine st_sku rfl rfl ?_
      refine st_sku rfl rfl ?_
      refine st_sku rfl rfl ?_
      refine st_sk rfl rfl hg ?_
      refine st_v (v_pick_true (bool_ev rfl hg) rfl) ?_
      exact hcut _ (ssub_head (by first | rfl | (rw [hg]; rfl) | simp_all) (ssub_skip rfl (ssub_skip rfl (ssub_skip rfl (ssub_skip rfl (ssub_skip rfl (ssub_skip rfl (ssub_skip rfl (ssub_skip rfl (ssub_refl))))))))))
    · skip
      refine st_vg rfl (bool_get rfl hg) (v_move rfl) (st_vg rfl (bool_get rfl hg) (v_len (congrArg some hv) Try.underlying22) (st_vg rfl (bool_get rfl hg) (v_gtr rfl rfl) (st_vg rfl (bool_get rfl hg) (v_move rfl) (st_cut (k := 12) (d := 43) (v := .bool (decide (60 < (sh.length : Int)) && decide ((sh.length : Int) ≤ 70))) (fun hcut => bool_want (b := decide (60 < (sh.length : Int))) true (fun hg1 => ?_) (fun hg1 => ?_)) ?_))))
      · refine st_sk rfl rfl hg1 ?_
        refine st_sk rfl rfl hg1 ?_
        refine st_sk rfl rfl hg1 ?_
        refine st_vg rfl (bool_get rfl hg) (v_pick_false (bool_ev rfl hg1) rfl) ?_
        exact hcut _ (ssub_head (by first | rfl | (rw [hg1]; rfl) | simp_all) (ssub_skip rfl (ssub_skip rfl (ssub_skip rfl (ssub_refl)))))
      · skip
        refine st_vg rfl (bool_get rfl hg1) (v_move rfl) (st_vg rfl (bool_get rfl hg1) (v_len (congrArg some hv) Try.underlying22) (st_vg rfl (bool_get rfl hg1) (v_leq rfl rfl) (st_vg rfl (bool_get rfl hg) (v_pick_true (bool_ev rfl hg1) rfl) ?_)))
        exact hcut _ (ssub_head (by first | rfl | (rw [hg1]; rfl) | simp_all) (ssub_skip rfl (ssub_skip rfl (ssub_skip rfl (ssub_refl)))))
      refine st_v (v_pick_false (bool_ev rfl hg) rfl) ?_
      exact hcut _ (ssub_head (by first | rfl | (rw [hg]; rfl) | simp_all) (by repeat (first | exact ssub_refl | refine ssub_skip rfl ?_)))
    refine st_v (v_assign rfl) (st_nil (nx_kp [2] rfl (nx_then (cd_ret ?_))))
    exact xt_rt rfl ⟨rfl, rfl⟩
/-- A call, as it is given. -/
structure CallV where
  k : Int
  a : Int
  b : Int
  c : Int
  roots : List Int
/-- v is a list of calls, which r holds. -/
def Calls (r : Res) (v : Value) (cs : List CallV) : Prop := ∃ a cp, v = .slice a cs.length cp ∧ (cs = [] ∨ ∃ b o, a = some ⟨b, o, none⟩ ∧ ∀ i (h : i < cs.length), ∃ u, RowI r u cs[i].roots ∧ Rds r b (o + i * 5) [.int .i64 cs[i].k, .int .i64 cs[i].a, .int .i64 cs[i].b, .int .i64 cs[i].c, u])
theorem Calls.at {r : Res} {v : Value} {cs : List CallV} (h : Calls r v cs) {i : Nat} (hi : i < cs.length) : ∃ b o cp u, v = .slice (some ⟨b, o, none⟩) cs.length cp ∧ RowI r u cs[i].roots ∧ Rds r b (o + i * 5) [.int .i64 cs[i].k, .int .i64 cs[i].a, .int .i64 cs[i].b, .int .i64 cs[i].c, u] := by
  obtain ⟨a, cp, hv, hn⟩ := h
  rcases hn with e | ⟨b, o, ha, hr⟩
  · rw [e] at hi; simp at hi
  obtain ⟨u, h1, h2⟩ := hr i hi
  exact ⟨b, o, cp, u, by rw [hv, ha], h1, h2⟩
def shortC (x : CallV) : Bool := !((decide (20 < (x.roots.length : Int)) && decide ((x.roots.length : Int) ≤ 200)) || decide (210 < (x.roots.length : Int)))
def shortp (cs : List CallV) : Bool := cs.all shortC && decide ((cs.length : Int) ≤ 60)
set_option maxRecDepth 100000 in
theorem short_ct {cs : List CallV} (h : Calls R v cs) (hl : cs.length ≤ maxLen) : Reads Try.prog 13 #[v] [R] (.bool (shortp cs)) := by
  obtain ⟨a, cp, hv, _⟩ := id h
  unfold maxLen at hl
  unfold shortp
  refine ct_of (n := 38) Try.func13 rfl rfl (len rfl) fun hr w0 => ?_
  refine cd_seq (cd_region (st_v (v_assign rfl) (st_nil (nx_then (cd_seq (cd_seq (cd_region (st_v (v_assign rfl) (st_nil (nx_then (cd_block (cd_loop (σ := Nat) (fun i => [(0, v), (3, .int .i64 (i : Nat))]) (fun _ => R :: hr) (fun i => i ≤ cs.length ∧ (cs.take i).all shortC = true) (fun i => cs.length - i) 0 ⟨Nat.zero_le _, rfl⟩ ⟨rfl, rfl, trivial⟩ (Sub.refl _) ?_))))))))))))
  rintro i ⟨hi, hne⟩
  refine cd_seq (cd_seq (cd_region (st_v (v_move rfl) (st_v (v_move rfl) (st_v (v_len (congrArg some hv) Try.underlying23) (st_v (v_lss rfl rfl) (st_nil (nx_kp [0, 3, 7] rfl (nx_then (cd_cond rfl (fun hd => ?_) (fun hd => ?_)))))))))))
  · skip
    have hlt : i < cs.length := by simpa using hd
    obtain ⟨b, o, cp', u, hv', hu, hrds⟩ := h.at hlt
    obtain ⟨ua, ucp, hue, _⟩ := id hu
    subst hue
    have hrd : Rd R ⟨b, o + i * 5 + 4, none⟩ (.slice ua cs[i].roots.length ucp) := hrds 4 (by simp)
    refine cd_skip (xt_then (cd_seq (cd_block (cd_seq (cd_region (st_v (v_move rfl) (st_v (v_move rfl) (st_v (v_indexAddr (congrArg some hv') rfl sl23 rfl hlt rfl) (st_v (v_fieldAddr rfl fa38_4 rfl) (st_v (v_ld rfl ld34) ?_))))))))))
    refine st_v (v_len rfl Try.underlying34) (st_v (v_gtr rfl rfl) (st_v (v_move rfl) (st_cut (k := 16) (d := 25) (v := .bool (decide (20 < (cs[i].roots.length : Int)) && decide ((cs[i].roots.length : Int) ≤ 200))) (fun hcut => bool_want (b := decide (20 < (cs[i].roots.length : Int))) true (fun hg => ?_) (fun hg => ?_)) ?_)))
    · refine st_sk rfl rfl hg ?_
      refine st_sk rfl rfl hg ?_
      refine st_sk rfl rfl hg ?_
      refine st_sk rfl rfl hg ?_
      refine st_sk rfl rfl hg ?_
      refine st_sk rfl rfl hg ?_
      refine st_sk rfl rfl hg ?_
      refine st_v (v_pick_false (bool_ev rfl hg) rfl) ?_
      exact hcut _ (ssub_head (by first | rfl | (rw [hg]; rfl) | simp_all) (ssub_skip rfl (ssub_skip rfl (ssub_skip rfl (ssub_skip rfl (ssub_skip rfl (ssub_skip rfl (ssub_skip rfl (ssub_refl)))))))))
    · skip
      refine st_vg rfl (bool_get rfl hg) (v_move rfl) (st_vg rfl (bool_get rfl hg) (v_move rfl) (st_vg rfl (bool_get rfl hg) (v_indexAddr (congrArg some hv') rfl sl23 rfl hlt rfl) (st_vg rfl (bool_get rfl hg) (v_fieldAddr rfl fa38_4 rfl) (st_vg rfl (bool_get rfl hg) (v_ld rfl ld34) ?_))))
      refine st_vg rfl (bool_get rfl hg) (v_len rfl Try.underlying34) (st_vg rfl (bool_get rfl hg) (v_leq rfl rfl) (st_v (v_pick_true (bool_ev rfl hg) rfl) ?_))
      exact hcut _ (ssub_head (by first | rfl | (rw [hg]; rfl) | simp_all) (ssub_skip rfl (ssub_skip rfl (ssub_skip rfl (ssub_skip rfl (ssub_skip rfl (ssub_skip rfl (ssub_skip rfl (ssub_refl)))))))))
    refine st_v (v_move rfl) (st_cut (k := 25) (d := 34) (v := .bool ((decide (20 < (cs[i].roots.length : Int)) && decide ((cs[i].roots.length : Int) ≤ 200)) || decide (210 < (cs[i].roots.length : Int)))) (fun hcut => bool_want (b := (decide (20 < (cs[i].roots.length : Int)) && decide ((cs[i].roots.length : Int) ≤ 200))) false (fun hg => ?_) (fun hg => ?_)) ?_)
    · refine st_sk rfl rfl hg ?_
      refine st_sk rfl rfl hg ?_
      refine st_sk rfl rfl hg ?_
      refine st_sk rfl rfl hg ?_
      refine st_sk rfl rfl hg ?_
      refine st_sk rfl rfl hg ?_
      refine st_sk rfl rfl hg ?_
      refine st_v (v_pick_true (bool_ev rfl hg) rfl) ?_
      exact hcut _ (ssub_head (by first | rfl | (rw [hg]; rfl) | simp_all) (ssub_skip rfl (ssub_skip rfl (ssub_skip rfl (ssub_skip rfl (ssub_skip rfl (ssub_skip rfl (ssub_skip rfl (ssub_refl)))))))))
    · skip
      refine st_vg rfl (bool_get rfl hg) (v_move rfl) (st_vg rfl (bool_get rfl hg) (v_move rfl) (st_vg rfl (bool_get rfl hg) (v_indexAddr (congrArg some hv') rfl sl23 rfl hlt rfl) (st_vg rfl (bool_get rfl hg) (v_fieldAddr rfl fa38_4 rfl) (st_vg rfl (bool_get rfl hg) (v_ld rfl ld34) ?_))))
      refine st_vg rfl (bool_get rfl hg) (v_len rfl Try.underlying34) (st_vg rfl (bool_get rfl hg) (v_gtr rfl rfl) (st_v (v_pick_false (bool_ev rfl hg) rfl) ?_))
      exact hcut _ (ssub_head (by first | rfl | (rw [hg]; rfl) | simp_all) (ssub_skip rfl (ssub_skip rfl (ssub_skip rfl (ssub_skip rfl (ssub_skip rfl (ssub_skip rfl (ssub_skip rfl (ssub_refl)))))))))
    refine st_nil (nx_kp [0, 3, 34] rfl (nx_then (cd_cond rfl (fun he => ?_) (fun he => ?_))))
    · skip
      have hf : cs.all shortC = false := by
        rw [Bool.eq_false_iff]; intro hall
        have := List.all_eq_true.1 hall _ (List.getElem_mem hlt)
        unfold shortC at this; rw [he] at this; cases this
      rw [hf, Bool.false_and]
      refine cd_seq (cd_region (st_v (v_assign rfl) (st_nil (nx_kp [0, 2, 3] rfl (nx_then (cd_ret (xt_ret_block (xt_ret_then (xt_ret_then (xt_ret_block (xt_ret_then ?_)))))))))))
      exact xt_rt rfl ⟨rfl, rfl⟩
    · skip
      refine cd_skip (xt_normal_block (xt_then (cd_region (st_v (v_move rfl) (st_v (v_add rfl rfl (by unfold I64 at *; omega)) (st_v (v_assign rfl) (st_nil (nx_kp [0, 3] rfl (nx_xt ?_)))))))))
      refine xt_ag (i + 1) ⟨hlt, by rw [List.take_succ_eq_append_getElem hlt, List.all_append, hne, Bool.true_and]; simp only [List.all_cons, List.all_nil, Bool.and_true]; unfold shortC; rw [he]; rfl⟩ (by omega)
  · skip
    have hge : cs.length ≤ i := by simpa using hd
    rw [List.take_of_length_le hge] at hne
    rw [hne, Bool.true_and]
    refine cd_exit (xt_exit_then (xt_exit_then (xt_exit_block (xt_then (cd_seq (cd_region (st_v (v_move rfl) (st_v (v_len (congrArg some hv) Try.underlying23) (st_v (v_leq rfl rfl) (st_v (v_assign rfl) (st_nil (nx_kp [2] rfl (nx_then (cd_ret ?_))))))))))))))
    exact xt_rt rfl ⟨rfl, rfl⟩
set_option maxHeartbeats 2000000 in
set_option maxRecDepth 100000 in
theorem called_ct {L : MemL} {μ : Mem} {k a b c : Int} (I : MI L μ S m) (h : AM.Good m ly ln lf φ A) (hv : RowI R v roots) (hrl : roots.length ≤ 1000000) (ha : I64 a) :
    Ct Try.prog 17 #[.pointer (some ⟨L.mb, 0, none⟩), .agg #[.int .i64 k, .int .i64 a, .int .i64 b, .int .i64 c, v]] (memSH L μ S ++ [R]) fun u h' => ∃ sl L' μ', u = .tuple #[.int .i64 (m.call (kindOf k) a b c roots).1, sl, .int .i64 (m.call (kindOf k) a b c roots).2.2.1] ∧
      MI L' μ' S (m.call (kindOf k) a b c roots).2.2.2 ∧ L'.mb = L.mb ∧ h' = vec sl 3 1 (m.call (kindOf k) a b c roots).2.1.length (ints (m.call (kindOf k) a b c roots).2.1) :: (memSH L' μ' S ++ [R]) := by
  unfold memSH
  simp only [List.cons_append, List.nil_append]
  refine ct_of (n := 79) Try.func17 rfl rfl (len rfl) fun hr w0 => ?_
  refine cd_seq (cd_region (st_bx rfl rfl fun b3 => ?_))
  refine st_v (v_assign rfl) (st_v (v_assign rfl) (st_v (v_assign rfl) (st_nil (nx_kp [0, 3, 4, 5, 6] rfl (nx_then (cd_seq (cd_region (st_v (v_assign rfl) (st_nil (nx_then (cd_seq (cd_region (st_v (v_assign rfl) (st_nil (nx_then (cd_seq (cd_region ?_)))))))))))))))))
  refine st_v (v_assign rfl) (st_nil (nx_then (cd_seq (cd_seq (cd_region (st_v (v_loadW rfl ld38 rfl (by repeat (first | exact Sel.here | apply Sel.there))) ?_))))))
  refine st_cl rfl rfl en49 rfl (kind_ct) ?_
  rintro v' h' ⟨rfl, rfl⟩
  simp only [List.cons_append, List.nil_append]
  refine st_nil (nx_kp [0, 3, 4, 5, 6, 7, 8, 9, 11] rfl (nx_then (cd_block (cd_seq (cd_region (st_v (v_eql rfl rfl) (st_v (v_assign rfl) (st_nil (nx_kp [0, 3, 4, 5, 6, 7, 8, 9, 11, 19] rfl (nx_then (cd_cond rfl (fun c0 => ?_) (fun c0 => ?_))))))))))))
  · skip
    have hk : kindOf k = 0 := by simpa using c0
    rw [show m.call (kindOf k) a b c roots = ((m.alloc a).1, [], (m.alloc a).2.1, (m.alloc a).2.2) by rw [hk]; rfl]
    refine cd_region (st_v (v_move rfl) (st_v (v_fieldAddr rfl fa38_1 rfl) (st_v (v_ld rfl ld3) ?_)))
    refine st_cl rfl rfl en33 rfl (alloc_c I h a) ?_
    rintro v' h' ⟨μ', rfl, I', rfl⟩
    simp only [memSH, List.cons_append, List.nil_append]
    refine st_v (v_move rfl) (st_v (v_extract rfl rfl) (st_v (v_extract rfl rfl) (st_v (v_assign rfl) (st_v (v_assign rfl) (st_nil (nx_kp [4, 5, 6, 7, 8, 9] rfl (nx_xt (xt_normal_block (xt_then (cd_seq (cd_region (st_v (v_move rfl) (st_v (v_move rfl) (st_v (v_move rfl) (st_v (v_assign rfl) ?_)))))))))))))))
    refine st_v (v_assign rfl) (st_v (v_assign rfl) (st_nil (nx_kp [4, 5, 6] rfl (nx_then (cd_ret (xt_vecnil 3 1 (xt_rt rfl ⟨.slice none 0 0, L, μ', rfl, I', rfl, rfl⟩ (by simp only [memSH, List.cons_append, List.nil_append]; exact (by repeat (first | exact Sub.refl _ | exact Sub.nil _ | refine Sub.sel (by repeat (first | exact Sel.here | apply Sel.there)) ?_ | apply Sub.cons))))))))))
  · skip
    refine cd_seq (cd_region (st_v (v_eql rfl rfl) (st_v (v_assign rfl) (st_nil (nx_kp [0, 3, 4, 5, 6, 7, 8, 9, 11, 28] rfl (nx_then (cd_cond rfl (fun c1 => ?_) (fun c1 => ?_))))))))
    · skip
      have hk : kindOf k = 1 := by simpa using c1
      rw [show m.call (kindOf k) a b c roots = ((m.shapeOf a).1, [], (m.shapeOf a).2, m) by rw [hk]; rfl]
      refine cd_region (st_v (v_move rfl) (st_v (v_fieldAddr rfl fa38_1 rfl) (st_v (v_ld rfl ld3) ?_)))
      refine st_cl rfl rfl en42 rfl (shape_c I h a) ?_
      rintro v' h' ⟨rfl, rfl⟩
      simp only [memSH, List.cons_append, List.nil_append]
      refine st_v (v_move rfl) (st_v (v_extract rfl rfl) (st_v (v_extract rfl rfl) (st_v (v_assign rfl) (st_v (v_assign rfl) (st_nil (nx_kp [4, 5, 6, 7, 8, 9] rfl (nx_xt (xt_normal_block (xt_then (cd_seq (cd_region (st_v (v_move rfl) (st_v (v_move rfl) (st_v (v_move rfl) (st_v (v_assign rfl) ?_)))))))))))))))
      refine st_v (v_assign rfl) (st_v (v_assign rfl) (st_nil (nx_kp [4, 5, 6] rfl (nx_then (cd_ret (xt_vecnil 3 1 (xt_rt rfl ⟨.slice none 0 0, L, μ, rfl, I, rfl, rfl⟩ (by simp only [memSH, List.cons_append, List.nil_append]; exact (by repeat (first | exact Sub.refl _ | exact Sub.nil _ | refine Sub.sel (by repeat (first | exact Sel.here | apply Sel.there)) ?_ | apply Sub.cons))))))))))
    · skip
      refine cd_seq (cd_region (st_v (v_eql rfl rfl) (st_v (v_assign rfl) (st_nil (nx_kp [0, 3, 4, 5, 6, 7, 8, 9, 11, 37] rfl (nx_then (cd_cond rfl (fun c2 => ?_) (fun c2 => ?_))))))))
      · skip
        have hk : kindOf k = 2 := by simpa using c2
        rw [show m.call (kindOf k) a b c roots = ((m.get a b).1, [], (m.get a b).2.1, (m.get a b).2.2) by rw [hk]; rfl]
        refine cd_region (st_v (v_move rfl) (st_v (v_fieldAddr rfl fa38_1 rfl) (st_v (v_ld rfl ld3) ?_)))
        refine st_v (v_fieldAddr rfl fa38_2 rfl) (st_v (v_ld rfl ld3) ?_)
        refine st_cl rfl rfl en41 rfl (get_c I h a b) ?_
        rintro v' h' ⟨μ', rfl, I', rfl⟩
        simp only [memSH, List.cons_append, List.nil_append]
        refine st_v (v_move rfl) (st_v (v_extract rfl rfl) (st_v (v_extract rfl rfl) (st_v (v_assign rfl) (st_v (v_assign rfl) (st_nil (nx_kp [4, 5, 6, 7, 8, 9] rfl (nx_xt (xt_normal_block (xt_then (cd_seq (cd_region (st_v (v_move rfl) (st_v (v_move rfl) (st_v (v_move rfl) (st_v (v_assign rfl) ?_)))))))))))))))
        refine st_v (v_assign rfl) (st_v (v_assign rfl) (st_nil (nx_kp [4, 5, 6] rfl (nx_then (cd_ret (xt_vecnil 3 1 (xt_rt rfl ⟨.slice none 0 0, L, μ', rfl, I', rfl, rfl⟩ (by simp only [memSH, List.cons_append, List.nil_append]; exact (by repeat (first | exact Sub.refl _ | exact Sub.nil _ | refine Sub.sel (by repeat (first | exact Sel.here | apply Sel.there)) ?_ | apply Sub.cons))))))))))
      · skip
        refine cd_seq (cd_region (st_v (v_eql rfl rfl) (st_v (v_assign rfl) (st_nil (nx_kp [0, 3, 4, 5, 6, 7, 8, 9, 11, 48] rfl (nx_then (cd_cond rfl (fun c3 => ?_) (fun c3 => ?_))))))))
        · skip
          have hk : kindOf k = 3 := by simpa using c3
          rw [show m.call (kindOf k) a b c roots = (0, [], (m.set a b c).1, (m.set a b c).2) by rw [hk]; rfl]
          refine cd_region (st_v (v_move rfl) (st_v (v_fieldAddr rfl fa38_1 rfl) (st_v (v_ld rfl ld3) ?_)))
          refine st_v (v_fieldAddr rfl fa38_2 rfl) (st_v (v_ld rfl ld3) ?_)
          refine st_v (v_fieldAddr rfl fa38_3 rfl) (st_v (v_ld rfl ld3) ?_)
          refine st_cl rfl rfl en40 rfl (set_c I h a b c) ?_
          rintro v' h' ⟨L', μ', rfl, I', hL, rfl⟩
          simp only [memSH, List.cons_append, List.nil_append]
          refine st_v (v_assign rfl) (st_nil (nx_kp [4, 5, 6, 7, 8, 9] rfl (nx_xt (xt_normal_block (xt_then (cd_seq (cd_region (st_v (v_move rfl) (st_v (v_move rfl) (st_v (v_move rfl) (st_v (v_assign rfl) (st_v (v_assign rfl) (st_v (v_assign rfl) (st_nil (nx_kp [4, 5, 6] rfl (nx_then (cd_ret ?_)))))))))))))))))
          refine xt_vecnil 3 1 (xt_rt rfl ⟨.slice none 0 0, L', μ', rfl, I', hL, rfl⟩ (by simp only [memSH, List.cons_append, List.nil_append]; exact (by repeat (first | exact Sub.refl _ | exact Sub.nil _ | refine Sub.sel (by repeat (first | exact Sel.here | apply Sel.there)) ?_ | apply Sub.cons))))
        · skip
          refine cd_seq (cd_region (st_v (v_eql rfl rfl) (st_v (v_assign rfl) (st_nil (nx_kp [0, 3, 4, 5, 6, 7, 8, 9, 11, 58] rfl (nx_then (cd_cond rfl (fun c4 => ?_) (fun c4 => ?_))))))))
          · skip
            have hk : kindOf k = 4 := by simpa using c4
            rw [show m.call (kindOf k) a b c roots = (0, (m.minor roots).1, (m.minor roots).2.1, (m.minor roots).2.2) by rw [hk]; rfl]
            refine cd_region (st_v (v_move rfl) (st_v (v_fieldAddr rfl fa38_4 rfl) (st_v (v_ld rfl ld34) ?_)))
            refine st_cl rfl rfl en34 rfl (minor_c I h hv hrl) ?_
            rintro v' h' ⟨sl, L', μ', rfl, I', hL, rfl⟩
            simp only [memSH, List.cons_append, List.nil_append]
            refine st_v (v_move rfl) (st_v (v_extract rfl rfl) (st_v (v_extract rfl rfl) (st_v (v_assign rfl) (st_v (v_assign rfl) (st_nil (nx_kp [4, 5, 6, 7, 8, 9] rfl (nx_xt (xt_normal_block (xt_then (cd_seq (cd_region (st_v (v_move rfl) (st_v (v_move rfl) (st_v (v_move rfl) (st_v (v_assign rfl) ?_)))))))))))))))
            refine st_v (v_assign rfl) (st_v (v_assign rfl) (st_nil (nx_kp [4, 5, 6] rfl (nx_then (cd_ret (xt_rt rfl ⟨sl, L', μ', rfl, I', hL, rfl⟩ (by simp only [memSH, List.cons_append, List.nil_append]; exact (by repeat (first | exact Sub.refl _ | exact Sub.nil _ | refine Sub.sel (by repeat (first | exact Sel.here | apply Sel.there)) ?_ | apply Sub.cons)))))))))
          · skip
            refine cd_seq (cd_region (st_v (v_eql rfl rfl) (st_v (v_assign rfl) (st_nil (nx_kp [0, 3, 4, 5, 6, 7, 8, 9, 67] rfl (nx_then (cd_cond rfl (fun c5 => ?_) (fun c5 => ?_))))))))
            · skip
              have hk : kindOf k = 5 := by simpa using c5
              rw [show m.call (kindOf k) a b c roots = (0, (m.flip roots).1, (m.flip roots).2.1, (m.flip roots).2.2) by rw [hk]; rfl]
              refine cd_region (st_v (v_move rfl) (st_v (v_fieldAddr rfl fa38_4 rfl) (st_v (v_ld rfl ld34) ?_)))
              refine st_cl rfl rfl en43 rfl (flip_c I h hv hrl) ?_
              rintro v' h' ⟨sl, L', μ', rfl, I', hL, rfl⟩
              simp only [memSH, List.cons_append, List.nil_append]
              refine st_v (v_move rfl) (st_v (v_extract rfl rfl) (st_v (v_extract rfl rfl) (st_v (v_assign rfl) (st_v (v_assign rfl) (st_nil (nx_kp [4, 5, 6, 7, 8, 9] rfl (nx_xt (xt_normal_block (xt_then (cd_seq (cd_region (st_v (v_move rfl) (st_v (v_move rfl) (st_v (v_move rfl) (st_v (v_assign rfl) ?_)))))))))))))))
              refine st_v (v_assign rfl) (st_v (v_assign rfl) (st_nil (nx_kp [4, 5, 6] rfl (nx_then (cd_ret (xt_rt rfl ⟨sl, L', μ', rfl, I', hL, rfl⟩ (by simp only [memSH, List.cons_append, List.nil_append]; exact (by repeat (first | exact Sub.refl _ | exact Sub.nil _ | refine Sub.sel (by repeat (first | exact Sel.here | apply Sel.there)) ?_ | apply Sub.cons)))))))))
            · skip
              refine cd_region (st_v (v_move rfl) (st_v (v_fieldAddr rfl fa38_1 rfl) (st_v (v_ld rfl ld3) ?_)))
              have hk : m.call (kindOf k) a b c roots = ((m.step a).1, [], (m.step a).2.1, (m.step a).2.2) := by
                simp only [beq_eq_false_iff_ne, ne_eq] at c0 c1 c2 c3 c4 c5
                unfold AM.call
                rw [if_neg c0, if_neg c1, if_neg c2, if_neg c3, if_neg c4, if_neg c5]
              rw [hk]
              refine st_cl rfl rfl en31 rfl (step_c I h a ha) ?_
              rintro v' h' ⟨L', μ', rfl, I', hL, rfl⟩
              simp only [memSH, List.cons_append, List.nil_append]
              refine st_v (v_move rfl) (st_v (v_extract rfl rfl) (st_v (v_extract rfl rfl) (st_v (v_assign rfl) (st_v (v_assign rfl) (st_nil (nx_kp [4, 5, 6, 7, 8, 9] rfl (nx_xt (xt_normal_block (xt_then (cd_seq (cd_region (st_v (v_move rfl) (st_v (v_move rfl) (st_v (v_move rfl) (st_v (v_assign rfl) ?_)))))))))))))))
              refine st_v (v_assign rfl) (st_v (v_assign rfl) (st_nil (nx_kp [4, 5, 6] rfl (nx_then (cd_ret (xt_vecnil 3 1 (xt_rt rfl ⟨.slice none 0 0, L', μ', rfl, I', hL, rfl⟩ (by simp only [memSH, List.cons_append, List.nil_append]; exact (by repeat (first | exact Sub.refl _ | exact Sub.nil _ | refine Sub.sel (by repeat (first | exact Sel.here | apply Sel.there)) ?_ | apply Sub.cons))))))))))
set_option maxHeartbeats 2000000 in
set_option maxRecDepth 100000 in
theorem specified_ct {L : RL} {k a b c : Int} (hS : Shp S L.vs m.sh) (h : AM.Good m ly ln lf φ A) (hv : RowI S v roots) (hrl : roots.length ≤ 1000000) (ha : I64 a) :
    Ct Try.prog 18 #[.pointer (some ⟨L.hb, 0, none⟩), .agg #[.int .i64 k, .int .i64 a, .int .i64 b, .int .i64 c, v]] (rSH L m S) fun u h' => ∃ sl vk, u = .tuple #[.int .i64 (m.call (kindOf k) a b c roots).1, sl, .int .i64 (m.call (kindOf k) a b c roots).2.2.1] ∧
      h' = vec sl 3 1 (m.call (kindOf k) a b c roots).2.1.length (ints (m.call (kindOf k) a b c roots).2.1) :: (rSH { L with vk := vk } (m.call (kindOf k) a b c roots).2.2.2 S) := by
  unfold rSH
  refine ct_of (n := 79) Try.func18 rfl rfl (len rfl) fun hr w0 => ?_
  refine cd_seq (cd_region (st_bx rfl rfl fun b3 => ?_))
  refine st_v (v_assign rfl) (st_v (v_assign rfl) (st_v (v_assign rfl) (st_nil (nx_kp [0, 3, 4, 5, 6] rfl (nx_then (cd_seq (cd_region (st_v (v_assign rfl) (st_nil (nx_then (cd_seq (cd_region (st_v (v_assign rfl) (st_nil (nx_then (cd_seq (cd_region ?_)))))))))))))))))
  refine st_v (v_assign rfl) (st_nil (nx_then (cd_seq (cd_seq (cd_region (st_v (v_loadW rfl ld38 rfl (by repeat (first | exact Sel.here | apply Sel.there))) ?_))))))
  refine st_cl rfl rfl en49 rfl (kind_ct) ?_
  rintro v' h' ⟨rfl, rfl⟩
  simp only [List.cons_append, List.nil_append]
  refine st_nil (nx_kp [0, 3, 4, 5, 6, 7, 8, 9, 11] rfl (nx_then (cd_block (cd_seq (cd_region (st_v (v_eql rfl rfl) (st_v (v_assign rfl) (st_nil (nx_kp [0, 3, 4, 5, 6, 7, 8, 9, 11, 19] rfl (nx_then (cd_cond rfl (fun c0 => ?_) (fun c0 => ?_))))))))))))
  · skip
    have hk : kindOf k = 0 := by simpa using c0
    rw [show m.call (kindOf k) a b c roots = ((m.alloc a).1, [], (m.alloc a).2.1, (m.alloc a).2.2) by rw [hk]; rfl]
    refine cd_region (st_v (v_move rfl) (st_v (v_fieldAddr rfl fa38_1 rfl) (st_v (v_ld rfl ld3) ?_)))
    refine st_cl rfl rfl en50 rfl (ralloc_ct (L := L) (m := m) (S := S) hS h.g a) ?_
    rintro v' h' ⟨rfl, rfl⟩
    simp only [rSH, List.cons_append, List.nil_append]
    refine st_v (v_move rfl) (st_v (v_extract rfl rfl) (st_v (v_extract rfl rfl) (st_v (v_assign rfl) (st_v (v_assign rfl) (st_nil (nx_kp [4, 5, 6, 7, 8, 9] rfl (nx_xt (xt_normal_block (xt_then (cd_seq (cd_region (st_v (v_move rfl) (st_v (v_move rfl) (st_v (v_move rfl) (st_v (v_assign rfl) ?_)))))))))))))))
    refine st_v (v_assign rfl) (st_v (v_assign rfl) (st_nil (nx_kp [4, 5, 6] rfl (nx_then (cd_ret (xt_vecnil 3 1 (xt_rt rfl ⟨.slice none 0 0, L.vk, rfl, rfl⟩ (by simp only [rSH, List.cons_append, List.nil_append]; exact (by repeat (first | exact Sub.refl _ | exact Sub.nil _ | refine Sub.sel (by repeat (first | exact Sel.here | apply Sel.there)) ?_ | apply Sub.cons))))))))))
  · skip
    refine cd_seq (cd_region (st_v (v_eql rfl rfl) (st_v (v_assign rfl) (st_nil (nx_kp [0, 3, 4, 5, 6, 7, 8, 9, 11, 28] rfl (nx_then (cd_cond rfl (fun c1 => ?_) (fun c1 => ?_))))))))
    · skip
      have hk : kindOf k = 1 := by simpa using c1
      rw [show m.call (kindOf k) a b c roots = ((m.shapeOf a).1, [], (m.shapeOf a).2, m) by rw [hk]; rfl]
      refine cd_region (st_v (v_move rfl) (st_v (v_fieldAddr rfl fa38_1 rfl) (st_v (v_ld rfl ld3) ?_)))
      refine st_clr rfl rfl en51 rfl (rshapeOf_ct (L := L) (m := m) (S := S) hS h.g) ?_
      refine st_v (v_move rfl) (st_v (v_extract rfl rfl) (st_v (v_extract rfl rfl) (st_v (v_assign rfl) (st_v (v_assign rfl) (st_nil (nx_kp [4, 5, 6, 7, 8, 9] rfl (nx_xt (xt_normal_block (xt_then (cd_seq (cd_region (st_v (v_move rfl) (st_v (v_move rfl) (st_v (v_move rfl) (st_v (v_assign rfl) ?_)))))))))))))))
      refine st_v (v_assign rfl) (st_v (v_assign rfl) (st_nil (nx_kp [4, 5, 6] rfl (nx_then (cd_ret (xt_vecnil 3 1 (xt_rt rfl ⟨.slice none 0 0, L.vk, rfl, rfl⟩ (by simp only [rSH, List.cons_append, List.nil_append]; exact (by repeat (first | exact Sub.refl _ | exact Sub.nil _ | refine Sub.sel (by repeat (first | exact Sel.here | apply Sel.there)) ?_ | apply Sub.cons))))))))))
    · skip
      refine cd_seq (cd_region (st_v (v_eql rfl rfl) (st_v (v_assign rfl) (st_nil (nx_kp [0, 3, 4, 5, 6, 7, 8, 9, 11, 37] rfl (nx_then (cd_cond rfl (fun c2 => ?_) (fun c2 => ?_))))))))
      · skip
        have hk : kindOf k = 2 := by simpa using c2
        rw [show m.call (kindOf k) a b c roots = ((m.get a b).1, [], (m.get a b).2.1, (m.get a b).2.2) by rw [hk]; rfl]
        refine cd_region (st_v (v_move rfl) (st_v (v_fieldAddr rfl fa38_1 rfl) (st_v (v_ld rfl ld3) ?_)))
        refine st_v (v_fieldAddr rfl fa38_2 rfl) (st_v (v_ld rfl ld3) ?_)
        refine st_cl rfl rfl en52 rfl (rget_ct (L := L) (m := m) (S := S) hS h a b) ?_
        rintro v' h' ⟨rfl, rfl⟩
        simp only [rSH, List.cons_append, List.nil_append]
        refine st_v (v_move rfl) (st_v (v_extract rfl rfl) (st_v (v_extract rfl rfl) (st_v (v_assign rfl) (st_v (v_assign rfl) (st_nil (nx_kp [4, 5, 6, 7, 8, 9] rfl (nx_xt (xt_normal_block (xt_then (cd_seq (cd_region (st_v (v_move rfl) (st_v (v_move rfl) (st_v (v_move rfl) (st_v (v_assign rfl) ?_)))))))))))))))
        refine st_v (v_assign rfl) (st_v (v_assign rfl) (st_nil (nx_kp [4, 5, 6] rfl (nx_then (cd_ret (xt_vecnil 3 1 (xt_rt rfl ⟨.slice none 0 0, L.vk, rfl, rfl⟩ (by simp only [rSH, List.cons_append, List.nil_append]; exact (by repeat (first | exact Sub.refl _ | exact Sub.nil _ | refine Sub.sel (by repeat (first | exact Sel.here | apply Sel.there)) ?_ | apply Sub.cons))))))))))
      · skip
        refine cd_seq (cd_region (st_v (v_eql rfl rfl) (st_v (v_assign rfl) (st_nil (nx_kp [0, 3, 4, 5, 6, 7, 8, 9, 11, 48] rfl (nx_then (cd_cond rfl (fun c3 => ?_) (fun c3 => ?_))))))))
        · skip
          have hk : kindOf k = 3 := by simpa using c3
          rw [show m.call (kindOf k) a b c roots = (0, [], (m.set a b c).1, (m.set a b c).2) by rw [hk]; rfl]
          refine cd_region (st_v (v_move rfl) (st_v (v_fieldAddr rfl fa38_1 rfl) (st_v (v_ld rfl ld3) ?_)))
          refine st_v (v_fieldAddr rfl fa38_2 rfl) (st_v (v_ld rfl ld3) ?_)
          refine st_v (v_fieldAddr rfl fa38_3 rfl) (st_v (v_ld rfl ld3) ?_)
          refine st_cl rfl rfl en53 rfl (rset_ct (L := L) (m := m) (S := S) hS h a b c) ?_
          rintro v' h' ⟨rfl, vk, rfl⟩
          simp only [rSH, List.cons_append, List.nil_append]
          refine st_v (v_assign rfl) (st_nil (nx_kp [4, 5, 6, 7, 8, 9] rfl (nx_xt (xt_normal_block (xt_then (cd_seq (cd_region (st_v (v_move rfl) (st_v (v_move rfl) (st_v (v_move rfl) (st_v (v_assign rfl) (st_v (v_assign rfl) (st_v (v_assign rfl) (st_nil (nx_kp [4, 5, 6] rfl (nx_then (cd_ret ?_)))))))))))))))))
          refine xt_vecnil 3 1 (xt_rt rfl ⟨.slice none 0 0, vk, rfl, rfl⟩ (by simp only [rSH, List.cons_append, List.nil_append]; exact (by repeat (first | exact Sub.refl _ | exact Sub.nil _ | refine Sub.sel (by repeat (first | exact Sel.here | apply Sel.there)) ?_ | apply Sub.cons))))
        · skip
          refine cd_seq (cd_region (st_v (v_eql rfl rfl) (st_v (v_assign rfl) (st_nil (nx_kp [0, 3, 4, 5, 6, 7, 8, 9, 11, 58] rfl (nx_then (cd_cond rfl (fun c4 => ?_) (fun c4 => ?_))))))))
          · skip
            have hk : kindOf k = 4 := by simpa using c4
            rw [show m.call (kindOf k) a b c roots = (0, (m.minor roots).1, (m.minor roots).2.1, (m.minor roots).2.2) by rw [hk]; rfl]
            refine cd_region (st_v (v_move rfl) (st_v (v_fieldAddr rfl fa38_4 rfl) (st_v (v_ld rfl ld34) ?_)))
            refine st_cl rfl rfl en54 rfl (rminor_ct (L := L) (m := m) (S := S) hS h hv hrl) ?_
            rintro v' h' ⟨sl, vk, rfl, rfl⟩
            simp only [rSH, List.cons_append, List.nil_append]
            refine st_v (v_move rfl) (st_v (v_extract rfl rfl) (st_v (v_extract rfl rfl) (st_v (v_assign rfl) (st_v (v_assign rfl) (st_nil (nx_kp [4, 5, 6, 7, 8, 9] rfl (nx_xt (xt_normal_block (xt_then (cd_seq (cd_region (st_v (v_move rfl) (st_v (v_move rfl) (st_v (v_move rfl) (st_v (v_assign rfl) ?_)))))))))))))))
            refine st_v (v_assign rfl) (st_v (v_assign rfl) (st_nil (nx_kp [4, 5, 6] rfl (nx_then (cd_ret (xt_rt rfl ⟨sl, vk, rfl, rfl⟩ (by simp only [rSH, List.cons_append, List.nil_append]; exact (by repeat (first | exact Sub.refl _ | exact Sub.nil _ | refine Sub.sel (by repeat (first | exact Sel.here | apply Sel.there)) ?_ | apply Sub.cons)))))))))
          · skip
            refine cd_seq (cd_region (st_v (v_eql rfl rfl) (st_v (v_assign rfl) (st_nil (nx_kp [0, 3, 4, 5, 6, 7, 8, 9, 67] rfl (nx_then (cd_cond rfl (fun c5 => ?_) (fun c5 => ?_))))))))
            · skip
              have hk : kindOf k = 5 := by simpa using c5
              rw [show m.call (kindOf k) a b c roots = (0, (m.flip roots).1, (m.flip roots).2.1, (m.flip roots).2.2) by rw [hk]; rfl]
              refine cd_region (st_v (v_move rfl) (st_v (v_fieldAddr rfl fa38_4 rfl) (st_v (v_ld rfl ld34) ?_)))
              refine st_cl rfl rfl en55 rfl (rflip_ct (L := L) (m := m) (S := S) hS h hv hrl) ?_
              rintro v' h' ⟨sl, vk, rfl, rfl⟩
              simp only [rSH, List.cons_append, List.nil_append]
              refine st_v (v_move rfl) (st_v (v_extract rfl rfl) (st_v (v_extract rfl rfl) (st_v (v_assign rfl) (st_v (v_assign rfl) (st_nil (nx_kp [4, 5, 6, 7, 8, 9] rfl (nx_xt (xt_normal_block (xt_then (cd_seq (cd_region (st_v (v_move rfl) (st_v (v_move rfl) (st_v (v_move rfl) (st_v (v_assign rfl) ?_)))))))))))))))
              refine st_v (v_assign rfl) (st_v (v_assign rfl) (st_nil (nx_kp [4, 5, 6] rfl (nx_then (cd_ret (xt_rt rfl ⟨sl, vk, rfl, rfl⟩ (by simp only [rSH, List.cons_append, List.nil_append]; exact (by repeat (first | exact Sub.refl _ | exact Sub.nil _ | refine Sub.sel (by repeat (first | exact Sel.here | apply Sel.there)) ?_ | apply Sub.cons)))))))))
            · skip
              refine cd_region (st_v (v_move rfl) (st_v (v_fieldAddr rfl fa38_1 rfl) (st_v (v_ld rfl ld3) ?_)))
              have hk : m.call (kindOf k) a b c roots = ((m.step a).1, [], (m.step a).2.1, (m.step a).2.2) := by
                simp only [beq_eq_false_iff_ne, ne_eq] at c0 c1 c2 c3 c4 c5
                unfold AM.call
                rw [if_neg c0, if_neg c1, if_neg c2, if_neg c3, if_neg c4, if_neg c5]
              rw [hk]
              refine st_cl rfl rfl en56 rfl (rstep_ct (L := L) (m := m) (S := S) hS h ha) ?_
              rintro v' h' ⟨rfl, rfl⟩
              simp only [rSH, List.cons_append, List.nil_append]
              refine st_v (v_move rfl) (st_v (v_extract rfl rfl) (st_v (v_extract rfl rfl) (st_v (v_assign rfl) (st_v (v_assign rfl) (st_nil (nx_kp [4, 5, 6, 7, 8, 9] rfl (nx_xt (xt_normal_block (xt_then (cd_seq (cd_region (st_v (v_move rfl) (st_v (v_move rfl) (st_v (v_move rfl) (st_v (v_assign rfl) ?_)))))))))))))))
              refine st_v (v_assign rfl) (st_v (v_assign rfl) (st_nil (nx_kp [4, 5, 6] rfl (nx_then (cd_ret (xt_vecnil 3 1 (xt_rt rfl ⟨.slice none 0 0, L.vk, rfl, rfl⟩ (by simp only [rSH, List.cons_append, List.nil_append]; exact (by repeat (first | exact Sub.refl _ | exact Sub.nil _ | refine Sub.sel (by repeat (first | exact Sel.here | apply Sel.there)) ?_ | apply Sub.cons))))))))))
end
end Go.Proofs.Ytmhmpjgkkpbnnaa
namespace Go.Ck
open Go
section
variable {P : Program} {e : Env} {h h' : SH} {ty : TypeId}
theorem v_neq_self {t t' : TypeId} {x y : Operand} {k : IntKind} {a : Int} (hx : e.ev? x = some (.int k a)) (hy : e.ev? y = some (.int k a)) : Vop P e h (.binOp .neq t x y t') ty (.bool false) := by
  have := v_neq (P := P) (h := h) (ty := ty) (t := t) (t' := t') hx hy
  rwa [bne_self_eq_false] at this
theorem v_neqb_self {T t' : TypeId} {x y : Operand} {a : Bool} (hT : P.underlying T = some .bool) (hx : e.ev? x = some (.bool a)) (hy : e.ev? y = some (.bool a)) : Vop P e h (.binOp .neq T x y t') ty (.bool false) := by
  have := v_neq_bool (P := P) (h := h) (ty := ty) (t' := t') hT hx hy
  rwa [beq_self_eq_true] at this
theorem v_neqi_self {T t' : TypeId} {x y : Operand} {n : Nat} {xs : List Int} (hE : EqI P T n) (hx : e.ev? x = some (.agg (ints xs).toArray)) (hy : e.ev? y = some (.agg (ints xs).toArray)) (hxn : xs.length = n) : Vop P e h (.binOp .neq T x y t') ty (.bool false) := by
  have := v_neq_ints (P := P) (h := h) (ty := ty) (t' := t') hE hx hy hxn hxn
  rwa [beq_self_eq_true] at this
theorem rds_pre {b : Nat} {vs ws : List Value} {E : TypeId} : Rds (pt b (cl (vs ++ ws) E)) b 0 vs := fun i hi => rd_cl (by rw [Nat.zero_add, List.getElem?_append_left hi, List.getElem?_eq_getElem hi])
end
end Go.Ck
namespace Go.Proofs.Ytmhmpjgkkpbnnaa
open Go.Ck Fx Go.Hm Go.Hm.AM
theorem alloc_sh (m : AM) (s : Int) : (m.alloc s).2.2.sh = m.sh := by unfold AM.alloc; split; rfl; simp only; split <;> rfl
theorem fwdL_sh (y : Bool) : ∀ (l : List Int) (m : AM), (AM.fwdL y l m).2.sh = m.sh
  | [], _ => rfl
  | v :: t, m => (fwdL_sh y t _).trans (fwd_sh' (m := m) y v)
theorem fwdP_sh (y : Bool) : ∀ (l : List Int) (m : AM), (AM.fwdP y l m).sh = m.sh
  | [], _ => rfl
  | p :: t, m => (fwdP_sh y t _).trans (fwd_sh' (m := m) y (m.word p))
theorem look_sh (y : Bool) : ∀ (k : Nat) (a : Int) (m : AM), (AM.look y k a m).sh = m.sh
  | 0, _, _ => rfl
  | k + 1, a, m => by
    show (if _ then _ else _ : AM).sh = _
    split
    · exact (look_sh y k _ _).trans (fwdP_sh y _ _)
    · rfl
theorem minor_sh (m : AM) (roots : List Int) : (m.minor roots).2.2.sh = m.sh := by
  unfold AM.minor
  split
  · rfl
  · exact (look_sh true _ _ _).trans ((fwdP_sh true _ _).trans (fwdL_sh true roots m))
theorem flip_sh (m : AM) (roots : List Int) : (m.flip roots).2.2.sh = m.sh := by
  unfold AM.flip
  split
  · rfl
  · simp only
    split
    · exact minor_sh m roots
    · exact (fwdL_sh false _ _).trans (minor_sh m roots)
theorem call_sh (m : AM) (k a b c : Int) (roots : List Int) : (m.call k a b c roots).2.2.2.sh = m.sh := by
  unfold AM.call
  split; exact alloc_sh m a
  split; rfl
  split; exact get_sh (m := m) a b
  split; exact set_sh (m := m) a b c
  split; exact minor_sh m roots
  split; exact flip_sh m roots
  exact step_sh (m := m) a
theorem minor_len (m : AM) (roots : List Int) : (m.minor roots).1.length ≤ roots.length := by
  unfold AM.minor
  split
  · exact Nat.zero_le _
  · exact Nat.le_of_eq (fwdL_len true roots m)
theorem flip_len (m : AM) (roots : List Int) : (m.flip roots).1.length ≤ roots.length := by
  unfold AM.flip
  split
  · exact Nat.zero_le _
  · simp only
    split
    · exact Nat.zero_le _
    · exact Nat.le_trans (Nat.le_of_eq (fwdL_len false _ _)) (minor_len m roots)
theorem call_len (m : AM) (k a b c : Int) (roots : List Int) : (m.call k a b c roots).2.1.length ≤ roots.length := by
  unfold AM.call
  split; exact Nat.zero_le _
  split; exact Nat.zero_le _
  split; exact Nat.zero_le _
  split; exact Nat.zero_le _
  split; exact minor_len m roots
  split; exact flip_len m roots
  exact Nat.zero_le _
theorem pictured_sz {m : AM} (h : Fine m) {roots : List Int} (hr : roots.length ≤ 1000000) : PicSz (m.pictured roots).1 := by
  obtain ⟨ly, ln, lf, φ, A, g⟩ := h
  unfold AM.pictured
  by_cases hro : m.rooted roots ≠ 0
  · rw [if_pos hro]; exact ⟨Nat.zero_le _, Nat.zero_le _, Nat.zero_le _, fun x hx => by cases hx⟩
  · rw [if_neg hro]
    have hro : m.rooted roots = 0 := by simpa using hro
    have hp : PM (AM.Obj ly ln lf) (roots.foldl pmeet []) := PM.meets _ PM.nil (g.root_obj hro)
    obtain ⟨hM, _⟩ := met_pm g hp
    have hl := g.g.pm_len hM
    have hT := g.g.T_le
    obtain ⟨p1, p2, p3⟩ := pic_parts m roots
    refine ⟨by rw [p1, List.length_map]; omega, by rw [p3, List.length_map]; omega, by rw [p2, List.length_map]; omega, fun x hx => ?_⟩
    rw [p2] at hx
    obtain ⟨t, ht, rfl⟩ := List.mem_map.1 hx
    rw [prow_len]
    have := (ob_obj g.g (hM.s t ht)).len g.g.sz
    omega
theorem PicV.star {k k' : SH} {r : Res} {sv fv rv : Value} {p : Pic} (s : Sel k r k') (h : PicV r sv fv rv p) : PicV (Res.star k) sv fv rv p := by
  refine ⟨h.ps.star s, h.pr.star s, ?_⟩
  obtain ⟨a, cp, h1, h2 | ⟨b, o, h3, h4⟩⟩ := h.pf
  · exact ⟨a, cp, h1, .inl h2⟩
  · exact ⟨a, cp, h1, .inr ⟨b, o, h3, fun i hi => by
      obtain ⟨u, g1, g2⟩ := h4 i hi
      exact ⟨u, rd_star s g1, g2.star s⟩⟩⟩
theorem fine_new {sh : List (List Bool)} {half young : Int} (h : newErr sh half young = 0) : Fine (AM.new' sh half young) := by
  unfold newErr at h
  split at h
  · cases h
  · rename_i h1
    split at h
    · cases h
    · rename_i h2
      simp only [Bool.or_eq_true, decide_eq_true_eq, not_or, bne_iff_ne, ne_eq, Decidable.not_not] at h1 h2
      obtain ⟨⟨hz, ha⟩, hb⟩ := h1
      unfold sized at hz
      by_cases hq : (decide (60 < (sh.length : Int)) || sh.any long) = true
      · rw [if_pos hq] at hz; cases hz
      · simp only [Bool.or_eq_true, decide_eq_true_eq, not_or, List.any_eq_true, not_exists, not_and] at hq
        exact ⟨_, _, _, _, _, Good.new (by omega) (by omega) (by omega) (by omega) (by omega) (fun l hl => by have := hq.2 l hl; unfold long at this; simp at this; omega)⟩
theorem samePic_self (p : Pic) : samePic p p = true := by unfold samePic; simp
attribute [local irreducible] St Cd Xt Nx DrL LsW
section
variable {R : Res} {v0 v3 : Value} {sh : List (List Bool)} {cs : List CallV} {half young : Int}
set_option maxHeartbeats 4000000 in
set_option maxRecDepth 100000 in
theorem heapCalls_c (hS : Shp R v0 sh) (hC : Calls R v3 cs) (hs0 : sh.length ≤ maxLen) (hc0 : cs.length ≤ maxLen) (ha : ∀ x ∈ cs, I64 x.a) : Ct Try.prog 3 #[v0, .int .i64 half, .int .i64 young, v3] [R] fun u h' => u = .bool true ∧ h' = [R] := by
  obtain ⟨ca, ccp, hcv, _⟩ := id hC
  have hc1 : cs.length ≤ 9223372036854775807 := hc0
  refine ct_of (n := 172) Try.func3 rfl rfl (len rfl) fun hr w0 => ?_
  simp only [List.cons_append, List.nil_append]
  refine cd_seq (cd_region (st_v (v_assign rfl) (st_nil (nx_then (cd_seq (cd_seq (cd_region (st_v (v_move rfl) (st_clr rfl rfl en12 rfl (fit_ct hS hs0) ?_)))))))))
  refine st_v (v_not rfl) (st_v (v_move rfl) (st_cut (k := 8) (d := 32) (v := .bool (!(fitp sh) || !(shortp cs))) (fun hcut => bool_want (b := !(fitp sh)) false (fun hg => ?_) (fun hg => ?_)) ?_))
  · refine st_sk rfl rfl hg ?_
    refine st_sk rfl rfl hg ?_
    refine st_sk rfl rfl hg ?_
    refine st_v (v_pick_true (bool_ev rfl hg) rfl) ?_
    exact hcut _ (ssub_head (by first | rfl | (rw [hg]; rfl) | simp_all) (ssub_skip rfl (ssub_skip rfl (ssub_skip rfl (ssub_refl)))))
  · skip
    refine st_vg rfl (bool_get rfl hg) (v_move rfl) (st_clrg rfl (bool_get rfl hg) rfl rfl en13 rfl (short_ct hC hc0) ?_)
    refine st_vg rfl (bool_get rfl hg) (v_not rfl) (st_v (v_pick_false (bool_ev rfl hg) rfl) ?_)
    exact hcut _ (ssub_head (by first | rfl | (rw [hg]; rfl) | simp_all) (ssub_skip rfl (ssub_skip rfl (ssub_skip rfl (ssub_refl)))))
  refine st_v (v_move rfl) (st_cut (k := 16) (d := 40) (v := .bool ((!(fitp sh) || !(shortp cs)) || (decide (200 < half) && decide (half ≤ 4096)))) (fun hcut => bool_want (b := (!(fitp sh) || !(shortp cs))) false (fun hg => ?_) (fun hg => ?_)) ?_)
  · refine st_sk rfl rfl hg ?_
    refine st_sk rfl rfl hg ?_
    refine st_sk rfl rfl hg ?_
    refine st_sku rfl rfl ?_
    refine st_sku rfl rfl ?_
    refine st_sk rfl rfl hg ?_
    refine st_v (v_pick_true (bool_ev rfl hg) rfl) ?_
    exact hcut _ (ssub_head (by first | rfl | (rw [hg]; rfl) | simp_all) (ssub_skip rfl (ssub_skip rfl (ssub_skip rfl (ssub_skip rfl (ssub_skip rfl (ssub_skip rfl (ssub_refl))))))))
  · skip
    refine st_vg rfl (bool_get rfl hg) (v_move rfl) (st_vg rfl (bool_get rfl hg) (v_gtr rfl rfl) (st_vg rfl (bool_get rfl hg) (v_move rfl) (st_cut (k := 15) (d := 39) (v := .bool (decide (200 < half) && decide (half ≤ 4096))) (fun hcut => bool_want (b := decide (200 < half)) true (fun hg1 => ?_) (fun hg1 => ?_)) ?_)))
    · refine st_sk rfl rfl hg1 ?_
      refine st_sk rfl rfl hg1 ?_
      refine st_vg rfl (bool_get rfl hg) (v_pick_false (bool_ev rfl hg1) rfl) ?_
      exact hcut _ (ssub_head (by first | rfl | (rw [hg1]; rfl) | simp_all) (ssub_skip rfl (ssub_skip rfl (ssub_refl))))
    · skip
      refine st_vg rfl (bool_get rfl hg1) (v_move rfl) (st_vg rfl (bool_get rfl hg1) (v_leq rfl rfl) (st_vg rfl (bool_get rfl hg) (v_pick_true (bool_ev rfl hg1) rfl) ?_))
      exact hcut _ (ssub_head (by first | rfl | (rw [hg1]; rfl) | simp_all) (ssub_skip rfl (ssub_skip rfl (ssub_refl))))
    refine st_v (v_pick_false (bool_ev rfl hg) rfl) ?_
    exact hcut _ (ssub_head (by first | rfl | (rw [hg]; rfl) | simp_all) (by repeat (first | exact ssub_refl | refine ssub_skip rfl ?_)))
  refine st_v (v_move rfl) (st_cut (k := 24) (d := 48) (v := .bool (((!(fitp sh) || !(shortp cs)) || (decide (200 < half) && decide (half ≤ 4096))) || (decide (100 < young) && decide (young ≤ 1024)))) (fun hcut => bool_want (b := ((!(fitp sh) || !(shortp cs)) || (decide (200 < half) && decide (half ≤ 4096)))) false (fun hg => ?_) (fun hg => ?_)) ?_)
  · refine st_sk rfl rfl hg ?_
    refine st_sk rfl rfl hg ?_
    refine st_sk rfl rfl hg ?_
    refine st_sku rfl rfl ?_
    refine st_sku rfl rfl ?_
    refine st_sk rfl rfl hg ?_
    refine st_v (v_pick_true (bool_ev rfl hg) rfl) ?_
    exact hcut _ (ssub_head (by first | rfl | (rw [hg]; rfl) | simp_all) (ssub_skip rfl (ssub_skip rfl (ssub_skip rfl (ssub_skip rfl (ssub_skip rfl (ssub_skip rfl (ssub_refl))))))))
  · skip
    refine st_vg rfl (bool_get rfl hg) (v_move rfl) (st_vg rfl (bool_get rfl hg) (v_gtr rfl rfl) (st_vg rfl (bool_get rfl hg) (v_move rfl) (st_cut (k := 23) (d := 47) (v := .bool (decide (100 < young) && decide (young ≤ 1024))) (fun hcut => bool_want (b := decide (100 < young)) true (fun hg1 => ?_) (fun hg1 => ?_)) ?_)))
    · refine st_sk rfl rfl hg1 ?_
      refine st_sk rfl rfl hg1 ?_
      refine st_vg rfl (bool_get rfl hg) (v_pick_false (bool_ev rfl hg1) rfl) ?_
      exact hcut _ (ssub_head (by first | rfl | (rw [hg1]; rfl) | simp_all) (ssub_skip rfl (ssub_skip rfl (ssub_refl))))
    · skip
      refine st_vg rfl (bool_get rfl hg1) (v_move rfl) (st_vg rfl (bool_get rfl hg1) (v_leq rfl rfl) (st_vg rfl (bool_get rfl hg) (v_pick_true (bool_ev rfl hg1) rfl) ?_))
      exact hcut _ (ssub_head (by first | rfl | (rw [hg1]; rfl) | simp_all) (ssub_skip rfl (ssub_skip rfl (ssub_refl))))
    refine st_v (v_pick_false (bool_ev rfl hg) rfl) ?_
    exact hcut _ (ssub_head (by first | rfl | (rw [hg]; rfl) | simp_all) (by repeat (first | exact ssub_refl | refine ssub_skip rfl ?_)))
  refine st_nil (nx_kp [0, 1, 2, 3, 8, 48] rfl (nx_then (cd_cond rfl (fun hc => ?_) (fun hc => ?_))))
  · skip
    refine cd_seq (cd_region (st_cl rfl rfl en14 rfl (sanity_c) ?_))
    rintro v' h' ⟨rfl, rfl⟩
    simp only [List.nil_append]
    refine st_v (v_assign rfl) (st_nil (nx_kp [0, 1, 2, 3, 8] rfl (nx_then (cd_ret (xt_ret_then ?_)))))
    exact xt_rt rfl ⟨rfl, rfl⟩
  · skip
    simp only [Bool.or_eq_false_iff, Bool.not_eq_false'] at hc
    obtain ⟨⟨⟨hfit, hshort⟩, _⟩, _⟩ := hc
    have hsl : sh.length ≤ 1000000 := by
      unfold fitp at hfit
      simp only [Bool.and_eq_true, Bool.or_eq_true, decide_eq_true_eq] at hfit
      omega
    have hrl : ∀ x ∈ cs, x.roots.length ≤ 210 := fun x hx => by
      unfold shortp at hshort
      rw [Bool.and_eq_true] at hshort
      have := List.all_eq_true.1 hshort.1 x hx
      unfold shortC at this
      simp only [Bool.not_eq_true', Bool.or_eq_false_iff, decide_eq_false_iff_not] at this
      omega
    refine cd_skip (xt_then (cd_seq (cd_region (st_v (v_move rfl) (st_v (v_move rfl) (st_v (v_move rfl) (st_cl rfl rfl en15 rfl (new_c (half := half) (young := young) hS hsl) ?_)))))))
    rintro v' h' hu
    rcases hu with ⟨hne, rfl, rfl⟩ | ⟨hne, L0, μ0, S1, rfl, I0, rfl⟩
    · skip
      simp only [List.cons_append, List.nil_append]
      refine st_v (v_move rfl) (st_v (v_extract rfl rfl) (st_v (v_extract rfl rfl) (st_v (v_assign rfl) (st_v (v_assign rfl) (st_nil (nx_kp [0, 1, 2, 3, 8, 9, 10] rfl (nx_then (cd_seq (cd_region (st_v (v_move rfl) (st_v (v_move rfl) (st_v (v_move rfl) (st_cl rfl rfl en16 rfl (rnew_ct (half := half) (young := young) hS hsl) ?_)))))))))))))
      rintro v' h' hu
      rcases hu with ⟨_, rfl, rfl⟩ | ⟨hne', _⟩
      · skip
        simp only [List.cons_append, List.nil_append]
        refine st_v (v_move rfl) (st_v (v_extract rfl rfl) (st_v (v_extract rfl rfl) (st_v (v_assign rfl) (st_v (v_assign rfl) (st_nil (nx_kp [3, 8, 9, 10, 11, 12] rfl (nx_then (cd_seq (cd_seq (cd_region (st_v (v_move rfl) (st_v (v_move rfl) (st_v (v_neq_self rfl rfl) (st_v (v_move rfl) (st_vg rfl rfl (v_move rfl) ?_)))))))))))))))
        refine st_vg rfl rfl (v_eql_ptr_nil rfl rfl pt27) (st_vg rfl rfl (v_move rfl) (st_vg rfl rfl (v_eql_ptr_nil rfl rfl pt31) (st_vg rfl rfl (v_neqb_self Try.underlying4 rfl rfl) (st_v (v_pick_false rfl rfl) (st_nil (nx_kp [3, 8, 9, 11, 73] rfl (nx_then (cd_false rfl ?_))))))))
        refine cd_skip (xt_then (cd_seq (cd_seq (cd_region (st_v (v_assign rfl) (st_nil (nx_kp [3, 8, 9, 11, 13] rfl (nx_then (cd_block (cd_loop (σ := Unit) (fun _ => [(3, v3), (9, .pointer none), (13, .int .i64 0)]) (fun _ => R :: hr) (fun _ => True) (fun _ => 0) () trivial ⟨rfl, rfl, rfl, trivial⟩ (Sub.refl _) ?_))))))))))
        rintro _ _
        refine cd_seq (cd_seq (cd_region (st_v (v_move rfl) (st_v (v_move rfl) (st_v (v_len (congrArg some hcv) Try.underlying23) (st_v (v_lss rfl rfl) (st_v (v_move rfl) (st_cut (k := 8) (d := 81) (v := .bool false) (fun hcut => bool_want (b := decide ((0 : Int) < cs.length)) true (fun hg => ?_) (fun hg => ?_)) ?_))))))))
        · refine st_sk rfl rfl hg ?_
          refine st_sk rfl rfl hg ?_
          refine st_v (v_pick_false (bool_ev rfl hg) rfl) ?_
          exact hcut _ (ssub_head (by first | rfl | (rw [hg]; rfl) | simp_all) (ssub_skip rfl (ssub_skip rfl (ssub_refl))))
        · skip
          refine st_vg rfl (bool_get rfl hg) (v_move rfl) (st_vg rfl (bool_get rfl hg) (v_neq_ptr_nil rfl rfl pt27) (st_v (v_pick_true (bool_ev rfl hg) rfl) ?_))
          exact hcut _ (ssub_head (by first | rfl | (rw [hg]; rfl) | simp_all) (ssub_skip rfl (ssub_skip rfl (ssub_refl))))
        refine st_nil (nx_kp [3, 9, 13, 81] rfl (nx_then (cd_false rfl ?_)))
        refine cd_exit (xt_exit_then (xt_exit_then (xt_exit_block (xt_then (cd_seq (cd_region (st_cl rfl rfl en14 rfl (sanity_c) ?_)))))))
        rintro v' h' ⟨rfl, rfl⟩
        simp only [List.nil_append]
        refine st_v (v_assign rfl) (st_nil (nx_kp [8] rfl (nx_then (cd_ret ?_))))
        exact xt_rt rfl ⟨rfl, rfl⟩
      · exact absurd hne' hne
    · skip
      have I0 : MI L0 μ0 S1 (AM.new' sh half young) := I0
      simp only [memSH, List.cons_append, List.nil_append]
      refine st_v (v_move rfl) (st_v (v_extract rfl rfl) (st_v (v_extract rfl rfl) (st_v (v_assign rfl) (st_v (v_assign rfl) (st_nil (nx_kp [0, 1, 2, 3, 8, 9, 10] rfl (nx_then (cd_seq (cd_region (st_v (v_move rfl) (st_v (v_move rfl) (st_v (v_move rfl) (st_cl rfl rfl en16 rfl (rnew_ct (half := half) (young := young) hS hsl) ?_)))))))))))))
      rintro v' h' hu
      rcases hu with ⟨hne', _⟩ | ⟨_, L2, hL2, rfl, rfl⟩
      · exact absurd hne hne'
      · skip
        simp only [rSH, List.cons_append, List.nil_append]
        refine st_v (v_move rfl) (st_v (v_extract rfl rfl) (st_v (v_extract rfl rfl) (st_v (v_assign rfl) (st_v (v_assign rfl) (st_nil (nx_kp [3, 8, 9, 10, 11, 12] rfl (nx_then (cd_seq (cd_seq (cd_region (st_v (v_move rfl) (st_v (v_move rfl) (st_v (v_neq_self rfl rfl) (st_v (v_move rfl) (st_vg rfl rfl (v_move rfl) ?_)))))))))))))))
        refine st_vg rfl rfl (v_eql_ptr_nil rfl rfl pt27) (st_vg rfl rfl (v_move rfl) (st_vg rfl rfl (v_eql_ptr_nil rfl rfl pt31) (st_vg rfl rfl (v_neqb_self Try.underlying4 rfl rfl) (st_v (v_pick_false rfl rfl) (st_nil (nx_kp [3, 8, 9, 11, 73] rfl (nx_then (cd_false rfl ?_))))))))
        refine cd_skip (xt_then (cd_seq (cd_seq (cd_region (st_v (v_assign rfl) (st_nil (nx_kp [3, 8, 9, 11, 13] rfl (nx_then (cd_block (cd_loop (σ := Nat × MemL × Mem × Value × AM) (fun q => [(3, v3), (9, .pointer (some ⟨L0.mb, 0, none⟩)), (11, .pointer (some ⟨L2.hb, 0, none⟩)), (13, .int .i64 (q.1 : Nat))]) (fun q => memSH q.2.1 q.2.2.1 S1 ++ (rSH { L2 with vk := q.2.2.2.1 } q.2.2.2.2 R ++ hr)) (fun q => q.1 ≤ cs.length ∧ q.2.1.mb = L0.mb ∧ MI q.2.1 q.2.2.1 S1 q.2.2.2.2 ∧ Fine q.2.2.2.2 ∧ q.2.2.2.2.sh = sh) (fun q => cs.length - q.1) (0, L0, μ0, L2.vk, AM.new' sh half young) ⟨Nat.zero_le _, rfl, I0, fine_new hne, rfl⟩ ⟨rfl, rfl, rfl, rfl, trivial⟩ (by simp only [memSH, rSH, List.cons_append, List.nil_append]; exact (by repeat (first | exact Sub.refl _ | exact Sub.nil _ | refine Sub.sel (by repeat (first | exact Sel.here | apply Sel.there)) ?_ | apply Sub.cons))) ?_))))))))))
        rintro ⟨i, L, μ, vk, m⟩ ⟨hi, hmb, I, hF, hsh⟩
        dsimp only at hi hmb I hF hsh ⊢
        obtain ⟨ly, ln, lf, φ, A, g⟩ := id hF
        simp only [memSH, rSH, List.cons_append, List.nil_append]
        refine cd_seq (cd_seq (cd_region (st_v (v_move rfl) (st_v (v_move rfl) (st_v (v_len (congrArg some hcv) Try.underlying23) (st_v (v_lss rfl rfl) (st_v (v_move rfl) (st_cut (k := 8) (d := 81) (v := .bool (decide ((i : Int) < cs.length))) (fun hcut => bool_want (b := decide ((i : Int) < cs.length)) true (fun hg => ?_) (fun hg => ?_)) ?_))))))))
        · refine st_sk rfl rfl hg ?_
          refine st_sk rfl rfl hg ?_
          refine st_v (v_pick_false (bool_ev rfl hg) rfl) ?_
          exact hcut _ (ssub_head (by first | rfl | (rw [hg]; rfl) | simp_all) (ssub_skip rfl (ssub_skip rfl (ssub_refl))))
        · skip
          refine st_vg rfl (bool_get rfl hg) (v_move rfl) (st_vg rfl (bool_get rfl hg) (v_neq_ptr_nil rfl rfl pt27) (st_v (v_pick_true (bool_ev rfl hg) rfl) ?_))
          exact hcut _ (ssub_head (by first | rfl | (rw [hg]; rfl) | simp_all) (ssub_skip rfl (ssub_skip rfl (ssub_refl))))
        refine st_nil (nx_kp [3, 9, 11, 13, 81] rfl (nx_then (cd_cond rfl (fun hd => ?_) (fun hd => ?_))))
        · skip
          have hlt : i < cs.length := by simpa using hd
          obtain ⟨cb, co, ccp', u, hv', hu, hrds⟩ := hC.at hlt
          have hrl' : cs[i].roots.length ≤ 1000000 := by have := hrl _ (List.getElem_mem hlt); omega
          have ha' := ha _ (List.getElem_mem hlt)
          have hSm : Shp R L2.vs m.sh := by rw [hsh, hL2]; exact hS
          have hrd : Rd R ⟨cb, co + i * 5 + 4, none⟩ u := hrds 4 (by simp)
          obtain ⟨X, hX⟩ : ∃ X, X = m.call (kindOf cs[i].k) cs[i].a cs[i].b cs[i].c cs[i].roots := ⟨_, rfl⟩
          have hct := called_ct (k := cs[i].k) (a := cs[i].a) (b := cs[i].b) (c := cs[i].c) I g hu hrl' ha'
          have hst := specified_ct (L := { L2 with vk := vk }) (k := cs[i].k) (a := cs[i].a) (b := cs[i].b) (c := cs[i].c) hSm g hu hrl' ha'
          have hF' := hF.call (kindOf cs[i].k) cs[i].a cs[i].b cs[i].c cs[i].roots
          have hsh' := call_sh m (kindOf cs[i].k) cs[i].a cs[i].b cs[i].c cs[i].roots
          have hln := call_len m (kindOf cs[i].k) cs[i].a cs[i].b cs[i].c cs[i].roots
          rw [← hX] at hct hst hF' hsh' hln
          rw [hmb] at hct
          rw [hsh] at hsh'
          obtain ⟨xn, xl, xe, n⟩ := X
          dsimp only at hct hst hF' hsh' hln
          obtain ⟨ly', ln', lf', φ', A', g'⟩ := id hF'
          have hSn : Shp R L2.vs n.sh := by rw [hsh', hL2]; exact hS
          have zp := pictured_sz hF' hrl'
          refine cd_skip (xt_then (cd_seq (cd_block (cd_seq (cd_region (st_v (v_move rfl) (st_v (v_move rfl) (st_v (v_move rfl) (st_v (v_indexAddr (congrArg some hv') rfl sl23 rfl hlt rfl) (st_v (v_loadR (r := R) rfl ld38 rfl (by repeat (first | exact Sel.here | apply Sel.there)) hrds) ?_))))))))))
          refine st_cl rfl rfl en17 rfl (hct) ?_
          rintro v' h' ⟨sl, L', μ', rfl, I', hL', rfl⟩
          simp only [memSH, List.cons_append, List.nil_append]
          have hmb' : L'.mb = L0.mb := hL'
          have hpt := hpicture_ct I' g' hu hrl'
          have hbz := busy_c I'
          have hrm := room_c I'
          have hck := check_c I' g'
          rw [hmb'] at hpt hbz hrm hck
          refine st_v (v_move rfl) (st_v (v_extract rfl rfl) (st_v (v_extract rfl rfl) (st_v (v_extract rfl rfl) (st_v (v_assign rfl) (st_v (v_assign rfl) (st_v (v_assign rfl) (st_nil (nx_kp [3, 9, 11, 13, 14, 15, 16] rfl (nx_then (cd_seq (cd_region (st_v (v_move rfl) (st_v (v_move rfl) (st_v (v_move rfl) (st_v (v_indexAddr (congrArg some hv') rfl sl23 rfl hlt rfl) ?_)))))))))))))))
          refine st_v (v_loadR (r := R) rfl ld38 rfl (by repeat (first | exact Sel.here | apply Sel.there)) hrds) ?_
          refine st_cl rfl rfl en18 rfl (hst) ?_
          rintro v' h' ⟨sl2, vk', rfl, rfl⟩
          simp only [rSH, List.cons_append, List.nil_append]
          refine st_v (v_move rfl) (st_v (v_extract rfl rfl) (st_v (v_extract rfl rfl) (st_v (v_extract rfl rfl) (st_v (v_assign rfl) (st_v (v_assign rfl) (st_v (v_assign rfl) (st_nil (nx_kp [3, 9, 11, 13, 14, 15, 16, 17, 18, 19] rfl (nx_then (cd_seq (cd_region (st_v (v_move rfl) (st_v (v_move rfl) (st_v (v_move rfl) (st_v (v_indexAddr (congrArg some hv') rfl sl23 rfl hlt rfl) ?_)))))))))))))))
          refine st_v (v_fieldAddr rfl fa38_4 rfl) (st_v (v_ld rfl ld34) ?_)
          refine st_cl rfl rfl en19 rfl (hpt) ?_
          rintro v' h' ⟨sv, fv, rv, us, rfl, hPF, rfl⟩
          simp only [memSH, List.cons_append, List.nil_append]
          have o1 := VForm.one hPF.s; have o2 := VForm.one hPF.f; have o3 := VForm.one hPF.r
          refine st_v (v_move rfl) (st_v (v_extract rfl rfl) (st_v (v_extract rfl rfl) (st_alc al42 fun b20 => ?_)))
          refine st_stoW rfl rfl sz42 rfl (by simp only [List.all_cons, List.all_nil, o1, o2, o3]; rfl) ?_
          refine st_v (v_assign rfl) (st_nil (nx_kp [3, 9, 11, 13, 14, 15, 16, 17, 18, 19, 20, 21] rfl (nx_then (cd_seq (cd_region (st_v (v_move rfl) (st_v (v_move rfl) (st_v (v_move rfl) (st_v (v_indexAddr (congrArg some hv') rfl sl23 rfl hlt rfl) (st_v (v_fieldAddr rfl fa38_4 rfl) (st_v (v_ld rfl ld34) ?_)))))))))))
          refine st_cl rfl rfl en20 rfl (rpicture_ct (L := { L2 with vk := vk' }) (m := n) hSn g' hu hrl') ?_
          rintro v' h' ⟨sv2, fv2, rv2, us2, rfl, hPF2, rfl⟩
          simp only [List.cons_append, List.nil_append]
          have o4 := VForm.one hPF2.s; have o5 := VForm.one hPF2.f; have o6 := VForm.one hPF2.r
          refine st_alc al46 fun b22 => ?_
          refine st_stoW rfl rfl sz46 rfl (by simp only [List.all_cons, List.all_nil, o4, o5, o6]; rfl) ?_
          refine st_vecshape (v := sl) (E := 3) (sz := 1) (n := xl.length) (l := ints xl) (by repeat (first | exact Sel.here | apply Sel.there)) fun a1 c1 hs1 ha1 => ?_
          refine st_vecshape (v := sl2) (E := 3) (sz := 1) (n := xl.length) (l := ints xl) (by repeat (first | exact Sel.here | apply Sel.there)) fun a2 c2 hs2 ha2 => ?_
          have hsi := sameInts2_ct (rowI_vec hs1 ha1 rfl) (rowI_vec hs2 ha2 rfl) (show xl.length ≤ 1000000 by omega)
          rw [beq_self_eq_true] at hsi
          have hsp := Reads.unstar (samePictures_ct (R := Res.star [pR sv fv rv us (n.pictured cs[i].roots).1, pR sv2 fv2 rv2 us2 (n.pictured cs[i].roots).1]) (hPF.v.star .here) (hPF2.v.star (.there .here)) zp)
          rw [samePic_self] at hsp
          refine st_nil (nx_kp [3, 9, 11, 13, 14, 15, 16, 17, 18, 19, 20, 21, 22] rfl (nx_then (cd_seq (cd_region (st_v (v_move rfl) (st_v (v_move rfl) (st_clr rfl rfl en21 rfl (hsi) ?_)))))))
          refine st_v (v_assign rfl) (st_nil (nx_kp [3, 9, 11, 13, 14, 16, 17, 19, 20, 21, 22, 23] rfl (nx_then (cd_seq (cd_region (st_v (v_loadW rfl ld42 rfl (by repeat (first | exact Sel.here | apply Sel.there))) ?_))))))
          refine st_v (v_fieldAddr rfl fa46_0 rfl) (st_v (v_loadR (r := pt b22 (cl ([sv2, fv2, rv2] ++ [.int .i64 (n.pictured cs[i].roots).2]) 46)) rfl ld42 rfl (by repeat (first | exact Sel.here | apply Sel.there)) rds_pre) ?_)
          refine st_clr rfl rfl en22 rfl (hsp) ?_
          refine st_v (v_assign rfl) (st_nil (nx_kp [3, 9, 11, 13, 14, 16, 17, 19, 21, 22, 23, 24] rfl (nx_then (cd_seq (cd_drawh (ork [(0, 2), (1, 2), (2, 2), (3, 2), (4, 2), (5, 2), (6, 2), (7, 2), (8, 2), (9, 2), (10, 2), (11, 2), (12, 2), (13, 2), (14, 1), (15, 2), (16, 2), (17, 2), (18, 1), (19, 1), (20, 2), (21, 2), (22, 2), (23, 1), (24, 2), (25, 1), (26, 1), (27, 2), (28, 2), (29, 2), (30, 2), (31, 2), (32, 2), (33, 2), (34, 2), (35, 1), (36, 2), (37, 2), (38, 2), (39, 2), (40, 1), (41, 2), (42, 2)] .nil) (fun _ => true) mixed (by kernel_rfl) ?_)))))
          refine dp_v rfl (v_move rfl) (dp_v rfl (v_move rfl) (dp_v rfl (v_neq_self rfl rfl) (dp_v rfl (v_move rfl) (dp_vg rfl rfl rfl (v_move rfl) (dp_vg rfl rfl rfl (v_not rfl) (dp_v rfl (v_pick_false rfl rfl) (dp_v rfl (v_move rfl) (dp_vg rfl rfl rfl (v_move rfl) (dp_vg rfl rfl rfl (v_move rfl) (dp_vg rfl rfl rfl (v_neq_self rfl rfl) (dp_v rfl (v_pick_false rfl rfl) (dp_v rfl (v_move rfl) (dp_vg rfl rfl rfl (v_move rfl) ?_)))))))))))))
          refine dr_clrg rfl rfl rfl rfl rfl en23 rfl (hbz) ?_
          refine dp_vg rfl rfl rfl (v_move rfl) (dp_vg rfl rfl rfl (v_nilCheck rfl) (dp_vg rfl rfl rfl (v_fieldAddr rfl fa52_9 rfl) (dr_vg rfl rfl rfl (v_ld rfl ld4) ?_)))
          refine dr_vg rfl rfl rfl (v_neqb_self Try.underlying4 rfl rfl) (dp_v rfl (v_pick_false rfl rfl) (dp_v rfl (v_move rfl) (dp_vg rfl rfl rfl (v_move rfl) (dr_clrg rfl rfl rfl rfl rfl en24 rfl (hrm) ?_))))
          refine dp_vg rfl rfl rfl (v_move rfl) (dr_clrg rfl rfl rfl rfl rfl en25 rfl (rroom_ct (L := { L2 with vk := vk' }) (m := n) g'.g) ?_)
          refine dr_vg rfl rfl rfl (v_neqi_self (xs := [n.room.1, n.room.2.1, n.room.2.2]) eqi54 rfl rfl rfl) (dp_v rfl (v_pick_false rfl rfl) (dp_v rfl (v_move rfl) (dp_vg rfl rfl rfl (v_move rfl) (dp_vg rfl rfl rfl (v_not rfl) (dp_v rfl (v_pick_false rfl rfl) (dp_v rfl (v_move rfl) (dp_vg rfl rfl rfl (v_move rfl) (dp_vg rfl rfl rfl (v_fieldAddr rfl fa46_1 rfl) (dr_vg rfl rfl rfl (v_ld rfl ld28) ?_)))))))))
          refine dp_vg rfl rfl rfl (v_neq_self rfl rfl) (dp_v rfl (v_pick_false rfl rfl) (dp_v rfl (v_move rfl) (dp_vg rfl rfl rfl (v_move rfl) (dr_clrg rfl rfl rfl rfl rfl en26 rfl (hck) ?_))))
          refine dp_vg rfl rfl rfl (v_neq_self rfl rfl) (dp_v rfl (v_pick_false rfl rfl) (dr_nil (nx_kp [3, 9, 11, 13, 170] rfl (nx_then (cd_false rfl ?_)))))
          refine cd_skip (xt_normal_block (xt_then (cd_region (st_v (v_move rfl) (st_v (v_add rfl rfl (by unfold I64 at *; omega)) (st_v (v_assign rfl) (st_nil (nx_kp [3, 9, 11, 13] rfl (nx_xt (xt_ag (i + 1, L', μ', vk', n) ⟨hlt, hmb', I', hF', hsh'⟩ (by show _ - _ < _ - _; omega) (by repeat (first | exact trivial | refine ⟨rfl, ?_⟩)) (by simp only [memSH, rSH, List.cons_append, List.nil_append]; exact (by repeat (first | exact Sub.refl _ | exact Sub.nil _ | refine Sub.sel (by repeat (first | exact Sel.here | apply Sel.there)) ?_ | apply Sub.cons)))))))))))))
        · skip
          refine cd_exit (xt_exit_then (xt_exit_then (xt_exit_block (xt_then (cd_seq (cd_region (st_cl rfl rfl en14 rfl (sanity_c) ?_)))))))
          rintro v' h' ⟨rfl, rfl⟩
          simp only [List.nil_append]
          refine st_v (v_assign rfl) (st_nil (nx_kp [8] rfl (nx_then (cd_ret ?_))))
          exact xt_rt rfl ⟨rfl, rfl⟩
end
end Go.Proofs.Ytmhmpjgkkpbnnaa
namespace Go.Ck
open Go Go.RowKit Go.ChangeShapes Go.WideShapes
theorem cells_one {v : Value} (h : v.oneCell' = true) : v.cells.toList = [v] := by
  cases v <;> first | rfl | (simp [Value.oneCell'] at h)
/-- An argument of one cell. -/
theorem arg_one {H : Type} {enc : TypeId × Value → H} {P : Program} {W : World} {ty : Ty} {t : TypeId} {v : Value} {d : DataW H} {ps : List MemPlace} {b : Nat} (hf : fitB P ty t = true)
    (hs : (match P.underlying t with | some (.struct _) | some (.array _ _) => false | some _ => true | none => false) = true) (hv : Value.okWide P W .any b t v) (h : DataW.Trod enc P W 0 (fun _ => true) true t v d ps) : ∃ y, Rep (old W) ty [v] y := by
  have := arg_rep hf h
  rwa [cells_one (okWide_one hs hv)] at this
theorem rep_int {r : Res} {v : Value} {n : Int} (h : Rep r (.int .i64) [v] n) : v = .int .i64 n ∧ (Lit.int .i64 n).wf = true := by
  simp only [Rep] at h
  exact ⟨by simpa using h.1, h.2⟩
end Go.Ck
namespace Go.Proofs.Ytmhmpjgkkpbnnaa
open Go Go.RowKit Go.ChangeShapes Go.WideShapes Go.Ck
theorem own' : ownKnob Try.prog.godebug = none := by kernel_rfl
theorem wf_I64' {n : Int} (h : (Lit.int .i64 n).wf = true) : I64 n := by
  unfold Lit.wf at h
  simp [IntKind.min, IntKind.max, IntKind.signed, IntKind.bits] at h
  unfold I64; omega
theorem rds_one {r : Res} {b o : Nat} {us : List Value} (hl : us.length = 1) (h : Rds r b o us) : ∃ u, us = [u] ∧ Rd r ⟨b, o, none⟩ u := by
  match us, hl with
  | [u], _ => exact ⟨u, rfl, by have := h 0 (by simp); rwa [Nat.add_zero] at this⟩
theorem rowB_of {r : Res} {u : Value} {y : (Ty.slice .bool).D} (h : Rep r (.slice .bool) [u] y) : RowB r u (show List Bool from y) := by
  simp only [Rep] at h
  obtain ⟨a, cap, h1, _, _, _, h2⟩ := h
  refine ⟨a, cap, (List.cons.inj h1).1, h2.imp id ?_⟩
  rintro ⟨b, o, h3, h4⟩
  refine ⟨b, o, h3, fun j hj => ?_⟩
  obtain ⟨us, h5, h6, h7⟩ := h4 j _ (List.getElem?_eq_getElem hj)
  obtain ⟨u, rfl, h8⟩ := rds_one h5 h6
  rw [show o + j = o + j * Ty.bool.sz by simp [Ty.sz]]
  have : u = .bool ((show List Bool from y)[j]) := by simpa using h7
  rw [← this]; exact h8
theorem rowI_of {r : Res} {u : Value} {y : (Ty.slice (.int .i64)).D} (h : Rep r (.slice (.int .i64)) [u] y) : RowI r u (show List Int from y) := by
  simp only [Rep] at h
  obtain ⟨a, cap, h1, _, _, _, h2⟩ := h
  refine ⟨a, cap, (List.cons.inj h1).1, h2.imp id ?_⟩
  rintro ⟨b, o, h3, h4⟩
  refine ⟨b, o, h3, fun j hj => ?_⟩
  obtain ⟨us, h5, h6, h7⟩ := h4 j _ (List.getElem?_eq_getElem hj)
  obtain ⟨u, rfl, h8⟩ := rds_one h5 h6
  rw [show o + j = o + j * (Ty.int .i64).sz by simp [Ty.sz]]
  have : u = .int .i64 ((show List Int from y)[j]) := by simpa using h7.1
  rw [← this]; exact h8
theorem shp_of {r : Res} {v : Value} {y : (Ty.slice (.slice .bool)).D} (h : Rep r (.slice (.slice .bool)) [v] y) : Shp r v (show List (List Bool) from y) ∧ (show List (List Bool) from y).length ≤ maxLen := by
  unfold Rep at h
  obtain ⟨a, cap, h1, hl, hm, _, h2⟩ := h
  refine ⟨⟨a, cap, (List.cons.inj h1).1, h2.imp id ?_⟩, Nat.le_trans hl hm⟩
  rintro ⟨b, o, h3, h4⟩
  refine ⟨b, o, h3, fun i hi => ?_⟩
  obtain ⟨us, h5, h6, h7⟩ := h4 i _ (List.getElem?_eq_getElem hi)
  obtain ⟨u, rfl, h8⟩ := rds_one h5 h6
  exact ⟨u, by rw [show o + i = o + i * (Ty.slice .bool).sz by simp [Ty.sz]]; exact h8, rowB_of h7⟩
def callTy : Ty := .struct [.int .i64, .int .i64, .int .i64, .int .i64, .slice (.int .i64)]
def callOf (x : callTy.D) : CallV := ⟨x.1, x.2.1, x.2.2.1, x.2.2.2.1, x.2.2.2.2.1⟩
theorem calls_of {r : Res} {v : Value} {y : (Ty.slice callTy).D} (h : Rep r (.slice callTy) [v] y) : Calls r v ((show List callTy.D from y).map callOf) ∧ ((show List callTy.D from y).map callOf).length ≤ maxLen ∧ ∀ x ∈ (show List callTy.D from y).map callOf, I64 x.a := by
  unfold Rep at h
  obtain ⟨a, cap, h1, hl, hm, _, h2⟩ := h
  have one : ∀ (us : List Value) (x : callTy.D), Rep r callTy us x → ∃ u, RowI r u (callOf x).roots ∧ us = [.int .i64 (callOf x).k, .int .i64 (callOf x).a, .int .i64 (callOf x).b, .int .i64 (callOf x).c, u] ∧ I64 (callOf x).a := fun us x hx => by
    obtain ⟨x1, x2, x3, x4, x5, x6⟩ := x
    simp only [callTy, Rep, Reps] at hx
    obtain ⟨u1, us1, e1, l1, r1, u2, us2, e2, l2, r2, u3, us3, e3, l3, r3, u4, us4, e4, l4, r4, u5, us5, e5, l5, r5, r6⟩ := hx
    obtain ⟨rfl, _⟩ := r1
    obtain ⟨rfl, w2⟩ := r2
    obtain ⟨rfl, _⟩ := r3
    obtain ⟨rfl, _⟩ := r4
    obtain ⟨u, hu⟩ : ∃ u, u5 = [u] := by
      match u5, l5 with
      | [u], _ => exact ⟨u, rfl⟩
    subst hu r6 e5 e4 e3 e2
    have hr5 : Rep r (.slice (.int .i64)) [u] x5 := by simp only [Rep]; exact r5
    refine ⟨u, rowI_of hr5, by rw [e1]; rfl, wf_I64' w2⟩
  refine ⟨⟨a, cap, by rw [List.length_map]; exact (List.cons.inj h1).1, h2.imp (fun e => by rw [show (show List callTy.D from y) = [] from e]; rfl) ?_⟩, by rw [List.length_map]; exact Nat.le_trans hl hm, fun x hx => ?_⟩
  · rintro ⟨b, o, h3, h4⟩
    refine ⟨b, o, h3, fun i hi => ?_⟩
    have hi' : i < (show List callTy.D from y).length := by rw [List.length_map] at hi; exact hi
    obtain ⟨us, h5, h6, h7⟩ := h4 i _ (List.getElem?_eq_getElem hi')
    obtain ⟨u, h8, h9, _⟩ := one us _ h7
    rw [List.getElem_map]
    exact ⟨u, h8, by rw [← h9]; exact h6⟩
  · obtain ⟨z, hz, rfl⟩ := List.mem_map.1 hx
    rcases h2 with h0 | ⟨b, o, h3, h4⟩
    · rw [show (show List callTy.D from y) = [] from h0] at hz; cases hz
    · obtain ⟨i, hi, rfl⟩ := List.getElem_of_mem hz
      obtain ⟨us, h5, h6, h7⟩ := h4 i _ (List.getElem?_eq_getElem hi)
      obtain ⟨u, _, _, h10⟩ := one us _ h7
      exact h10
set_option maxRecDepth 100000 in
theorem heapCalls_lifted (os : Os) (started : os.Started) (H : Type) (enc : TypeId × Value → H) :
    ReturnsInHanded {} Try.checked os 3 .any (Rows.heapCallsSpec.pre6 enc Try.prog Try.f3 Rows.heapCallsRow.domain false) (Rows.heapCallsSpec.post enc Try.prog Try.f3 false true false false) := by
  refine returnsInHanded_of_change (C := Try.checked) own' started (by kernel_rfl) Try.func3
    (ChangeSpec.witness6 (enc := enc) (C := Try.checked) false ⟨#[], #[.slice none 0 0, .int .i64 0, .int .i64 0, .slice none 0 0], []⟩ 8 (by kernel_rfl) (by kernel_rfl) (by kernel_rfl) (by kernel_rfl)) ?_
  intro W base args ds gs before hval0 hW hcnd _
  have hval : ∀ (j : Nat) t v, Try.f3.params[j]? = some t → args[j]? = some v → Value.okWide Try.prog W .any base t v := hval0
  have hW' := hW
  obtain ⟨p, q, hA0, hV, rfl, hfz, hnd⟩ := hW
  have hA : DataW.TrodAll enc Try.prog W 0 (fun _ => true) true Try.f3.params.toList args.toList ds p := hA0
  rw [Try.params3] at hA hval
  obtain ⟨v0, vs0, d0, ds0, p0, q0, hargs, rfl, rfl, h0, r0⟩ := trodAll_cons hA
  obtain ⟨v1, vs1, d1, ds1, p1, q1, rfl, rfl, rfl, h1, r1⟩ := trodAll_cons r0
  obtain ⟨v2, vs2, d2, ds2, p2, q2, rfl, rfl, rfl, h2, r2⟩ := trodAll_cons r1
  obtain ⟨v3, vs3, d3, ds3, p3, q3, rfl, rfl, rfl, h3, r3⟩ := trodAll_cons r2
  obtain ⟨rfl, rfl, rfl⟩ := trodAll_nil r3
  obtain rfl : args = #[v0, v1, v2, v3] := by cases args; simp_all
  obtain ⟨rfl, rfl⟩ := trodVars_none hV
  obtain ⟨y0, e0⟩ := arg_one (ty := .slice (.slice .bool)) (by kernel_rfl) (by kernel_rfl) (hval 0 22 v0 rfl rfl) h0
  obtain ⟨y1, e1⟩ := arg_one (ty := .int .i64) (by kernel_rfl) (by kernel_rfl) (hval 1 3 v1 rfl rfl) h1
  obtain ⟨y2, e2⟩ := arg_one (ty := .int .i64) (by kernel_rfl) (by kernel_rfl) (hval 2 3 v2 rfl rfl) h2
  obtain ⟨y3, e3⟩ := arg_one (ty := .slice callTy) (by kernel_rfl) (by kernel_rfl) (hval 3 23 v3 rfl rfl) h3
  obtain ⟨s0, l0⟩ := shp_of e0
  obtain ⟨s3, l3, a3⟩ := calls_of e3
  obtain ⟨rfl, _⟩ := rep_int e1
  obtain ⟨rfl, _⟩ := rep_int e2
  refine (ct_calls (heapCalls_c s0 s3 l0 l3 a3) fun v h' h => ⟨h.1, by rw [h.2]; exact .refl _⟩).mono fun e W' ⟨he, hk⟩ => ⟨_, he, ?_⟩
  exact law_post (tys := [.slice (.slice .bool), .int .i64, .int .i64, .slice callTy]) hW' rfl (by kernel_rfl) Try.underlying4 (by rw [Try.params3]; kernel_rfl) rfl hk
theorem heapCalls_holds : Rows.HeapCallsSaid :=
  OpenClaim.holds_of_wide 3 Try.f3 rfl rfl rfl rfl rfl rfl rfl ⟨rfl, rfl, rfl, rfl, rfl⟩ rfl rfl rfl rfl rfl (by kernel_rfl) Try.func3 (by kernel_rfl)
    (of_decide_eq_true (by kernel_rfl)) (by unfold Func.isWrapper; first | (rw [if_pos (by decide +kernel)]; kernel_rfl) | (rw [if_neg (by decide +kernel)]; exact ⟨rfl, rfl⟩))
    (fun os started H enc _ => heapCalls_lifted os started H enc)
end Go.Proofs.Ytmhmpjgkkpbnnaa
