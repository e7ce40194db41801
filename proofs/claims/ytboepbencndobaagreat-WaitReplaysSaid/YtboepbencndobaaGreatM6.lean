/-
  Go's library on rows: IndexFunc, ContainsFunc; package wait's all. Conditions: what is read.
  Keys, requests, reservations, moves, what was done: held against each other. No condition.
  Go's library on rows: Clone, Equal, Index, Contains. Conditions: what is read.
  Go's library on rows: Equal, EqualFunc, Index, Contains. Conditions: what is read.
  Package wait: within, first, unless, moved, balanced. Conditions: what is read.
  Package wait: balanced, Check. Conditions: what is read.
  Package wait: Check. Conditions: what is read.
  Package wait: New. Conditions: what is read.
-/
import Derived.Test.YtboepbencndobaaGreatM5
set_option linter.unusedVariables false
set_option linter.unusedSimpArgs false
namespace Go.Wt
open Go Go.Ck Go.Proofs Go.Proofs.YtboepbencndobaaGreat Fx
attribute [local irreducible] St Cd Xt Nx DrL LsW
def ixF {α : Type} (g : α → Bool) (l : List α) : Int := match l.findIdx? g with | some i => (i : Int) | none => -1
theorem ixF_has {α : Type} (g : α → Bool) (l : List α) : decide (0 ≤ ixF g l) = l.any g := by
 unfold ixF
 cases h : l.findIdx? g with
 | none =>
  rw [List.findIdx?_eq_none_iff] at h
  symm; simp only [List.any_eq_false, Int.reduceNeg, Int.reduceLE, decide_false]
  intro x hx; simp [h x hx]
 | some i =>
  have h1 := List.findIdx?_eq_some_iff_getElem.1 h
  obtain ⟨h1, h2, _⟩ := h1
  simp only [Int.natCast_nonneg, decide_true]
  exact (List.any_eq_true.2 ⟨l[i], List.getElem_mem h1, h2⟩).symm
theorem ixF_some {α : Type} {g : α → Bool} {l : List α} {i : Nat} (hi : i < l.length) (h : g l[i] = true) (hne : ∀ (j : Nat) (y : α), j < i → l[j]? = some y → g y = false) : ixF g l = i := by
 have hf : l.findIdx? g = some i := by
  rw [List.findIdx?_eq_some_iff_getElem]
  exact ⟨hi, h, fun j hj => by have := hne j l[j] hj (List.getElem?_eq_getElem (by omega)); simp [this]⟩
 unfold ixF; rw [hf]
theorem ixF_none {α : Type} {g : α → Bool} {l : List α} (hne : ∀ (j : Nat) (y : α), j < l.length → l[j]? = some y → g y = false) : ixF g l = -1 := by
 have hf : l.findIdx? g = none := by
  rw [List.findIdx?_eq_none_iff]
  intro x hx
  obtain ⟨j, hj, rfl⟩ := List.mem_iff_getElem.1 hx
  exact hne j _ hj (List.getElem?_eq_getElem hj)
 unfold ixF; rw [hf]
theorem all_any {α : Type} (g : α → Bool) (l : List α) : (!l.any fun x => !g x) = l.all g := by
 induction l with
 | nil => rfl
 | cons a t ih => simp only [List.any_cons, List.all_cons, Bool.not_or, Bool.not_not, ← ih]
section
variable {α : Type} {S : Res} {X : List Value → α → Prop} {v : Value} {l : List α} {g : α → Bool} {kf : FuncId} {cp : Array Value}
set_option maxRecDepth 100000 in
theorem ix132_ct (hv : Row S 3 X v l) (hl : l.length ≤ 1000000) (hE : Enters Tryz.prog kf) (hf : ∀ x ∈ l, ∀ us, us.length = 3 → X us x → Reads Tryz.prog kf (#[] ++ [Value.agg us.toArray].toArray ++ cp) [S] (.bool (g x))) :
  Reads Tryz.prog 132 #[v, .func (.func kf) #[] cp] [S] (.int .i64 (ixF g l)) := by
 obtain ⟨a, cap, hv1, _⟩ := id hv
 refine ct_of (n := 19) Tryz.func132 rfl rfl (len rfl) fun hr w0 => ?_
 refine cS (cR (sV (vA rfl) (sN (nT (cS (cS (cR (sV (vM rfl) (sV (v_len (congrArg some hv1) Tryz.underlying108) (sV (vM rfl) (sN (nK [0, 1, 4, 7, 8] rfl (nT (cB (cd_lp (σ := Nat) (fun i => [(0, v), (1, .func (.func kf) #[] cp), (7, .int .i64 l.length), (8, .int .i64 (i : Nat))]) (fun _ => S :: hr) (fun i => i ≤ l.length ∧ ∀ (j : Nat) (y : α), j < i → l[j]? = some y → g y = false) (fun i => l.length - i) 0 ⟨Nat.zero_le _, fun j y hj => by omega⟩ ?_)))))))))))))))
 rintro i ⟨hi, hne⟩
 refine cS (cR (sV (v_lss rfl rfl) (sN (nT (cS (cC rfl (fun hd => ?_) (fun hd => ?_)))))))
 ·skip
  have hlt : i < l.length := by simpa using hd
  obtain ⟨b, o, cp2, us, hv2, hus, hrd, hx⟩ := hv.at (List.getElem?_eq_getElem hlt)
  refine cK (xT (cS (cB (cS (cR (sV (vM rfl) (sV (vA rfl) (sN (nK [0, 1, 5, 7, 8] rfl (nT (cS (cR (sV (vM rfl) (sV (vM rfl) (sV (vM rfl) ?_)))))))))))))))
  refine sV (vI (k := i) (congrArg some hv2) rfl sl108 rfl hlt rfl) (sV (v_ldn rfl ld110 hus hrd) ?_)
  refine st_clr rfl rfl hE rfl ((hf l[i] (List.getElem_mem hlt) us hus hx)) ?_
  refine sN (nK [0, 1, 5, 7, 8, 16] rfl (nT (cC rfl (fun he => ?_) (fun he => ?_))))
  ·skip
   refine cS (cR (sV (vM rfl) (sV (vA rfl) (sN (nK [0, 1, 4, 7, 8] rfl (nT (cT (xW (xR (xR (xW (xR ?_))))))))))))
   rw [ixF_some hlt he hne]
   exact xt_rt rfl ⟨rfl, rfl⟩
  ·skip
   refine cK (xB (xT (cR (sV (v_add rfl rfl (by unfold I64 at *; omega)) (sV (vM rfl) (sN (nK [0, 1, 7, 8] rfl (nx_xt (xt_ag (i + 1) ⟨hlt, fun j y hj hy => ?_⟩ (by show _ - _ < _ - _; omega))))))))))
   by_cases hji : j = i
   ·subst hji; rw [List.getElem?_eq_getElem hlt] at hy; cases hy; exact he
   ·exact hne j y (by omega) hy
 ·skip
  refine cd_exit (xE (xE (xY (xT (cS (cR (sV (vA rfl) (sN (nK [4] rfl (nT (cT ?_)))))))))))
  have hil : i = l.length := by
   have : ¬ i < l.length := by simpa using hd
   omega
  rw [ixF_none (fun j y hj => hne j y (by omega))]
  exact xt_rt rfl ⟨rfl, rfl⟩
set_option maxRecDepth 100000 in
theorem cf106_ct (hv : Row S 3 X v l) (hl : l.length ≤ 1000000) (hE : Enters Tryz.prog kf) (hf : ∀ x ∈ l, ∀ us, us.length = 3 → X us x → Reads Tryz.prog kf (#[] ++ [Value.agg us.toArray].toArray ++ cp) [S] (.bool (g x))) :
  Reads Tryz.prog 106 #[v, .func (.func kf) #[] cp] [S] (.bool (l.any g)) := by
 refine ct_of (n := 9) Tryz.func106 rfl rfl (len rfl) fun hr w0 => ?_
 refine cS (cR (sV (vA rfl) (sN (nT (cS (cR (sV (vM rfl) (sV (vM rfl) (st_clr rfl rfl en132 rfl (ix132_ct (g := g) hv hl hE hf) ?_)))))))))
 refine sV (v_geq rfl rfl) (sV (vA rfl) (sN (nK [4] rfl (nT (cT ?_)))))
 rw [ixF_has]
 exact xt_rt rfl ⟨rfl, rfl⟩
set_option maxRecDepth 100000 in
theorem an107_ct {us : List Value} {x : α} {bb : Nat} (hus : us.length = 3) (hE : Enters Tryz.prog kf) (hf : Reads Tryz.prog kf (#[] ++ [Value.agg us.toArray].toArray ++ cp) [S] (.bool (g x))) :
  Reads Tryz.prog 107 #[.agg us.toArray, .pointer (some ⟨bb, 0, none⟩)] [pt bb (cl [.func (.func kf) #[] cp] 126), S] (.bool (!g x)) := by
 refine ct_of (n := 8) Tryz.func107 rfl rfl (len rfl) fun hr w0 => ?_
 refine cS (cR (st_bx rfl rfl fun b2 => ?_))
 refine sV (vA rfl) (sN (nK [1, 2, 3] rfl (nT (cS (cR (sV (vY rfl ld126) ?_))))))
 refine sV (v_ldn rfl ld110 hus rds_pt) ?_
 refine st_clr rfl rfl hE rfl (hf) ?_
 refine sV (v_not rfl) (sV (vA rfl) (sN (nK [3] rfl (nT (cT ?_)))))
 exact xt_rt rfl ⟨rfl, rfl⟩
set_option maxRecDepth 100000 in
theorem al59_ct (hv : Row S 3 X v l) (hl : l.length ≤ 1000000) (hE : Enters Tryz.prog kf) (hf : ∀ x ∈ l, ∀ us, us.length = 3 → X us x → Reads Tryz.prog kf (#[] ++ [Value.agg us.toArray].toArray ++ cp) [S] (.bool (g x))) :
  Reads Tryz.prog 59 #[v, .func (.func kf) #[] cp] [S] (.bool (l.all g)) := by
 refine ct_of (n := 9) Tryz.func59 rfl rfl (len rfl) fun hr w0 => ?_
 refine cS (cR (st_bx rfl rfl fun b3 => ?_))
 refine sV (vA rfl) (sN (nK [0, 3, 4] rfl (nT (cS (cR (sV (vM rfl) (sV (v_makeFunc rfl rfl) (st_clr rfl rfl en106 rfl (reads_star (cf106_ct (g := fun x => !g x) (S := Res.star [pt b3 (cl [.func (.func kf) #[] cp] 126), S]) (hv.mono (rd_in (.there .here)) fun _ _ _ h => h) hl en107 fun x hx us hus hX => reads_one (an107_ct hus hE (hf x hx us hus hX)))) ?_))))))))
 refine sV (v_not rfl) (sV (vA rfl) (sN (nK [4] rfl (nT (cT ?_)))))
 rw [all_any]
 exact xt_rt rfl ⟨rfl, rfl⟩
set_option maxRecDepth 100000 in
theorem ix183_ct (hv : Row S 2 X v l) (hl : l.length ≤ 1000000) (hE : Enters Tryz.prog kf) (hf : ∀ x ∈ l, ∀ us, us.length = 2 → X us x → Reads Tryz.prog kf (#[] ++ [Value.agg us.toArray].toArray ++ cp) [S] (.bool (g x))) :
  Reads Tryz.prog 183 #[v, .func (.func kf) #[] cp] [S] (.int .i64 (ixF g l)) := by
 obtain ⟨a, cap, hv1, _⟩ := id hv
 refine ct_of (n := 19) Tryz.func183 rfl rfl (len rfl) fun hr w0 => ?_
 refine cS (cR (sV (vA rfl) (sN (nT (cS (cS (cR (sV (vM rfl) (sV (v_len (congrArg some hv1) Tryz.underlying118) (sV (vM rfl) (sN (nK [0, 1, 4, 7, 8] rfl (nT (cB (cd_lp (σ := Nat) (fun i => [(0, v), (1, .func (.func kf) #[] cp), (7, .int .i64 l.length), (8, .int .i64 (i : Nat))]) (fun _ => S :: hr) (fun i => i ≤ l.length ∧ ∀ (j : Nat) (y : α), j < i → l[j]? = some y → g y = false) (fun i => l.length - i) 0 ⟨Nat.zero_le _, fun j y hj => by omega⟩ ?_)))))))))))))))
 rintro i ⟨hi, hne⟩
 refine cS (cR (sV (v_lss rfl rfl) (sN (nT (cS (cC rfl (fun hd => ?_) (fun hd => ?_)))))))
 ·skip
  have hlt : i < l.length := by simpa using hd
  obtain ⟨b, o, cp2, us, hv2, hus, hrd, hx⟩ := hv.at (List.getElem?_eq_getElem hlt)
  refine cK (xT (cS (cB (cS (cR (sV (vM rfl) (sV (vA rfl) (sN (nK [0, 1, 5, 7, 8] rfl (nT (cS (cR (sV (vM rfl) (sV (vM rfl) (sV (vM rfl) ?_)))))))))))))))
  refine sV (vI (k := i) (congrArg some hv2) rfl sl118 rfl hlt rfl) (sV (v_ldn rfl ld117 hus hrd) ?_)
  refine st_clr rfl rfl hE rfl ((hf l[i] (List.getElem_mem hlt) us hus hx)) ?_
  refine sN (nK [0, 1, 5, 7, 8, 16] rfl (nT (cC rfl (fun he => ?_) (fun he => ?_))))
  ·skip
   refine cS (cR (sV (vM rfl) (sV (vA rfl) (sN (nK [0, 1, 4, 7, 8] rfl (nT (cT (xW (xR (xR (xW (xR ?_))))))))))))
   rw [ixF_some hlt he hne]
   exact xt_rt rfl ⟨rfl, rfl⟩
  ·skip
   refine cK (xB (xT (cR (sV (v_add rfl rfl (by unfold I64 at *; omega)) (sV (vM rfl) (sN (nK [0, 1, 7, 8] rfl (nx_xt (xt_ag (i + 1) ⟨hlt, fun j y hj hy => ?_⟩ (by show _ - _ < _ - _; omega))))))))))
   by_cases hji : j = i
   ·subst hji; rw [List.getElem?_eq_getElem hlt] at hy; cases hy; exact he
   ·exact hne j y (by omega) hy
 ·skip
  refine cd_exit (xE (xE (xY (xT (cS (cR (sV (vA rfl) (sN (nK [4] rfl (nT (cT ?_)))))))))))
  have hil : i = l.length := by
   have : ¬ i < l.length := by simpa using hd
   omega
  rw [ixF_none (fun j y hj => hne j y (by omega))]
  exact xt_rt rfl ⟨rfl, rfl⟩
set_option maxRecDepth 100000 in
theorem cf162_ct (hv : Row S 2 X v l) (hl : l.length ≤ 1000000) (hE : Enters Tryz.prog kf) (hf : ∀ x ∈ l, ∀ us, us.length = 2 → X us x → Reads Tryz.prog kf (#[] ++ [Value.agg us.toArray].toArray ++ cp) [S] (.bool (g x))) :
  Reads Tryz.prog 162 #[v, .func (.func kf) #[] cp] [S] (.bool (l.any g)) := by
 refine ct_of (n := 9) Tryz.func162 rfl rfl (len rfl) fun hr w0 => ?_
 refine cS (cR (sV (vA rfl) (sN (nT (cS (cR (sV (vM rfl) (sV (vM rfl) (st_clr rfl rfl en183 rfl (ix183_ct (g := g) hv hl hE hf) ?_)))))))))
 refine sV (v_geq rfl rfl) (sV (vA rfl) (sN (nK [4] rfl (nT (cT ?_)))))
 rw [ixF_has]
 exact xt_rt rfl ⟨rfl, rfl⟩
set_option maxRecDepth 100000 in
theorem an163_ct {us : List Value} {x : α} {bb : Nat} (hus : us.length = 2) (hE : Enters Tryz.prog kf) (hf : Reads Tryz.prog kf (#[] ++ [Value.agg us.toArray].toArray ++ cp) [S] (.bool (g x))) :
  Reads Tryz.prog 163 #[.agg us.toArray, .pointer (some ⟨bb, 0, none⟩)] [pt bb (cl [.func (.func kf) #[] cp] 188), S] (.bool (!g x)) := by
 refine ct_of (n := 8) Tryz.func163 rfl rfl (len rfl) fun hr w0 => ?_
 refine cS (cR (st_bx rfl rfl fun b2 => ?_))
 refine sV (vA rfl) (sN (nK [1, 2, 3] rfl (nT (cS (cR (sV (vY rfl ld188) ?_))))))
 refine sV (v_ldn rfl ld117 hus rds_pt) ?_
 refine st_clr rfl rfl hE rfl (hf) ?_
 refine sV (v_not rfl) (sV (vA rfl) (sN (nK [3] rfl (nT (cT ?_)))))
 exact xt_rt rfl ⟨rfl, rfl⟩
set_option maxRecDepth 100000 in
theorem al136_ct (hv : Row S 2 X v l) (hl : l.length ≤ 1000000) (hE : Enters Tryz.prog kf) (hf : ∀ x ∈ l, ∀ us, us.length = 2 → X us x → Reads Tryz.prog kf (#[] ++ [Value.agg us.toArray].toArray ++ cp) [S] (.bool (g x))) :
  Reads Tryz.prog 136 #[v, .func (.func kf) #[] cp] [S] (.bool (l.all g)) := by
 refine ct_of (n := 9) Tryz.func136 rfl rfl (len rfl) fun hr w0 => ?_
 refine cS (cR (st_bx rfl rfl fun b3 => ?_))
 refine sV (vA rfl) (sN (nK [0, 3, 4] rfl (nT (cS (cR (sV (vM rfl) (sV (v_makeFunc rfl rfl) (st_clr rfl rfl en162 rfl (reads_star (cf162_ct (g := fun x => !g x) (S := Res.star [pt b3 (cl [.func (.func kf) #[] cp] 188), S]) (hv.mono (rd_in (.there .here)) fun _ _ _ h => h) hl en163 fun x hx us hus hX => reads_one (an163_ct hus hE (hf x hx us hus hX)))) ?_))))))))
 refine sV (v_not rfl) (sV (vA rfl) (sN (nK [4] rfl (nT (cT ?_)))))
 rw [all_any]
 exact xt_rt rfl ⟨rfl, rfl⟩
set_option maxRecDepth 100000 in
theorem ix184_ct (hv : Row S 5 X v l) (hl : l.length ≤ 1000000) (hE : Enters Tryz.prog kf) (hf : ∀ x ∈ l, ∀ us, us.length = 5 → X us x → Reads Tryz.prog kf (#[] ++ [Value.agg us.toArray].toArray ++ cp) [S] (.bool (g x))) :
  Reads Tryz.prog 184 #[v, .func (.func kf) #[] cp] [S] (.int .i64 (ixF g l)) := by
 obtain ⟨a, cap, hv1, _⟩ := id hv
 refine ct_of (n := 19) Tryz.func184 rfl rfl (len rfl) fun hr w0 => ?_
 refine cS (cR (sV (vA rfl) (sN (nT (cS (cS (cR (sV (vM rfl) (sV (v_len (congrArg some hv1) Tryz.underlying73) (sV (vM rfl) (sN (nK [0, 1, 4, 7, 8] rfl (nT (cB (cd_lp (σ := Nat) (fun i => [(0, v), (1, .func (.func kf) #[] cp), (7, .int .i64 l.length), (8, .int .i64 (i : Nat))]) (fun _ => S :: hr) (fun i => i ≤ l.length ∧ ∀ (j : Nat) (y : α), j < i → l[j]? = some y → g y = false) (fun i => l.length - i) 0 ⟨Nat.zero_le _, fun j y hj => by omega⟩ ?_)))))))))))))))
 rintro i ⟨hi, hne⟩
 refine cS (cR (sV (v_lss rfl rfl) (sN (nT (cS (cC rfl (fun hd => ?_) (fun hd => ?_)))))))
 ·skip
  have hlt : i < l.length := by simpa using hd
  obtain ⟨b, o, cp2, us, hv2, hus, hrd, hx⟩ := hv.at (List.getElem?_eq_getElem hlt)
  refine cK (xT (cS (cB (cS (cR (sV (vM rfl) (sV (vA rfl) (sN (nK [0, 1, 5, 7, 8] rfl (nT (cS (cR (sV (vM rfl) (sV (vM rfl) (sV (vM rfl) ?_)))))))))))))))
  refine sV (vI (k := i) (congrArg some hv2) rfl sl73 rfl hlt rfl) (sV (v_ldn rfl ld120 hus hrd) ?_)
  refine st_clr rfl rfl hE rfl ((hf l[i] (List.getElem_mem hlt) us hus hx)) ?_
  refine sN (nK [0, 1, 5, 7, 8, 16] rfl (nT (cC rfl (fun he => ?_) (fun he => ?_))))
  ·skip
   refine cS (cR (sV (vM rfl) (sV (vA rfl) (sN (nK [0, 1, 4, 7, 8] rfl (nT (cT (xW (xR (xR (xW (xR ?_))))))))))))
   rw [ixF_some hlt he hne]
   exact xt_rt rfl ⟨rfl, rfl⟩
  ·skip
   refine cK (xB (xT (cR (sV (v_add rfl rfl (by unfold I64 at *; omega)) (sV (vM rfl) (sN (nK [0, 1, 7, 8] rfl (nx_xt (xt_ag (i + 1) ⟨hlt, fun j y hj hy => ?_⟩ (by show _ - _ < _ - _; omega))))))))))
   by_cases hji : j = i
   ·subst hji; rw [List.getElem?_eq_getElem hlt] at hy; cases hy; exact he
   ·exact hne j y (by omega) hy
 ·skip
  refine cd_exit (xE (xE (xY (xT (cS (cR (sV (vA rfl) (sN (nK [4] rfl (nT (cT ?_)))))))))))
  have hil : i = l.length := by
   have : ¬ i < l.length := by simpa using hd
   omega
  rw [ixF_none (fun j y hj => hne j y (by omega))]
  exact xt_rt rfl ⟨rfl, rfl⟩
set_option maxRecDepth 100000 in
theorem cf164_ct (hv : Row S 5 X v l) (hl : l.length ≤ 1000000) (hE : Enters Tryz.prog kf) (hf : ∀ x ∈ l, ∀ us, us.length = 5 → X us x → Reads Tryz.prog kf (#[] ++ [Value.agg us.toArray].toArray ++ cp) [S] (.bool (g x))) :
  Reads Tryz.prog 164 #[v, .func (.func kf) #[] cp] [S] (.bool (l.any g)) := by
 refine ct_of (n := 9) Tryz.func164 rfl rfl (len rfl) fun hr w0 => ?_
 refine cS (cR (sV (vA rfl) (sN (nT (cS (cR (sV (vM rfl) (sV (vM rfl) (st_clr rfl rfl en184 rfl (ix184_ct (g := g) hv hl hE hf) ?_)))))))))
 refine sV (v_geq rfl rfl) (sV (vA rfl) (sN (nK [4] rfl (nT (cT ?_)))))
 rw [ixF_has]
 exact xt_rt rfl ⟨rfl, rfl⟩
set_option maxRecDepth 100000 in
theorem an165_ct {us : List Value} {x : α} {bb : Nat} (hus : us.length = 5) (hE : Enters Tryz.prog kf) (hf : Reads Tryz.prog kf (#[] ++ [Value.agg us.toArray].toArray ++ cp) [S] (.bool (g x))) :
  Reads Tryz.prog 165 #[.agg us.toArray, .pointer (some ⟨bb, 0, none⟩)] [pt bb (cl [.func (.func kf) #[] cp] 190), S] (.bool (!g x)) := by
 refine ct_of (n := 8) Tryz.func165 rfl rfl (len rfl) fun hr w0 => ?_
 refine cS (cR (st_bx rfl rfl fun b2 => ?_))
 refine sV (vA rfl) (sN (nK [1, 2, 3] rfl (nT (cS (cR (sV (vY rfl ld190) ?_))))))
 refine sV (v_ldn rfl ld120 hus rds_pt) ?_
 refine st_clr rfl rfl hE rfl (hf) ?_
 refine sV (v_not rfl) (sV (vA rfl) (sN (nK [3] rfl (nT (cT ?_)))))
 exact xt_rt rfl ⟨rfl, rfl⟩
set_option maxRecDepth 100000 in
theorem al139_ct (hv : Row S 5 X v l) (hl : l.length ≤ 1000000) (hE : Enters Tryz.prog kf) (hf : ∀ x ∈ l, ∀ us, us.length = 5 → X us x → Reads Tryz.prog kf (#[] ++ [Value.agg us.toArray].toArray ++ cp) [S] (.bool (g x))) :
  Reads Tryz.prog 139 #[v, .func (.func kf) #[] cp] [S] (.bool (l.all g)) := by
 refine ct_of (n := 9) Tryz.func139 rfl rfl (len rfl) fun hr w0 => ?_
 refine cS (cR (st_bx rfl rfl fun b3 => ?_))
 refine sV (vA rfl) (sN (nK [0, 3, 4] rfl (nT (cS (cR (sV (vM rfl) (sV (v_makeFunc rfl rfl) (st_clr rfl rfl en164 rfl (reads_star (cf164_ct (g := fun x => !g x) (S := Res.star [pt b3 (cl [.func (.func kf) #[] cp] 190), S]) (hv.mono (rd_in (.there .here)) fun _ _ _ h => h) hl en165 fun x hx us hus hX => reads_one (an165_ct hus hE (hf x hx us hus hX)))) ?_))))))))
 refine sV (v_not rfl) (sV (vA rfl) (sN (nK [4] rfl (nT (cT ?_)))))
 rw [all_any]
 exact xt_rt rfl ⟨rfl, rfl⟩
set_option maxRecDepth 100000 in
theorem ix185_ct (hv : Row S 2 X v l) (hl : l.length ≤ 1000000) (hE : Enters Tryz.prog kf) (hf : ∀ x ∈ l, ∀ us, us.length = 2 → X us x → Reads Tryz.prog kf (#[] ++ [Value.agg us.toArray].toArray ++ cp) [S] (.bool (g x))) :
  Reads Tryz.prog 185 #[v, .func (.func kf) #[] cp] [S] (.int .i64 (ixF g l)) := by
 obtain ⟨a, cap, hv1, _⟩ := id hv
 refine ct_of (n := 19) Tryz.func185 rfl rfl (len rfl) fun hr w0 => ?_
 refine cS (cR (sV (vA rfl) (sN (nT (cS (cS (cR (sV (vM rfl) (sV (v_len (congrArg some hv1) Tryz.underlying74) (sV (vM rfl) (sN (nK [0, 1, 4, 7, 8] rfl (nT (cB (cd_lp (σ := Nat) (fun i => [(0, v), (1, .func (.func kf) #[] cp), (7, .int .i64 l.length), (8, .int .i64 (i : Nat))]) (fun _ => S :: hr) (fun i => i ≤ l.length ∧ ∀ (j : Nat) (y : α), j < i → l[j]? = some y → g y = false) (fun i => l.length - i) 0 ⟨Nat.zero_le _, fun j y hj => by omega⟩ ?_)))))))))))))))
 rintro i ⟨hi, hne⟩
 refine cS (cR (sV (v_lss rfl rfl) (sN (nT (cS (cC rfl (fun hd => ?_) (fun hd => ?_)))))))
 ·skip
  have hlt : i < l.length := by simpa using hd
  obtain ⟨b, o, cp2, us, hv2, hus, hrd, hx⟩ := hv.at (List.getElem?_eq_getElem hlt)
  refine cK (xT (cS (cB (cS (cR (sV (vM rfl) (sV (vA rfl) (sN (nK [0, 1, 5, 7, 8] rfl (nT (cS (cR (sV (vM rfl) (sV (vM rfl) (sV (vM rfl) ?_)))))))))))))))
  refine sV (vI (k := i) (congrArg some hv2) rfl sl74 rfl hlt rfl) (sV (v_ldn rfl ld79 hus hrd) ?_)
  refine st_clr rfl rfl hE rfl ((hf l[i] (List.getElem_mem hlt) us hus hx)) ?_
  refine sN (nK [0, 1, 5, 7, 8, 16] rfl (nT (cC rfl (fun he => ?_) (fun he => ?_))))
  ·skip
   refine cS (cR (sV (vM rfl) (sV (vA rfl) (sN (nK [0, 1, 4, 7, 8] rfl (nT (cT (xW (xR (xR (xW (xR ?_))))))))))))
   rw [ixF_some hlt he hne]
   exact xt_rt rfl ⟨rfl, rfl⟩
  ·skip
   refine cK (xB (xT (cR (sV (v_add rfl rfl (by unfold I64 at *; omega)) (sV (vM rfl) (sN (nK [0, 1, 7, 8] rfl (nx_xt (xt_ag (i + 1) ⟨hlt, fun j y hj hy => ?_⟩ (by show _ - _ < _ - _; omega))))))))))
   by_cases hji : j = i
   ·subst hji; rw [List.getElem?_eq_getElem hlt] at hy; cases hy; exact he
   ·exact hne j y (by omega) hy
 ·skip
  refine cd_exit (xE (xE (xY (xT (cS (cR (sV (vA rfl) (sN (nK [4] rfl (nT (cT ?_)))))))))))
  have hil : i = l.length := by
   have : ¬ i < l.length := by simpa using hd
   omega
  rw [ixF_none (fun j y hj => hne j y (by omega))]
  exact xt_rt rfl ⟨rfl, rfl⟩
set_option maxRecDepth 100000 in
theorem cf166_ct (hv : Row S 2 X v l) (hl : l.length ≤ 1000000) (hE : Enters Tryz.prog kf) (hf : ∀ x ∈ l, ∀ us, us.length = 2 → X us x → Reads Tryz.prog kf (#[] ++ [Value.agg us.toArray].toArray ++ cp) [S] (.bool (g x))) :
  Reads Tryz.prog 166 #[v, .func (.func kf) #[] cp] [S] (.bool (l.any g)) := by
 refine ct_of (n := 9) Tryz.func166 rfl rfl (len rfl) fun hr w0 => ?_
 refine cS (cR (sV (vA rfl) (sN (nT (cS (cR (sV (vM rfl) (sV (vM rfl) (st_clr rfl rfl en185 rfl (ix185_ct (g := g) hv hl hE hf) ?_)))))))))
 refine sV (v_geq rfl rfl) (sV (vA rfl) (sN (nK [4] rfl (nT (cT ?_)))))
 rw [ixF_has]
 exact xt_rt rfl ⟨rfl, rfl⟩
set_option maxRecDepth 100000 in
theorem an167_ct {us : List Value} {x : α} {bb : Nat} (hus : us.length = 2) (hE : Enters Tryz.prog kf) (hf : Reads Tryz.prog kf (#[] ++ [Value.agg us.toArray].toArray ++ cp) [S] (.bool (g x))) :
  Reads Tryz.prog 167 #[.agg us.toArray, .pointer (some ⟨bb, 0, none⟩)] [pt bb (cl [.func (.func kf) #[] cp] 187), S] (.bool (!g x)) := by
 refine ct_of (n := 8) Tryz.func167 rfl rfl (len rfl) fun hr w0 => ?_
 refine cS (cR (st_bx rfl rfl fun b2 => ?_))
 refine sV (vA rfl) (sN (nK [1, 2, 3] rfl (nT (cS (cR (sV (vY rfl ld187) ?_))))))
 refine sV (v_ldn rfl ld79 hus rds_pt) ?_
 refine st_clr rfl rfl hE rfl (hf) ?_
 refine sV (v_not rfl) (sV (vA rfl) (sN (nK [3] rfl (nT (cT ?_)))))
 exact xt_rt rfl ⟨rfl, rfl⟩
set_option maxRecDepth 100000 in
theorem al140_ct (hv : Row S 2 X v l) (hl : l.length ≤ 1000000) (hE : Enters Tryz.prog kf) (hf : ∀ x ∈ l, ∀ us, us.length = 2 → X us x → Reads Tryz.prog kf (#[] ++ [Value.agg us.toArray].toArray ++ cp) [S] (.bool (g x))) :
  Reads Tryz.prog 140 #[v, .func (.func kf) #[] cp] [S] (.bool (l.all g)) := by
 refine ct_of (n := 9) Tryz.func140 rfl rfl (len rfl) fun hr w0 => ?_
 refine cS (cR (st_bx rfl rfl fun b3 => ?_))
 refine sV (vA rfl) (sN (nK [0, 3, 4] rfl (nT (cS (cR (sV (vM rfl) (sV (v_makeFunc rfl rfl) (st_clr rfl rfl en166 rfl (reads_star (cf166_ct (g := fun x => !g x) (S := Res.star [pt b3 (cl [.func (.func kf) #[] cp] 187), S]) (hv.mono (rd_in (.there .here)) fun _ _ _ h => h) hl en167 fun x hx us hus hX => reads_one (an167_ct hus hE (hf x hx us hus hX)))) ?_))))))))
 refine sV (v_not rfl) (sV (vA rfl) (sN (nK [4] rfl (nT (cT ?_)))))
 rw [all_any]
 exact xt_rt rfl ⟨rfl, rfl⟩
set_option maxRecDepth 100000 in
theorem ix186_ct (hv : Row S 4 X v l) (hl : l.length ≤ 1000000) (hE : Enters Tryz.prog kf) (hf : ∀ x ∈ l, ∀ us, us.length = 4 → X us x → Reads Tryz.prog kf (#[] ++ [Value.agg us.toArray].toArray ++ cp) [S] (.bool (g x))) :
  Reads Tryz.prog 186 #[v, .func (.func kf) #[] cp] [S] (.int .i64 (ixF g l)) := by
 obtain ⟨a, cap, hv1, _⟩ := id hv
 refine ct_of (n := 19) Tryz.func186 rfl rfl (len rfl) fun hr w0 => ?_
 refine cS (cR (sV (vA rfl) (sN (nT (cS (cS (cR (sV (vM rfl) (sV (v_len (congrArg some hv1) Tryz.underlying75) (sV (vM rfl) (sN (nK [0, 1, 4, 7, 8] rfl (nT (cB (cd_lp (σ := Nat) (fun i => [(0, v), (1, .func (.func kf) #[] cp), (7, .int .i64 l.length), (8, .int .i64 (i : Nat))]) (fun _ => S :: hr) (fun i => i ≤ l.length ∧ ∀ (j : Nat) (y : α), j < i → l[j]? = some y → g y = false) (fun i => l.length - i) 0 ⟨Nat.zero_le _, fun j y hj => by omega⟩ ?_)))))))))))))))
 rintro i ⟨hi, hne⟩
 refine cS (cR (sV (v_lss rfl rfl) (sN (nT (cS (cC rfl (fun hd => ?_) (fun hd => ?_)))))))
 ·skip
  have hlt : i < l.length := by simpa using hd
  obtain ⟨b, o, cp2, us, hv2, hus, hrd, hx⟩ := hv.at (List.getElem?_eq_getElem hlt)
  refine cK (xT (cS (cB (cS (cR (sV (vM rfl) (sV (vA rfl) (sN (nK [0, 1, 5, 7, 8] rfl (nT (cS (cR (sV (vM rfl) (sV (vM rfl) (sV (vM rfl) ?_)))))))))))))))
  refine sV (vI (k := i) (congrArg some hv2) rfl sl75 rfl hlt rfl) (sV (v_ldn rfl ld161 hus hrd) ?_)
  refine st_clr rfl rfl hE rfl ((hf l[i] (List.getElem_mem hlt) us hus hx)) ?_
  refine sN (nK [0, 1, 5, 7, 8, 16] rfl (nT (cC rfl (fun he => ?_) (fun he => ?_))))
  ·skip
   refine cS (cR (sV (vM rfl) (sV (vA rfl) (sN (nK [0, 1, 4, 7, 8] rfl (nT (cT (xW (xR (xR (xW (xR ?_))))))))))))
   rw [ixF_some hlt he hne]
   exact xt_rt rfl ⟨rfl, rfl⟩
  ·skip
   refine cK (xB (xT (cR (sV (v_add rfl rfl (by unfold I64 at *; omega)) (sV (vM rfl) (sN (nK [0, 1, 7, 8] rfl (nx_xt (xt_ag (i + 1) ⟨hlt, fun j y hj hy => ?_⟩ (by show _ - _ < _ - _; omega))))))))))
   by_cases hji : j = i
   ·subst hji; rw [List.getElem?_eq_getElem hlt] at hy; cases hy; exact he
   ·exact hne j y (by omega) hy
 ·skip
  refine cd_exit (xE (xE (xY (xT (cS (cR (sV (vA rfl) (sN (nK [4] rfl (nT (cT ?_)))))))))))
  have hil : i = l.length := by
   have : ¬ i < l.length := by simpa using hd
   omega
  rw [ixF_none (fun j y hj => hne j y (by omega))]
  exact xt_rt rfl ⟨rfl, rfl⟩
set_option maxRecDepth 100000 in
theorem cf168_ct (hv : Row S 4 X v l) (hl : l.length ≤ 1000000) (hE : Enters Tryz.prog kf) (hf : ∀ x ∈ l, ∀ us, us.length = 4 → X us x → Reads Tryz.prog kf (#[] ++ [Value.agg us.toArray].toArray ++ cp) [S] (.bool (g x))) :
  Reads Tryz.prog 168 #[v, .func (.func kf) #[] cp] [S] (.bool (l.any g)) := by
 refine ct_of (n := 9) Tryz.func168 rfl rfl (len rfl) fun hr w0 => ?_
 refine cS (cR (sV (vA rfl) (sN (nT (cS (cR (sV (vM rfl) (sV (vM rfl) (st_clr rfl rfl en186 rfl (ix186_ct (g := g) hv hl hE hf) ?_)))))))))
 refine sV (v_geq rfl rfl) (sV (vA rfl) (sN (nK [4] rfl (nT (cT ?_)))))
 rw [ixF_has]
 exact xt_rt rfl ⟨rfl, rfl⟩
set_option maxRecDepth 100000 in
theorem an169_ct {us : List Value} {x : α} {bb : Nat} (hus : us.length = 4) (hE : Enters Tryz.prog kf) (hf : Reads Tryz.prog kf (#[] ++ [Value.agg us.toArray].toArray ++ cp) [S] (.bool (g x))) :
  Reads Tryz.prog 169 #[.agg us.toArray, .pointer (some ⟨bb, 0, none⟩)] [pt bb (cl [.func (.func kf) #[] cp] 191), S] (.bool (!g x)) := by
 refine ct_of (n := 8) Tryz.func169 rfl rfl (len rfl) fun hr w0 => ?_
 refine cS (cR (st_bx rfl rfl fun b2 => ?_))
 refine sV (vA rfl) (sN (nK [1, 2, 3] rfl (nT (cS (cR (sV (vY rfl ld191) ?_))))))
 refine sV (v_ldn rfl ld161 hus rds_pt) ?_
 refine st_clr rfl rfl hE rfl (hf) ?_
 refine sV (v_not rfl) (sV (vA rfl) (sN (nK [3] rfl (nT (cT ?_)))))
 exact xt_rt rfl ⟨rfl, rfl⟩
set_option maxRecDepth 100000 in
theorem al141_ct (hv : Row S 4 X v l) (hl : l.length ≤ 1000000) (hE : Enters Tryz.prog kf) (hf : ∀ x ∈ l, ∀ us, us.length = 4 → X us x → Reads Tryz.prog kf (#[] ++ [Value.agg us.toArray].toArray ++ cp) [S] (.bool (g x))) :
  Reads Tryz.prog 141 #[v, .func (.func kf) #[] cp] [S] (.bool (l.all g)) := by
 refine ct_of (n := 9) Tryz.func141 rfl rfl (len rfl) fun hr w0 => ?_
 refine cS (cR (st_bx rfl rfl fun b3 => ?_))
 refine sV (vA rfl) (sN (nK [0, 3, 4] rfl (nT (cS (cR (sV (vM rfl) (sV (v_makeFunc rfl rfl) (st_clr rfl rfl en168 rfl (reads_star (cf168_ct (g := fun x => !g x) (S := Res.star [pt b3 (cl [.func (.func kf) #[] cp] 191), S]) (hv.mono (rd_in (.there .here)) fun _ _ _ h => h) hl en169 fun x hx us hus hX => reads_one (an169_ct hus hE (hf x hx us hus hX)))) ?_))))))))
 refine sV (v_not rfl) (sV (vA rfl) (sN (nK [4] rfl (nT (cT ?_)))))
 rw [all_any]
 exact xt_rt rfl ⟨rfl, rfl⟩
set_option maxRecDepth 100000 in
theorem ix187_ct (hv : Row S 5 X v l) (hl : l.length ≤ 1000000) (hE : Enters Tryz.prog kf) (hf : ∀ x ∈ l, ∀ us, us.length = 5 → X us x → Reads Tryz.prog kf (#[] ++ [Value.agg us.toArray].toArray ++ cp) [S] (.bool (g x))) :
  Reads Tryz.prog 187 #[v, .func (.func kf) #[] cp] [S] (.int .i64 (ixF g l)) := by
 obtain ⟨a, cap, hv1, _⟩ := id hv
 refine ct_of (n := 19) Tryz.func187 rfl rfl (len rfl) fun hr w0 => ?_
 refine cS (cR (sV (vA rfl) (sN (nT (cS (cS (cR (sV (vM rfl) (sV (v_len (congrArg some hv1) Tryz.underlying62) (sV (vM rfl) (sN (nK [0, 1, 4, 7, 8] rfl (nT (cB (cd_lp (σ := Nat) (fun i => [(0, v), (1, .func (.func kf) #[] cp), (7, .int .i64 l.length), (8, .int .i64 (i : Nat))]) (fun _ => S :: hr) (fun i => i ≤ l.length ∧ ∀ (j : Nat) (y : α), j < i → l[j]? = some y → g y = false) (fun i => l.length - i) 0 ⟨Nat.zero_le _, fun j y hj => by omega⟩ ?_)))))))))))))))
 rintro i ⟨hi, hne⟩
 refine cS (cR (sV (v_lss rfl rfl) (sN (nT (cS (cC rfl (fun hd => ?_) (fun hd => ?_)))))))
 ·skip
  have hlt : i < l.length := by simpa using hd
  obtain ⟨b, o, cp2, us, hv2, hus, hrd, hx⟩ := hv.at (List.getElem?_eq_getElem hlt)
  refine cK (xT (cS (cB (cS (cR (sV (vM rfl) (sV (vA rfl) (sN (nK [0, 1, 5, 7, 8] rfl (nT (cS (cR (sV (vM rfl) (sV (vM rfl) (sV (vM rfl) ?_)))))))))))))))
  refine sV (vI (k := i) (congrArg some hv2) rfl sl62 rfl hlt rfl) (sV (v_ldn rfl ld81 hus hrd) ?_)
  refine st_clr rfl rfl hE rfl ((hf l[i] (List.getElem_mem hlt) us hus hx)) ?_
  refine sN (nK [0, 1, 5, 7, 8, 16] rfl (nT (cC rfl (fun he => ?_) (fun he => ?_))))
  ·skip
   refine cS (cR (sV (vM rfl) (sV (vA rfl) (sN (nK [0, 1, 4, 7, 8] rfl (nT (cT (xW (xR (xR (xW (xR ?_))))))))))))
   rw [ixF_some hlt he hne]
   exact xt_rt rfl ⟨rfl, rfl⟩
  ·skip
   refine cK (xB (xT (cR (sV (v_add rfl rfl (by unfold I64 at *; omega)) (sV (vM rfl) (sN (nK [0, 1, 7, 8] rfl (nx_xt (xt_ag (i + 1) ⟨hlt, fun j y hj hy => ?_⟩ (by show _ - _ < _ - _; omega))))))))))
   by_cases hji : j = i
   ·subst hji; rw [List.getElem?_eq_getElem hlt] at hy; cases hy; exact he
   ·exact hne j y (by omega) hy
 ·skip
  refine cd_exit (xE (xE (xY (xT (cS (cR (sV (vA rfl) (sN (nK [4] rfl (nT (cT ?_)))))))))))
  have hil : i = l.length := by
   have : ¬ i < l.length := by simpa using hd
   omega
  rw [ixF_none (fun j y hj => hne j y (by omega))]
  exact xt_rt rfl ⟨rfl, rfl⟩
set_option maxRecDepth 100000 in
theorem cf170_ct (hv : Row S 5 X v l) (hl : l.length ≤ 1000000) (hE : Enters Tryz.prog kf) (hf : ∀ x ∈ l, ∀ us, us.length = 5 → X us x → Reads Tryz.prog kf (#[] ++ [Value.agg us.toArray].toArray ++ cp) [S] (.bool (g x))) :
  Reads Tryz.prog 170 #[v, .func (.func kf) #[] cp] [S] (.bool (l.any g)) := by
 refine ct_of (n := 9) Tryz.func170 rfl rfl (len rfl) fun hr w0 => ?_
 refine cS (cR (sV (vA rfl) (sN (nT (cS (cR (sV (vM rfl) (sV (vM rfl) (st_clr rfl rfl en187 rfl (ix187_ct (g := g) hv hl hE hf) ?_)))))))))
 refine sV (v_geq rfl rfl) (sV (vA rfl) (sN (nK [4] rfl (nT (cT ?_)))))
 rw [ixF_has]
 exact xt_rt rfl ⟨rfl, rfl⟩
set_option maxRecDepth 100000 in
theorem an171_ct {us : List Value} {x : α} {bb : Nat} (hus : us.length = 5) (hE : Enters Tryz.prog kf) (hf : Reads Tryz.prog kf (#[] ++ [Value.agg us.toArray].toArray ++ cp) [S] (.bool (g x))) :
  Reads Tryz.prog 171 #[.agg us.toArray, .pointer (some ⟨bb, 0, none⟩)] [pt bb (cl [.func (.func kf) #[] cp] 192), S] (.bool (!g x)) := by
 refine ct_of (n := 8) Tryz.func171 rfl rfl (len rfl) fun hr w0 => ?_
 refine cS (cR (st_bx rfl rfl fun b2 => ?_))
 refine sV (vA rfl) (sN (nK [1, 2, 3] rfl (nT (cS (cR (sV (vY rfl ld192) ?_))))))
 refine sV (v_ldn rfl ld81 hus rds_pt) ?_
 refine st_clr rfl rfl hE rfl (hf) ?_
 refine sV (v_not rfl) (sV (vA rfl) (sN (nK [3] rfl (nT (cT ?_)))))
 exact xt_rt rfl ⟨rfl, rfl⟩
set_option maxRecDepth 100000 in
theorem al142_ct (hv : Row S 5 X v l) (hl : l.length ≤ 1000000) (hE : Enters Tryz.prog kf) (hf : ∀ x ∈ l, ∀ us, us.length = 5 → X us x → Reads Tryz.prog kf (#[] ++ [Value.agg us.toArray].toArray ++ cp) [S] (.bool (g x))) :
  Reads Tryz.prog 142 #[v, .func (.func kf) #[] cp] [S] (.bool (l.all g)) := by
 refine ct_of (n := 9) Tryz.func142 rfl rfl (len rfl) fun hr w0 => ?_
 refine cS (cR (st_bx rfl rfl fun b3 => ?_))
 refine sV (vA rfl) (sN (nK [0, 3, 4] rfl (nT (cS (cR (sV (vM rfl) (sV (v_makeFunc rfl rfl) (st_clr rfl rfl en170 rfl (reads_star (cf170_ct (g := fun x => !g x) (S := Res.star [pt b3 (cl [.func (.func kf) #[] cp] 192), S]) (hv.mono (rd_in (.there .here)) fun _ _ _ h => h) hl en171 fun x hx us hus hX => reads_one (an171_ct hus hE (hf x hx us hus hX)))) ?_))))))))
 refine sV (v_not rfl) (sV (vA rfl) (sN (nK [4] rfl (nT (cT ?_)))))
 rw [all_any]
 exact xt_rt rfl ⟨rfl, rfl⟩
set_option maxRecDepth 100000 in
theorem ix190_ct (hv : Row S 9 X v l) (hl : l.length ≤ 1000000) (hE : Enters Tryz.prog kf) (hf : ∀ x ∈ l, ∀ us, us.length = 9 → X us x → Reads Tryz.prog kf (#[] ++ [Value.agg us.toArray].toArray ++ cp) [S] (.bool (g x))) :
  Reads Tryz.prog 190 #[v, .func (.func kf) #[] cp] [S] (.int .i64 (ixF g l)) := by
 obtain ⟨a, cap, hv1, _⟩ := id hv
 refine ct_of (n := 19) Tryz.func190 rfl rfl (len rfl) fun hr w0 => ?_
 refine cS (cR (sV (vA rfl) (sN (nT (cS (cS (cR (sV (vM rfl) (sV (v_len (congrArg some hv1) Tryz.underlying25) (sV (vM rfl) (sN (nK [0, 1, 4, 7, 8] rfl (nT (cB (cd_lp (σ := Nat) (fun i => [(0, v), (1, .func (.func kf) #[] cp), (7, .int .i64 l.length), (8, .int .i64 (i : Nat))]) (fun _ => S :: hr) (fun i => i ≤ l.length ∧ ∀ (j : Nat) (y : α), j < i → l[j]? = some y → g y = false) (fun i => l.length - i) 0 ⟨Nat.zero_le _, fun j y hj => by omega⟩ ?_)))))))))))))))
 rintro i ⟨hi, hne⟩
 refine cS (cR (sV (v_lss rfl rfl) (sN (nT (cS (cC rfl (fun hd => ?_) (fun hd => ?_)))))))
 ·skip
  have hlt : i < l.length := by simpa using hd
  obtain ⟨b, o, cp2, us, hv2, hus, hrd, hx⟩ := hv.at (List.getElem?_eq_getElem hlt)
  refine cK (xT (cS (cB (cS (cR (sV (vM rfl) (sV (vA rfl) (sN (nK [0, 1, 5, 7, 8] rfl (nT (cS (cR (sV (vM rfl) (sV (vM rfl) (sV (vM rfl) ?_)))))))))))))))
  refine sV (vI (k := i) (congrArg some hv2) rfl sl25 rfl hlt rfl) (sV (v_ldn rfl ld77 hus hrd) ?_)
  refine st_clr rfl rfl hE rfl ((hf l[i] (List.getElem_mem hlt) us hus hx)) ?_
  refine sN (nK [0, 1, 5, 7, 8, 16] rfl (nT (cC rfl (fun he => ?_) (fun he => ?_))))
  ·skip
   refine cS (cR (sV (vM rfl) (sV (vA rfl) (sN (nK [0, 1, 4, 7, 8] rfl (nT (cT (xW (xR (xR (xW (xR ?_))))))))))))
   rw [ixF_some hlt he hne]
   exact xt_rt rfl ⟨rfl, rfl⟩
  ·skip
   refine cK (xB (xT (cR (sV (v_add rfl rfl (by unfold I64 at *; omega)) (sV (vM rfl) (sN (nK [0, 1, 7, 8] rfl (nx_xt (xt_ag (i + 1) ⟨hlt, fun j y hj hy => ?_⟩ (by show _ - _ < _ - _; omega))))))))))
   by_cases hji : j = i
   ·subst hji; rw [List.getElem?_eq_getElem hlt] at hy; cases hy; exact he
   ·exact hne j y (by omega) hy
 ·skip
  refine cd_exit (xE (xE (xY (xT (cS (cR (sV (vA rfl) (sN (nK [4] rfl (nT (cT ?_)))))))))))
  have hil : i = l.length := by
   have : ¬ i < l.length := by simpa using hd
   omega
  rw [ixF_none (fun j y hj => hne j y (by omega))]
  exact xt_rt rfl ⟨rfl, rfl⟩
set_option maxRecDepth 100000 in
theorem cf179_ct (hv : Row S 9 X v l) (hl : l.length ≤ 1000000) (hE : Enters Tryz.prog kf) (hf : ∀ x ∈ l, ∀ us, us.length = 9 → X us x → Reads Tryz.prog kf (#[] ++ [Value.agg us.toArray].toArray ++ cp) [S] (.bool (g x))) :
  Reads Tryz.prog 179 #[v, .func (.func kf) #[] cp] [S] (.bool (l.any g)) := by
 refine ct_of (n := 9) Tryz.func179 rfl rfl (len rfl) fun hr w0 => ?_
 refine cS (cR (sV (vA rfl) (sN (nT (cS (cR (sV (vM rfl) (sV (vM rfl) (st_clr rfl rfl en190 rfl (ix190_ct (g := g) hv hl hE hf) ?_)))))))))
 refine sV (v_geq rfl rfl) (sV (vA rfl) (sN (nK [4] rfl (nT (cT ?_)))))
 rw [ixF_has]
 exact xt_rt rfl ⟨rfl, rfl⟩
set_option maxRecDepth 100000 in
theorem an180_ct {us : List Value} {x : α} {bb : Nat} (hus : us.length = 9) (hE : Enters Tryz.prog kf) (hf : Reads Tryz.prog kf (#[] ++ [Value.agg us.toArray].toArray ++ cp) [S] (.bool (g x))) :
  Reads Tryz.prog 180 #[.agg us.toArray, .pointer (some ⟨bb, 0, none⟩)] [pt bb (cl [.func (.func kf) #[] cp] 205), S] (.bool (!g x)) := by
 refine ct_of (n := 8) Tryz.func180 rfl rfl (len rfl) fun hr w0 => ?_
 refine cS (cR (st_bx rfl rfl fun b2 => ?_))
 refine sV (vA rfl) (sN (nK [1, 2, 3] rfl (nT (cS (cR (sV (vY rfl ld205) ?_))))))
 refine sV (v_ldn rfl ld77 hus rds_pt) ?_
 refine st_clr rfl rfl hE rfl (hf) ?_
 refine sV (v_not rfl) (sV (vA rfl) (sN (nK [3] rfl (nT (cT ?_)))))
 exact xt_rt rfl ⟨rfl, rfl⟩
set_option maxRecDepth 100000 in
theorem al149_ct (hv : Row S 9 X v l) (hl : l.length ≤ 1000000) (hE : Enters Tryz.prog kf) (hf : ∀ x ∈ l, ∀ us, us.length = 9 → X us x → Reads Tryz.prog kf (#[] ++ [Value.agg us.toArray].toArray ++ cp) [S] (.bool (g x))) :
  Reads Tryz.prog 149 #[v, .func (.func kf) #[] cp] [S] (.bool (l.all g)) := by
 refine ct_of (n := 9) Tryz.func149 rfl rfl (len rfl) fun hr w0 => ?_
 refine cS (cR (st_bx rfl rfl fun b3 => ?_))
 refine sV (vA rfl) (sN (nK [0, 3, 4] rfl (nT (cS (cR (sV (vM rfl) (sV (v_makeFunc rfl rfl) (st_clr rfl rfl en179 rfl (reads_star (cf179_ct (g := fun x => !g x) (S := Res.star [pt b3 (cl [.func (.func kf) #[] cp] 205), S]) (hv.mono (rd_in (.there .here)) fun _ _ _ h => h) hl en180 fun x hx us hus hX => reads_one (an180_ct hus hE (hf x hx us hus hX)))) ?_))))))))
 refine sV (v_not rfl) (sV (vA rfl) (sN (nK [4] rfl (nT (cT ?_)))))
 rw [all_any]
 exact xt_rt rfl ⟨rfl, rfl⟩
set_option maxRecDepth 100000 in
theorem ix131_ct (hv : Row S 1 X v l) (hl : l.length ≤ 1000000) (hE : Enters Tryz.prog kf) (hf : ∀ x ∈ l, ∀ u, X [u] x → Reads Tryz.prog kf (#[] ++ [u].toArray ++ cp) [S] (.bool (g x))) :
  Reads Tryz.prog 131 #[v, .func (.func kf) #[] cp] [S] (.int .i64 (ixF g l)) := by
 obtain ⟨a, cap, hv1, _⟩ := id hv
 refine ct_of (n := 19) Tryz.func131 rfl rfl (len rfl) fun hr w0 => ?_
 refine cS (cR (sV (vA rfl) (sN (nT (cS (cS (cR (sV (vM rfl) (sV (v_len (congrArg some hv1) Tryz.underlying22) (sV (vM rfl) (sN (nK [0, 1, 4, 7, 8] rfl (nT (cB (cd_lp (σ := Nat) (fun i => [(0, v), (1, .func (.func kf) #[] cp), (7, .int .i64 l.length), (8, .int .i64 (i : Nat))]) (fun _ => S :: hr) (fun i => i ≤ l.length ∧ ∀ (j : Nat) (y : α), j < i → l[j]? = some y → g y = false) (fun i => l.length - i) 0 ⟨Nat.zero_le _, fun j y hj => by omega⟩ ?_)))))))))))))))
 rintro i ⟨hi, hne⟩
 refine cS (cR (sV (v_lss rfl rfl) (sN (nT (cS (cC rfl (fun hd => ?_) (fun hd => ?_)))))))
 ·skip
  have hlt : i < l.length := by simpa using hd
  obtain ⟨b, o, cp2, u, hv2, hrd, hx⟩ := hv.at1 (List.getElem?_eq_getElem hlt)
  refine cK (xT (cS (cB (cS (cR (sV (vM rfl) (sV (vA rfl) (sN (nK [0, 1, 5, 7, 8] rfl (nT (cS (cR (sV (vM rfl) (sV (vM rfl) (sV (vM rfl) ?_)))))))))))))))
  refine sV (vI (k := i) (congrArg some hv2) rfl sl22 rfl hlt rfl) (sV (vY rfl ld108) ?_)
  refine st_clr rfl rfl hE rfl ((hf l[i] (List.getElem_mem hlt) u hx)) ?_
  refine sN (nK [0, 1, 5, 7, 8, 16] rfl (nT (cC rfl (fun he => ?_) (fun he => ?_))))
  ·skip
   refine cS (cR (sV (vM rfl) (sV (vA rfl) (sN (nK [0, 1, 4, 7, 8] rfl (nT (cT (xW (xR (xR (xW (xR ?_))))))))))))
   rw [ixF_some hlt he hne]
   exact xt_rt rfl ⟨rfl, rfl⟩
  ·skip
   refine cK (xB (xT (cR (sV (v_add rfl rfl (by unfold I64 at *; omega)) (sV (vM rfl) (sN (nK [0, 1, 7, 8] rfl (nx_xt (xt_ag (i + 1) ⟨hlt, fun j y hj hy => ?_⟩ (by show _ - _ < _ - _; omega))))))))))
   by_cases hji : j = i
   ·subst hji; rw [List.getElem?_eq_getElem hlt] at hy; cases hy; exact he
   ·exact hne j y (by omega) hy
 ·skip
  refine cd_exit (xE (xE (xY (xT (cS (cR (sV (vA rfl) (sN (nK [4] rfl (nT (cT ?_)))))))))))
  have hil : i = l.length := by
   have : ¬ i < l.length := by simpa using hd
   omega
  rw [ixF_none (fun j y hj => hne j y (by omega))]
  exact xt_rt rfl ⟨rfl, rfl⟩
set_option maxRecDepth 100000 in
theorem cf104_ct (hv : Row S 1 X v l) (hl : l.length ≤ 1000000) (hE : Enters Tryz.prog kf) (hf : ∀ x ∈ l, ∀ u, X [u] x → Reads Tryz.prog kf (#[] ++ [u].toArray ++ cp) [S] (.bool (g x))) :
  Reads Tryz.prog 104 #[v, .func (.func kf) #[] cp] [S] (.bool (l.any g)) := by
 refine ct_of (n := 9) Tryz.func104 rfl rfl (len rfl) fun hr w0 => ?_
 refine cS (cR (sV (vA rfl) (sN (nT (cS (cR (sV (vM rfl) (sV (vM rfl) (st_clr rfl rfl en131 rfl (ix131_ct (g := g) hv hl hE hf) ?_)))))))))
 refine sV (v_geq rfl rfl) (sV (vA rfl) (sN (nK [4] rfl (nT (cT ?_)))))
 rw [ixF_has]
 exact xt_rt rfl ⟨rfl, rfl⟩
set_option maxRecDepth 100000 in
theorem an105_ct {u : Value} {x : α} {bb : Nat} (hE : Enters Tryz.prog kf) (hf : Reads Tryz.prog kf (#[] ++ [u].toArray ++ cp) [S] (.bool (g x))) :
  Reads Tryz.prog 105 #[u, .pointer (some ⟨bb, 0, none⟩)] [pt bb (cl [.func (.func kf) #[] cp] 123), S] (.bool (!g x)) := by
 refine ct_of (n := 8) Tryz.func105 rfl rfl (len rfl) fun hr w0 => ?_
 refine cS (cR (sV (vA rfl) (sN (nT (cS (cR (sV (vY rfl ld123) ?_)))))))
 refine sV (vM rfl) (st_clr rfl rfl hE rfl (hf) ?_)
 refine sV (v_not rfl) (sV (vA rfl) (sN (nK [3] rfl (nT (cT ?_)))))
 exact xt_rt rfl ⟨rfl, rfl⟩
set_option maxRecDepth 100000 in
theorem al56_ct (hv : Row S 1 X v l) (hl : l.length ≤ 1000000) (hE : Enters Tryz.prog kf) (hf : ∀ x ∈ l, ∀ u, X [u] x → Reads Tryz.prog kf (#[] ++ [u].toArray ++ cp) [S] (.bool (g x))) :
  Reads Tryz.prog 56 #[v, .func (.func kf) #[] cp] [S] (.bool (l.all g)) := by
 refine ct_of (n := 9) Tryz.func56 rfl rfl (len rfl) fun hr w0 => ?_
 refine cS (cR (st_bx rfl rfl fun b3 => ?_))
 refine sV (vA rfl) (sN (nK [0, 3, 4] rfl (nT (cS (cR (sV (vM rfl) (sV (v_makeFunc rfl rfl) (st_clr rfl rfl en104 rfl (reads_star (cf104_ct (g := fun x => !g x) (S := Res.star [pt b3 (cl [.func (.func kf) #[] cp] 123), S]) (hv.mono (rd_in (.there .here)) fun _ _ _ h => h) hl en105 fun x hx u hX => reads_one (an105_ct hE (hf x hx u hX)))) ?_))))))))
 refine sV (v_not rfl) (sV (vA rfl) (sN (nK [4] rfl (nT (cT ?_)))))
 rw [all_any]
 exact xt_rt rfl ⟨rfl, rfl⟩
set_option maxRecDepth 100000 in
theorem ix152_ct (hv : Row S 1 X v l) (hl : l.length ≤ 1000000) (hE : Enters Tryz.prog kf) (hf : ∀ x ∈ l, ∀ u, X [u] x → Reads Tryz.prog kf (#[] ++ [u].toArray ++ cp) [S] (.bool (g x))) :
  Reads Tryz.prog 152 #[v, .func (.func kf) #[] cp] [S] (.int .i64 (ixF g l)) := by
 obtain ⟨a, cap, hv1, _⟩ := id hv
 refine ct_of (n := 19) Tryz.func152 rfl rfl (len rfl) fun hr w0 => ?_
 refine cS (cR (sV (vA rfl) (sN (nT (cS (cS (cR (sV (vM rfl) (sV (v_len (congrArg some hv1) Tryz.underlying92) (sV (vM rfl) (sN (nK [0, 1, 4, 7, 8] rfl (nT (cB (cd_lp (σ := Nat) (fun i => [(0, v), (1, .func (.func kf) #[] cp), (7, .int .i64 l.length), (8, .int .i64 (i : Nat))]) (fun _ => S :: hr) (fun i => i ≤ l.length ∧ ∀ (j : Nat) (y : α), j < i → l[j]? = some y → g y = false) (fun i => l.length - i) 0 ⟨Nat.zero_le _, fun j y hj => by omega⟩ ?_)))))))))))))))
 rintro i ⟨hi, hne⟩
 refine cS (cR (sV (v_lss rfl rfl) (sN (nT (cS (cC rfl (fun hd => ?_) (fun hd => ?_)))))))
 ·skip
  have hlt : i < l.length := by simpa using hd
  obtain ⟨b, o, cp2, u, hv2, hrd, hx⟩ := hv.at1 (List.getElem?_eq_getElem hlt)
  refine cK (xT (cS (cB (cS (cR (sV (vM rfl) (sV (vA rfl) (sN (nK [0, 1, 5, 7, 8] rfl (nT (cS (cR (sV (vM rfl) (sV (vM rfl) (sV (vM rfl) ?_)))))))))))))))
  refine sV (vI (k := i) (congrArg some hv2) rfl sl92 rfl hlt rfl) (sV (vY rfl ld74) ?_)
  refine st_clr rfl rfl hE rfl ((hf l[i] (List.getElem_mem hlt) u hx)) ?_
  refine sN (nK [0, 1, 5, 7, 8, 16] rfl (nT (cC rfl (fun he => ?_) (fun he => ?_))))
  ·skip
   refine cS (cR (sV (vM rfl) (sV (vA rfl) (sN (nK [0, 1, 4, 7, 8] rfl (nT (cT (xW (xR (xR (xW (xR ?_))))))))))))
   rw [ixF_some hlt he hne]
   exact xt_rt rfl ⟨rfl, rfl⟩
  ·skip
   refine cK (xB (xT (cR (sV (v_add rfl rfl (by unfold I64 at *; omega)) (sV (vM rfl) (sN (nK [0, 1, 7, 8] rfl (nx_xt (xt_ag (i + 1) ⟨hlt, fun j y hj hy => ?_⟩ (by show _ - _ < _ - _; omega))))))))))
   by_cases hji : j = i
   ·subst hji; rw [List.getElem?_eq_getElem hlt] at hy; cases hy; exact he
   ·exact hne j y (by omega) hy
 ·skip
  refine cd_exit (xE (xE (xY (xT (cS (cR (sV (vA rfl) (sN (nK [4] rfl (nT (cT ?_)))))))))))
  have hil : i = l.length := by
   have : ¬ i < l.length := by simpa using hd
   omega
  rw [ixF_none (fun j y hj => hne j y (by omega))]
  exact xt_rt rfl ⟨rfl, rfl⟩
set_option maxRecDepth 100000 in
theorem cf123_ct (hv : Row S 1 X v l) (hl : l.length ≤ 1000000) (hE : Enters Tryz.prog kf) (hf : ∀ x ∈ l, ∀ u, X [u] x → Reads Tryz.prog kf (#[] ++ [u].toArray ++ cp) [S] (.bool (g x))) :
  Reads Tryz.prog 123 #[v, .func (.func kf) #[] cp] [S] (.bool (l.any g)) := by
 refine ct_of (n := 9) Tryz.func123 rfl rfl (len rfl) fun hr w0 => ?_
 refine cS (cR (sV (vA rfl) (sN (nT (cS (cR (sV (vM rfl) (sV (vM rfl) (st_clr rfl rfl en152 rfl (ix152_ct (g := g) hv hl hE hf) ?_)))))))))
 refine sV (v_geq rfl rfl) (sV (vA rfl) (sN (nK [4] rfl (nT (cT ?_)))))
 rw [ixF_has]
 exact xt_rt rfl ⟨rfl, rfl⟩
set_option maxRecDepth 100000 in
theorem an124_ct {u : Value} {x : α} {bb : Nat} (hE : Enters Tryz.prog kf) (hf : Reads Tryz.prog kf (#[] ++ [u].toArray ++ cp) [S] (.bool (g x))) :
  Reads Tryz.prog 124 #[u, .pointer (some ⟨bb, 0, none⟩)] [pt bb (cl [.func (.func kf) #[] cp] 149), S] (.bool (!g x)) := by
 refine ct_of (n := 8) Tryz.func124 rfl rfl (len rfl) fun hr w0 => ?_
 refine cS (cR (sV (vA rfl) (sN (nT (cS (cR (sV (vY rfl ld149) ?_)))))))
 refine sV (vM rfl) (st_clr rfl rfl hE rfl (hf) ?_)
 refine sV (v_not rfl) (sV (vA rfl) (sN (nK [3] rfl (nT (cT ?_)))))
 exact xt_rt rfl ⟨rfl, rfl⟩
set_option maxRecDepth 100000 in
theorem al83_ct (hv : Row S 1 X v l) (hl : l.length ≤ 1000000) (hE : Enters Tryz.prog kf) (hf : ∀ x ∈ l, ∀ u, X [u] x → Reads Tryz.prog kf (#[] ++ [u].toArray ++ cp) [S] (.bool (g x))) :
  Reads Tryz.prog 83 #[v, .func (.func kf) #[] cp] [S] (.bool (l.all g)) := by
 refine ct_of (n := 9) Tryz.func83 rfl rfl (len rfl) fun hr w0 => ?_
 refine cS (cR (st_bx rfl rfl fun b3 => ?_))
 refine sV (vA rfl) (sN (nK [0, 3, 4] rfl (nT (cS (cR (sV (vM rfl) (sV (v_makeFunc rfl rfl) (st_clr rfl rfl en123 rfl (reads_star (cf123_ct (g := fun x => !g x) (S := Res.star [pt b3 (cl [.func (.func kf) #[] cp] 149), S]) (hv.mono (rd_in (.there .here)) fun _ _ _ h => h) hl en124 fun x hx u hX => reads_one (an124_ct hE (hf x hx u hX)))) ?_))))))))
 refine sV (v_not rfl) (sV (vA rfl) (sN (nK [4] rfl (nT (cT ?_)))))
 rw [all_any]
 exact xt_rt rfl ⟨rfl, rfl⟩
set_option maxRecDepth 100000 in
theorem ix172_ct (hv : Row S 1 X v l) (hl : l.length ≤ 1000000) (hE : Enters Tryz.prog kf) (hf : ∀ x ∈ l, ∀ u, X [u] x → Reads Tryz.prog kf (#[] ++ [u].toArray ++ cp) [S] (.bool (g x))) :
  Reads Tryz.prog 172 #[v, .func (.func kf) #[] cp] [S] (.int .i64 (ixF g l)) := by
 obtain ⟨a, cap, hv1, _⟩ := id hv
 refine ct_of (n := 19) Tryz.func172 rfl rfl (len rfl) fun hr w0 => ?_
 refine cS (cR (sV (vA rfl) (sN (nT (cS (cS (cR (sV (vM rfl) (sV (v_len (congrArg some hv1) Tryz.underlying43) (sV (vM rfl) (sN (nK [0, 1, 4, 7, 8] rfl (nT (cB (cd_lp (σ := Nat) (fun i => [(0, v), (1, .func (.func kf) #[] cp), (7, .int .i64 l.length), (8, .int .i64 (i : Nat))]) (fun _ => S :: hr) (fun i => i ≤ l.length ∧ ∀ (j : Nat) (y : α), j < i → l[j]? = some y → g y = false) (fun i => l.length - i) 0 ⟨Nat.zero_le _, fun j y hj => by omega⟩ ?_)))))))))))))))
 rintro i ⟨hi, hne⟩
 refine cS (cR (sV (v_lss rfl rfl) (sN (nT (cS (cC rfl (fun hd => ?_) (fun hd => ?_)))))))
 ·skip
  have hlt : i < l.length := by simpa using hd
  obtain ⟨b, o, cp2, u, hv2, hrd, hx⟩ := hv.at1 (List.getElem?_eq_getElem hlt)
  refine cK (xT (cS (cB (cS (cR (sV (vM rfl) (sV (vA rfl) (sN (nK [0, 1, 5, 7, 8] rfl (nT (cS (cR (sV (vM rfl) (sV (vM rfl) (sV (vM rfl) ?_)))))))))))))))
  refine sV (vI (k := i) (congrArg some hv2) rfl sl43 rfl hlt rfl) (sV (vY rfl ld3) ?_)
  refine st_clr rfl rfl hE rfl ((hf l[i] (List.getElem_mem hlt) u hx)) ?_
  refine sN (nK [0, 1, 5, 7, 8, 16] rfl (nT (cC rfl (fun he => ?_) (fun he => ?_))))
  ·skip
   refine cS (cR (sV (vM rfl) (sV (vA rfl) (sN (nK [0, 1, 4, 7, 8] rfl (nT (cT (xW (xR (xR (xW (xR ?_))))))))))))
   rw [ixF_some hlt he hne]
   exact xt_rt rfl ⟨rfl, rfl⟩
  ·skip
   refine cK (xB (xT (cR (sV (v_add rfl rfl (by unfold I64 at *; omega)) (sV (vM rfl) (sN (nK [0, 1, 7, 8] rfl (nx_xt (xt_ag (i + 1) ⟨hlt, fun j y hj hy => ?_⟩ (by show _ - _ < _ - _; omega))))))))))
   by_cases hji : j = i
   ·subst hji; rw [List.getElem?_eq_getElem hlt] at hy; cases hy; exact he
   ·exact hne j y (by omega) hy
 ·skip
  refine cd_exit (xE (xE (xY (xT (cS (cR (sV (vA rfl) (sN (nK [4] rfl (nT (cT ?_)))))))))))
  have hil : i = l.length := by
   have : ¬ i < l.length := by simpa using hd
   omega
  rw [ixF_none (fun j y hj => hne j y (by omega))]
  exact xt_rt rfl ⟨rfl, rfl⟩
set_option maxRecDepth 100000 in
theorem cf143_ct (hv : Row S 1 X v l) (hl : l.length ≤ 1000000) (hE : Enters Tryz.prog kf) (hf : ∀ x ∈ l, ∀ u, X [u] x → Reads Tryz.prog kf (#[] ++ [u].toArray ++ cp) [S] (.bool (g x))) :
  Reads Tryz.prog 143 #[v, .func (.func kf) #[] cp] [S] (.bool (l.any g)) := by
 refine ct_of (n := 9) Tryz.func143 rfl rfl (len rfl) fun hr w0 => ?_
 refine cS (cR (sV (vA rfl) (sN (nT (cS (cR (sV (vM rfl) (sV (vM rfl) (st_clr rfl rfl en172 rfl (ix172_ct (g := g) hv hl hE hf) ?_)))))))))
 refine sV (v_geq rfl rfl) (sV (vA rfl) (sN (nK [4] rfl (nT (cT ?_)))))
 rw [ixF_has]
 exact xt_rt rfl ⟨rfl, rfl⟩
set_option maxRecDepth 100000 in
theorem an144_ct {u : Value} {x : α} {bb : Nat} (hE : Enters Tryz.prog kf) (hf : Reads Tryz.prog kf (#[] ++ [u].toArray ++ cp) [S] (.bool (g x))) :
  Reads Tryz.prog 144 #[u, .pointer (some ⟨bb, 0, none⟩)] [pt bb (cl [.func (.func kf) #[] cp] 168), S] (.bool (!g x)) := by
 refine ct_of (n := 8) Tryz.func144 rfl rfl (len rfl) fun hr w0 => ?_
 refine cS (cR (sV (vA rfl) (sN (nT (cS (cR (sV (vY rfl ld168) ?_)))))))
 refine sV (vM rfl) (st_clr rfl rfl hE rfl (hf) ?_)
 refine sV (v_not rfl) (sV (vA rfl) (sN (nK [3] rfl (nT (cT ?_)))))
 exact xt_rt rfl ⟨rfl, rfl⟩
set_option maxRecDepth 100000 in
theorem al109_ct (hv : Row S 1 X v l) (hl : l.length ≤ 1000000) (hE : Enters Tryz.prog kf) (hf : ∀ x ∈ l, ∀ u, X [u] x → Reads Tryz.prog kf (#[] ++ [u].toArray ++ cp) [S] (.bool (g x))) :
  Reads Tryz.prog 109 #[v, .func (.func kf) #[] cp] [S] (.bool (l.all g)) := by
 refine ct_of (n := 9) Tryz.func109 rfl rfl (len rfl) fun hr w0 => ?_
 refine cS (cR (st_bx rfl rfl fun b3 => ?_))
 refine sV (vA rfl) (sN (nK [0, 3, 4] rfl (nT (cS (cR (sV (vM rfl) (sV (v_makeFunc rfl rfl) (st_clr rfl rfl en143 rfl (reads_star (cf143_ct (g := fun x => !g x) (S := Res.star [pt b3 (cl [.func (.func kf) #[] cp] 168), S]) (hv.mono (rd_in (.there .here)) fun _ _ _ h => h) hl en144 fun x hx u hX => reads_one (an144_ct hE (hf x hx u hX)))) ?_))))))))
 refine sV (v_not rfl) (sV (vA rfl) (sN (nK [4] rfl (nT (cT ?_)))))
 rw [all_any]
 exact xt_rt rfl ⟨rfl, rfl⟩
end
end Go.Wt
namespace Go.Wt
open Go Go.Ck Go.Proofs Go.Proofs.YtboepbencndobaaGreat Fx
section
variable {P : Program} {d : Nat} {w : World}
theorem run_isAgg0 {T : TypeId} {td : TypeDesc} (h : P.underlying T = some td) (hd : plainB td = true) : (isAgg T).run P w = .ok false w := by
 unfold isAgg
 simp only [Sem.run_bind, run_underlying h, Result.andThen_ok]
 cases td <;> first | rfl | (simp [plainB] at hd)
theorem run_part1 {T : TypeId} {td : TypeDesc} (h : P.underlying T = some td) (hd : plainB td = true) {cs : Array Value} {i : Nat} {v : Value} (hv : cs[i]? = some v) : (part T cs i).run P w = .ok v w := by
 unfold part
 simp only [Sem.run_bind, run_isAgg0 h hd, Result.andThen_ok, Bool.false_eq_true, if_false, hv, Sem.run_pure]
theorem run_partN {T : TypeId} {fs : Array Field} (h : P.underlying T = some (.struct fs)) {n : Nat} (hs : Sz P T n) {cs : Array Value} {i : Nat} : (part T cs i).run P w = .ok (.agg (cs.extract i (i + n))) w := by
 have hi : (isAgg T).run P w = .ok true w := by unfold isAgg; simp only [Sem.run_bind, run_underlying h, Result.andThen_ok]; rfl
 unfold part
 simp only [Sem.run_bind, hi, Result.andThen_ok, if_true, hs w, Sem.run_pure]
theorem eqF_cons {f : Field} {t : List Field} {xs ys : Array Value} {x y : Value} {e r : Bool} (hn : (f.name != "_") = true) (hx : (part f.type xs f.offset).run P w = .ok x w) (hy : (part f.type ys f.offset).run P w = .ok y w) (he : (Op.equalIn d f.type x y).run P w = .ok e w)
  (ht : (Op.eqFields d xs ys t).run P w = .ok r w) : (Op.eqFields d xs ys (f :: t)).run P w = .ok (e && r) w := by
 unfold Op.eqFields
 rw [if_pos (by simpa using hn)]
 simp only [Sem.run_bind, hx, hy, he, Result.andThen_ok]
 cases e
 ·rw [if_pos (by simp)]; rfl
 ·rw [if_neg (by simp), ht]; rfl
theorem eqF_nil {xs ys : Array Value} : (Op.eqFields d xs ys []).run P w = .ok true w := by simp [Op.eqFields]
end
def EqT {α : Type} [BEq α] (P : Program) (T : TypeId) (C : α → List Value) : Prop := P.eqGuardType P.depth T = false ∧ ∀ (x y : α) (w : World), (Op.equalIn 10000 T (.agg (C x).toArray) (.agg (C y).toArray)).run P w = .ok (x == y) w
section
variable {P : Program} {e : Env} {h h' : SH} {ty : TypeId} {α : Type} [BEq α] {C : α → List Value}
theorem v_eql_T {T t' : TypeId} {x y : Operand} {a b : α} (hE : EqT P T C) (hx : e.ev? x = some (.agg (C a).toArray)) (hy : e.ev? y = some (.agg (C b).toArray)) : Vop P e h (.binOp .eql T x y t') ty (.bool (a == b)) :=
 ⟨by simp, by simp, fun ρ w d pos after g hρ _ => by
  simp only [execOp, hρ x _ hx, hρ y _ hy, Sem.run_bind, run_eqGuard_agg w .eql T x y _ _ hE.1, Result.andThen_ok, run_eql_struct, hE.2 a b w, Sem.run_pure]⟩
theorem v_neq_T {T t' : TypeId} {x y : Operand} {a b : α} (hE : EqT P T C) (hx : e.ev? x = some (.agg (C a).toArray)) (hy : e.ev? y = some (.agg (C b).toArray)) : Vop P e h (.binOp .neq T x y t') ty (.bool (!(a == b))) :=
 ⟨by simp, by simp, fun ρ w d pos after g hρ _ => by
  simp only [execOp, hρ x _ hx, hρ y _ hy, Sem.run_bind, run_eqGuard_agg w .neq T x y _ _ hE.1, Result.andThen_ok, run_neq_struct, hE.2 a b w, Sem.run_pure]⟩
end
theorem fs_of {T : TypeId} {fs : Array Field} (h : Tryz.prog.underlying T = some (.struct fs)) : Tryz.prog.fieldsOf T = fs := by simp [Program.fieldsOf, h]
theorem st_of {T : TypeId} {fs : Array Field} (h : Tryz.prog.underlying T = some (.struct fs)) : Tryz.prog.underlying T = some (.struct (Tryz.prog.fieldsOf T)) := by simp [Program.fieldsOf, h]
section
variable {w : World} {d : Nat}
theorem pi {cs : Array Value} {i : Nat} {v : Value} (hv : cs[i]? = some v) : (part 3 cs i).run Tryz.prog w = .ok v w := run_part1 Tryz.underlying3 rfl hv
theorem pb {cs : Array Value} {i : Nat} {v : Value} (hv : cs[i]? = some v) : (part 4 cs i).run Tryz.prog w = .ok v w := run_part1 Tryz.underlying4 rfl hv
theorem ei {a b : Int} : (Op.equalIn (d + 1) 3 (.int .i64 a) (.int .i64 b)).run Tryz.prog w = .ok (a == b) w := run_equalIn_int w d 3 .i64 .i64 a b Tryz.underlying3
theorem eb {a b : Bool} : (Op.equalIn (d + 1) 4 (.bool a) (.bool b)).run Tryz.prog w = .ok (a == b) w := run_equalIn_bool' w d 4 a b Tryz.underlying4
theorem eqk (x y : Key) : (Op.equalIn (d + 2) 79 (.agg (kC x).toArray) (.agg (kC y).toArray)).run Tryz.prog w = .ok (x == y) w := by
 rw [run_equalIn_struct w (d + 1) 79 _ _ (st_of Tryz.underlying79) (by kernel_rfl), fs_of Tryz.underlying79]
 have h : (x == y) = (x.1 == y.1 && (x.2 == y.2 && true)) := by rw [Bool.and_true]; rfl
 rw [h]
 exact eqF_cons rfl (pi rfl) (pi rfl) ei (eqF_cons rfl (pi rfl) (pi rfl) ei eqF_nil)
end
theorem eq79 : EqT Tryz.prog 79 kC := ⟨by kernel_rfl, fun x y w => eqk (d := 9998) x y⟩
theorem eq110 : EqT Tryz.prog 110 mC := ⟨by kernel_rfl, fun x y w => by
 rw [run_equalIn_struct w 9999 110 _ _ (st_of Tryz.underlying110) (by kernel_rfl), fs_of Tryz.underlying110]
 have h : (x == y) = (x.1 == y.1 && (x.2.1 == y.2.1 && (x.2.2 == y.2.2 && true))) := by rw [Bool.and_true]; rfl
 rw [h]
 exact eqF_cons rfl (pi rfl) (pi rfl) ei (eqF_cons rfl (pi rfl) (pi rfl) ei (eqF_cons rfl (pi rfl) (pi rfl) ei eqF_nil))⟩
theorem eq117 : EqT Tryz.prog 117 aC := ⟨by kernel_rfl, fun x y w => by
 rw [run_equalIn_struct w 9999 117 _ _ (st_of Tryz.underlying117) (by kernel_rfl), fs_of Tryz.underlying117]
 have h : (x == y) = (x.1 == y.1 && (x.2 == y.2 && true)) := by rw [Bool.and_true]; rfl
 rw [h]
 exact eqF_cons rfl (pi rfl) (pi rfl) ei (eqF_cons rfl (pb rfl) (pb rfl) eb eqF_nil)⟩
theorem eq161 : EqT Tryz.prog 161 holdC := ⟨by kernel_rfl, fun x y w => by
 rw [run_equalIn_struct w 9999 161 _ _ (st_of Tryz.underlying161) (by kernel_rfl), fs_of Tryz.underlying161]
 have h : (x == y) = (x.1 == y.1 && (x.2.1 == y.2.1 && (x.2.2 == y.2.2 && true))) := by rw [Bool.and_true]; rfl
 rw [h]
 exact eqF_cons rfl (pi rfl) (pi rfl) ei (eqF_cons rfl (run_partN Tryz.underlying79 sz79) (run_partN Tryz.underlying79 sz79) (eqk (d := 9997) x.2.1 y.2.1) (eqF_cons rfl (pb rfl) (pb rfl) eb eqF_nil))⟩
theorem eq81 : EqT Tryz.prog 81 dC := ⟨by kernel_rfl, fun x y w => by
 rw [run_equalIn_struct w 9999 81 _ _ (st_of Tryz.underlying81) (by kernel_rfl), fs_of Tryz.underlying81]
 have h : (x == y) = (x.1 == y.1 && (x.2.1 == y.2.1 && (x.2.2.1 == y.2.2.1 && (x.2.2.2 == y.2.2.2 && true)))) := by rw [Bool.and_true]; rfl
 rw [h]
 exact eqF_cons rfl (run_partN Tryz.underlying79 sz79) (run_partN Tryz.underlying79 sz79) (eqk (d := 9997) x.1 y.1) (eqF_cons rfl (pi rfl) (pi rfl) ei (eqF_cons rfl (pb rfl) (pb rfl) eb (eqF_cons rfl (pb rfl) (pb rfl) eb eqF_nil)))⟩
end Go.Wt
namespace Go.Wt
open Go Go.Ck Go.Proofs Go.Proofs.YtboepbencndobaaGreat Fx
attribute [local irreducible] St Cd Xt Nx DrL LsW
def Cln {α : Type} (E : TypeId) (sz : Nat) (X : List Value → α → Prop) (l : List α) (u : Value) (T : Res) : Prop := u.oneCell' = true ∧ ∃ rows, T = VR u E sz rows ∧ rows.length = l.length ∧ ∀ (i : Nat) us x, rows[i]? = some us → l[i]? = some x → X us x
theorem Cln.eqC {α : Type} {E : TypeId} {sz : Nat} {C : α → List Value} {l : List α} {u : Value} {T : Res} (h : Cln E sz (eqC C) l u T) : T = VR u E sz (l.map C) ∧ u.oneCell' = true := by
 obtain ⟨h0, rows, h1, h2, h3⟩ := h
 refine ⟨?_, h0⟩
 rw [h1]
 congr 1
 apply List.ext_getElem
 ·simp [h2]
 ·intro i hi hj
  have := h3 i rows[i] l[i] (List.getElem?_eq_getElem hi) (List.getElem?_eq_getElem (by omega))
  rw [List.getElem_map]; exact this
section
variable {α : Type} {S : Res} {X : List Value → α → Prop} {v : Value} {l : List α}
set_option maxRecDepth 100000 in
theorem clone54_ct (hv : Row S 3 X v l) (hl : l.length ≤ 1000000) (h1 : ∀ us x, x ∈ l → X us x → ∀ u ∈ us, u.oneCell' = true) : CtN Tryz.prog 54 #[v] [S] (Cln 110 3 X l) := by
 obtain ⟨a, cap, rfl, hlc, hcm, hnone, hel⟩ := id hv
 refine ct_of (n := 8) Tryz.func54 rfl rfl (len rfl) fun hr w0 => ?_
 refine cS (cR (sV (vA rfl) (sN (nT (cS (cS (cR (sV (vM rfl) (sV (v_eql_slice_nil rfl rfl Tryz.underlying108) (sN (nK [0, 2, 4] rfl (nT (cC rfl (fun ha => ?_) (fun ha => ?_))))))))))))))
 ·skip
  refine cS (cR (sV (vA rfl) (sN (nK [0, 2] rfl (nT (cT (xR ?_)))))))
  have ha0 : a = none := by simpa using ha
  have hl0 : l = [] := List.eq_nil_of_length_eq_zero (by have := hnone ha0; omega)
  subst hl0
  refine xt_vw (vw_nil 110 3) ?_
  exact xt_rt rfl ⟨VR (.slice none 0 0) 110 3 [], rfl, rfl, [], rfl, rfl, fun i us x h => by simp at h⟩
 ·skip
  refine cK (xT (cS (cR ?_)))
  have ha1 : ∃ a', a = some a' := by cases a with | none => simp at ha | some a' => exact ⟨a', rfl⟩
  obtain ⟨a', rfl⟩ := ha1
  obtain ⟨rows, r1, r2, r3, r4⟩ := hv.cells
  refine st_bs0 Tryz.underlying108 inf110 fun b5 => ?_
  refine sV (vM rfl) (st_appA rows rfl rfl Tryz.underlying108 inf110 rfl (by decide) .here r2 r1 (fun j u hu => by obtain ⟨b, o, hb, hr⟩ := r4 j u hu; cases hb; rw [Addr.add_lit]; exact at_there (at_here hr)) (fun u hu => by obtain ⟨us, h2, h3⟩ := List.mem_flatten.1 hu; obtain ⟨i, hi, rfl⟩ := List.mem_iff_getElem.1 h2; exact h1 _ l[i] (List.getElem_mem _) (r3 i _ _ (List.getElem?_eq_getElem hi) (List.getElem?_eq_getElem (by omega))) u h3) (by simp; omega) (by simp; omega) (ltn rfl) fun v' hv' _ => ?_)
  refine sV (vA rfl) (sN (nK [2] rfl (nT (cT ?_))))
  exact xt_rt rfl ⟨VR v' 110 3 rows, rfl, hv', rows, rfl, r1, r3⟩
set_option maxRecDepth 100000 in
theorem clone82_ct (hv : Row S 2 X v l) (hl : l.length ≤ 1000000) (h1 : ∀ us x, x ∈ l → X us x → ∀ u ∈ us, u.oneCell' = true) : CtN Tryz.prog 82 #[v] [S] (Cln 79 2 X l) := by
 obtain ⟨a, cap, rfl, hlc, hcm, hnone, hel⟩ := id hv
 refine ct_of (n := 8) Tryz.func82 rfl rfl (len rfl) fun hr w0 => ?_
 refine cS (cR (sV (vA rfl) (sN (nT (cS (cS (cR (sV (vM rfl) (sV (v_eql_slice_nil rfl rfl Tryz.underlying74) (sN (nK [0, 2, 4] rfl (nT (cC rfl (fun ha => ?_) (fun ha => ?_))))))))))))))
 ·skip
  refine cS (cR (sV (vA rfl) (sN (nK [0, 2] rfl (nT (cT (xR ?_)))))))
  have ha0 : a = none := by simpa using ha
  have hl0 : l = [] := List.eq_nil_of_length_eq_zero (by have := hnone ha0; omega)
  subst hl0
  refine xt_vw (vw_nil 79 2) ?_
  exact xt_rt rfl ⟨VR (.slice none 0 0) 79 2 [], rfl, rfl, [], rfl, rfl, fun i us x h => by simp at h⟩
 ·skip
  refine cK (xT (cS (cR ?_)))
  have ha1 : ∃ a', a = some a' := by cases a with | none => simp at ha | some a' => exact ⟨a', rfl⟩
  obtain ⟨a', rfl⟩ := ha1
  obtain ⟨rows, r1, r2, r3, r4⟩ := hv.cells
  refine st_bs0 Tryz.underlying74 inf79 fun b5 => ?_
  refine sV (vM rfl) (st_appA rows rfl rfl Tryz.underlying74 inf79 rfl (by decide) .here r2 r1 (fun j u hu => by obtain ⟨b, o, hb, hr⟩ := r4 j u hu; cases hb; rw [Addr.add_lit]; exact at_there (at_here hr)) (fun u hu => by obtain ⟨us, h2, h3⟩ := List.mem_flatten.1 hu; obtain ⟨i, hi, rfl⟩ := List.mem_iff_getElem.1 h2; exact h1 _ l[i] (List.getElem_mem _) (r3 i _ _ (List.getElem?_eq_getElem hi) (List.getElem?_eq_getElem (by omega))) u h3) (by simp; omega) (by simp; omega) (ltn rfl) fun v' hv' _ => ?_)
  refine sV (vA rfl) (sN (nK [2] rfl (nT (cT ?_))))
  exact xt_rt rfl ⟨VR v' 79 2 rows, rfl, hv', rows, rfl, r1, r3⟩
set_option maxRecDepth 100000 in
theorem clone114_ct (hv : Row S 1 X v l) (hl : l.length ≤ 1000000) (h1 : ∀ us x, x ∈ l → X us x → ∀ u ∈ us, u.oneCell' = true) : CtN Tryz.prog 114 #[v] [S] (Cln 108 1 X l) := by
 obtain ⟨a, cap, rfl, hlc, hcm, hnone, hel⟩ := id hv
 refine ct_of (n := 8) Tryz.func114 rfl rfl (len rfl) fun hr w0 => ?_
 refine cS (cR (sV (vA rfl) (sN (nT (cS (cS (cR (sV (vM rfl) (sV (v_eql_slice_nil rfl rfl Tryz.underlying22) (sN (nK [0, 2, 4] rfl (nT (cC rfl (fun ha => ?_) (fun ha => ?_))))))))))))))
 ·skip
  refine cS (cR (sV (vA rfl) (sN (nK [0, 2] rfl (nT (cT (xR ?_)))))))
  have ha0 : a = none := by simpa using ha
  have hl0 : l = [] := List.eq_nil_of_length_eq_zero (by have := hnone ha0; omega)
  subst hl0
  refine xt_vw (vw_nil 108 1) ?_
  exact xt_rt rfl ⟨VR (.slice none 0 0) 108 1 [], rfl, rfl, [], rfl, rfl, fun i us x h => by simp at h⟩
 ·skip
  refine cK (xT (cS (cR ?_)))
  have ha1 : ∃ a', a = some a' := by cases a with | none => simp at ha | some a' => exact ⟨a', rfl⟩
  obtain ⟨a', rfl⟩ := ha1
  obtain ⟨rows, r1, r2, r3, r4⟩ := hv.cells
  refine st_bs0 Tryz.underlying22 inf108 fun b5 => ?_
  refine sV (vM rfl) (st_appA rows rfl rfl Tryz.underlying22 inf108 rfl (by decide) .here r2 r1 (fun j u hu => by obtain ⟨b, o, hb, hr⟩ := r4 j u hu; cases hb; rw [Addr.add_lit]; exact at_there (at_here hr)) (fun u hu => by obtain ⟨us, h2, h3⟩ := List.mem_flatten.1 hu; obtain ⟨i, hi, rfl⟩ := List.mem_iff_getElem.1 h2; exact h1 _ l[i] (List.getElem_mem _) (r3 i _ _ (List.getElem?_eq_getElem hi) (List.getElem?_eq_getElem (by omega))) u h3) (by simp; omega) (by simp; omega) (ltn rfl) fun v' hv' _ => ?_)
  refine sV (vA rfl) (sN (nK [2] rfl (nT (cT ?_))))
  exact xt_rt rfl ⟨VR v' 108 1 rows, rfl, hv', rows, rfl, r1, r3⟩
set_option maxRecDepth 100000 in
theorem clone115_ct (hv : Row S 9 X v l) (hl : l.length ≤ 1000000) (h1 : ∀ us x, x ∈ l → X us x → ∀ u ∈ us, u.oneCell' = true) : CtN Tryz.prog 115 #[v] [S] (Cln 77 9 X l) := by
 obtain ⟨a, cap, rfl, hlc, hcm, hnone, hel⟩ := id hv
 refine ct_of (n := 8) Tryz.func115 rfl rfl (len rfl) fun hr w0 => ?_
 refine cS (cR (sV (vA rfl) (sN (nT (cS (cS (cR (sV (vM rfl) (sV (v_eql_slice_nil rfl rfl Tryz.underlying25) (sN (nK [0, 2, 4] rfl (nT (cC rfl (fun ha => ?_) (fun ha => ?_))))))))))))))
 ·skip
  refine cS (cR (sV (vA rfl) (sN (nK [0, 2] rfl (nT (cT (xR ?_)))))))
  have ha0 : a = none := by simpa using ha
  have hl0 : l = [] := List.eq_nil_of_length_eq_zero (by have := hnone ha0; omega)
  subst hl0
  refine xt_vw (vw_nil 77 9) ?_
  exact xt_rt rfl ⟨VR (.slice none 0 0) 77 9 [], rfl, rfl, [], rfl, rfl, fun i us x h => by simp at h⟩
 ·skip
  refine cK (xT (cS (cR ?_)))
  have ha1 : ∃ a', a = some a' := by cases a with | none => simp at ha | some a' => exact ⟨a', rfl⟩
  obtain ⟨a', rfl⟩ := ha1
  obtain ⟨rows, r1, r2, r3, r4⟩ := hv.cells
  refine st_bs0 Tryz.underlying25 inf77 fun b5 => ?_
  refine sV (vM rfl) (st_appA rows rfl rfl Tryz.underlying25 inf77 rfl (by decide) .here r2 r1 (fun j u hu => by obtain ⟨b, o, hb, hr⟩ := r4 j u hu; cases hb; rw [Addr.add_lit]; exact at_there (at_here hr)) (fun u hu => by obtain ⟨us, h2, h3⟩ := List.mem_flatten.1 hu; obtain ⟨i, hi, rfl⟩ := List.mem_iff_getElem.1 h2; exact h1 _ l[i] (List.getElem_mem _) (r3 i _ _ (List.getElem?_eq_getElem hi) (List.getElem?_eq_getElem (by omega))) u h3) (by simp; omega) (by simp; omega) (ltn rfl) fun v' hv' _ => ?_)
  refine sV (vA rfl) (sN (nK [2] rfl (nT (cT ?_))))
  exact xt_rt rfl ⟨VR v' 77 9 rows, rfl, hv', rows, rfl, r1, r3⟩
set_option maxRecDepth 100000 in
theorem clone116_ct (hv : Row S 5 X v l) (hl : l.length ≤ 1000000) (h1 : ∀ us x, x ∈ l → X us x → ∀ u ∈ us, u.oneCell' = true) : CtN Tryz.prog 116 #[v] [S] (Cln 120 5 X l) := by
 obtain ⟨a, cap, rfl, hlc, hcm, hnone, hel⟩ := id hv
 refine ct_of (n := 8) Tryz.func116 rfl rfl (len rfl) fun hr w0 => ?_
 refine cS (cR (sV (vA rfl) (sN (nT (cS (cS (cR (sV (vM rfl) (sV (v_eql_slice_nil rfl rfl Tryz.underlying73) (sN (nK [0, 2, 4] rfl (nT (cC rfl (fun ha => ?_) (fun ha => ?_))))))))))))))
 ·skip
  refine cS (cR (sV (vA rfl) (sN (nK [0, 2] rfl (nT (cT (xR ?_)))))))
  have ha0 : a = none := by simpa using ha
  have hl0 : l = [] := List.eq_nil_of_length_eq_zero (by have := hnone ha0; omega)
  subst hl0
  refine xt_vw (vw_nil 120 5) ?_
  exact xt_rt rfl ⟨VR (.slice none 0 0) 120 5 [], rfl, rfl, [], rfl, rfl, fun i us x h => by simp at h⟩
 ·skip
  refine cK (xT (cS (cR ?_)))
  have ha1 : ∃ a', a = some a' := by cases a with | none => simp at ha | some a' => exact ⟨a', rfl⟩
  obtain ⟨a', rfl⟩ := ha1
  obtain ⟨rows, r1, r2, r3, r4⟩ := hv.cells
  refine st_bs0 Tryz.underlying73 inf120 fun b5 => ?_
  refine sV (vM rfl) (st_appA rows rfl rfl Tryz.underlying73 inf120 rfl (by decide) .here r2 r1 (fun j u hu => by obtain ⟨b, o, hb, hr⟩ := r4 j u hu; cases hb; rw [Addr.add_lit]; exact at_there (at_here hr)) (fun u hu => by obtain ⟨us, h2, h3⟩ := List.mem_flatten.1 hu; obtain ⟨i, hi, rfl⟩ := List.mem_iff_getElem.1 h2; exact h1 _ l[i] (List.getElem_mem _) (r3 i _ _ (List.getElem?_eq_getElem hi) (List.getElem?_eq_getElem (by omega))) u h3) (by simp; omega) (by simp; omega) (ltn rfl) fun v' hv' _ => ?_)
  refine sV (vA rfl) (sN (nK [2] rfl (nT (cT ?_))))
  exact xt_rt rfl ⟨VR v' 120 5 rows, rfl, hv', rows, rfl, r1, r3⟩
set_option maxRecDepth 100000 in
theorem clone117_ct (hv : Row S 4 X v l) (hl : l.length ≤ 1000000) (h1 : ∀ us x, x ∈ l → X us x → ∀ u ∈ us, u.oneCell' = true) : CtN Tryz.prog 117 #[v] [S] (Cln 161 4 X l) := by
 obtain ⟨a, cap, rfl, hlc, hcm, hnone, hel⟩ := id hv
 refine ct_of (n := 8) Tryz.func117 rfl rfl (len rfl) fun hr w0 => ?_
 refine cS (cR (sV (vA rfl) (sN (nT (cS (cS (cR (sV (vM rfl) (sV (v_eql_slice_nil rfl rfl Tryz.underlying75) (sN (nK [0, 2, 4] rfl (nT (cC rfl (fun ha => ?_) (fun ha => ?_))))))))))))))
 ·skip
  refine cS (cR (sV (vA rfl) (sN (nK [0, 2] rfl (nT (cT (xR ?_)))))))
  have ha0 : a = none := by simpa using ha
  have hl0 : l = [] := List.eq_nil_of_length_eq_zero (by have := hnone ha0; omega)
  subst hl0
  refine xt_vw (vw_nil 161 4) ?_
  exact xt_rt rfl ⟨VR (.slice none 0 0) 161 4 [], rfl, rfl, [], rfl, rfl, fun i us x h => by simp at h⟩
 ·skip
  refine cK (xT (cS (cR ?_)))
  have ha1 : ∃ a', a = some a' := by cases a with | none => simp at ha | some a' => exact ⟨a', rfl⟩
  obtain ⟨a', rfl⟩ := ha1
  obtain ⟨rows, r1, r2, r3, r4⟩ := hv.cells
  refine st_bs0 Tryz.underlying75 inf161 fun b5 => ?_
  refine sV (vM rfl) (st_appA rows rfl rfl Tryz.underlying75 inf161 rfl (by decide) .here r2 r1 (fun j u hu => by obtain ⟨b, o, hb, hr⟩ := r4 j u hu; cases hb; rw [Addr.add_lit]; exact at_there (at_here hr)) (fun u hu => by obtain ⟨us, h2, h3⟩ := List.mem_flatten.1 hu; obtain ⟨i, hi, rfl⟩ := List.mem_iff_getElem.1 h2; exact h1 _ l[i] (List.getElem_mem _) (r3 i _ _ (List.getElem?_eq_getElem hi) (List.getElem?_eq_getElem (by omega))) u h3) (by simp; omega) (by simp; omega) (ltn rfl) fun v' hv' _ => ?_)
  refine sV (vA rfl) (sN (nK [2] rfl (nT (cT ?_))))
  exact xt_rt rfl ⟨VR v' 161 4 rows, rfl, hv', rows, rfl, r1, r3⟩
set_option maxRecDepth 100000 in
theorem clone118_ct (hv : Row S 5 X v l) (hl : l.length ≤ 1000000) (h1 : ∀ us x, x ∈ l → X us x → ∀ u ∈ us, u.oneCell' = true) : CtN Tryz.prog 118 #[v] [S] (Cln 81 5 X l) := by
 obtain ⟨a, cap, rfl, hlc, hcm, hnone, hel⟩ := id hv
 refine ct_of (n := 8) Tryz.func118 rfl rfl (len rfl) fun hr w0 => ?_
 refine cS (cR (sV (vA rfl) (sN (nT (cS (cS (cR (sV (vM rfl) (sV (v_eql_slice_nil rfl rfl Tryz.underlying62) (sN (nK [0, 2, 4] rfl (nT (cC rfl (fun ha => ?_) (fun ha => ?_))))))))))))))
 ·skip
  refine cS (cR (sV (vA rfl) (sN (nK [0, 2] rfl (nT (cT (xR ?_)))))))
  have ha0 : a = none := by simpa using ha
  have hl0 : l = [] := List.eq_nil_of_length_eq_zero (by have := hnone ha0; omega)
  subst hl0
  refine xt_vw (vw_nil 81 5) ?_
  exact xt_rt rfl ⟨VR (.slice none 0 0) 81 5 [], rfl, rfl, [], rfl, rfl, fun i us x h => by simp at h⟩
 ·skip
  refine cK (xT (cS (cR ?_)))
  have ha1 : ∃ a', a = some a' := by cases a with | none => simp at ha | some a' => exact ⟨a', rfl⟩
  obtain ⟨a', rfl⟩ := ha1
  obtain ⟨rows, r1, r2, r3, r4⟩ := hv.cells
  refine st_bs0 Tryz.underlying62 inf81 fun b5 => ?_
  refine sV (vM rfl) (st_appA rows rfl rfl Tryz.underlying62 inf81 rfl (by decide) .here r2 r1 (fun j u hu => by obtain ⟨b, o, hb, hr⟩ := r4 j u hu; cases hb; rw [Addr.add_lit]; exact at_there (at_here hr)) (fun u hu => by obtain ⟨us, h2, h3⟩ := List.mem_flatten.1 hu; obtain ⟨i, hi, rfl⟩ := List.mem_iff_getElem.1 h2; exact h1 _ l[i] (List.getElem_mem _) (r3 i _ _ (List.getElem?_eq_getElem hi) (List.getElem?_eq_getElem (by omega))) u h3) (by simp; omega) (by simp; omega) (ltn rfl) fun v' hv' _ => ?_)
  refine sV (vA rfl) (sN (nK [2] rfl (nT (cT ?_))))
  exact xt_rt rfl ⟨VR v' 81 5 rows, rfl, hv', rows, rfl, r1, r3⟩
set_option maxRecDepth 100000 in
theorem clone119_ct (hv : Row S 2 X v l) (hl : l.length ≤ 1000000) (h1 : ∀ us x, x ∈ l → X us x → ∀ u ∈ us, u.oneCell' = true) : CtN Tryz.prog 119 #[v] [S] (Cln 117 2 X l) := by
 obtain ⟨a, cap, rfl, hlc, hcm, hnone, hel⟩ := id hv
 refine ct_of (n := 8) Tryz.func119 rfl rfl (len rfl) fun hr w0 => ?_
 refine cS (cR (sV (vA rfl) (sN (nT (cS (cS (cR (sV (vM rfl) (sV (v_eql_slice_nil rfl rfl Tryz.underlying118) (sN (nK [0, 2, 4] rfl (nT (cC rfl (fun ha => ?_) (fun ha => ?_))))))))))))))
 ·skip
  refine cS (cR (sV (vA rfl) (sN (nK [0, 2] rfl (nT (cT (xR ?_)))))))
  have ha0 : a = none := by simpa using ha
  have hl0 : l = [] := List.eq_nil_of_length_eq_zero (by have := hnone ha0; omega)
  subst hl0
  refine xt_vw (vw_nil 117 2) ?_
  exact xt_rt rfl ⟨VR (.slice none 0 0) 117 2 [], rfl, rfl, [], rfl, rfl, fun i us x h => by simp at h⟩
 ·skip
  refine cK (xT (cS (cR ?_)))
  have ha1 : ∃ a', a = some a' := by cases a with | none => simp at ha | some a' => exact ⟨a', rfl⟩
  obtain ⟨a', rfl⟩ := ha1
  obtain ⟨rows, r1, r2, r3, r4⟩ := hv.cells
  refine st_bs0 Tryz.underlying118 inf117 fun b5 => ?_
  refine sV (vM rfl) (st_appA rows rfl rfl Tryz.underlying118 inf117 rfl (by decide) .here r2 r1 (fun j u hu => by obtain ⟨b, o, hb, hr⟩ := r4 j u hu; cases hb; rw [Addr.add_lit]; exact at_there (at_here hr)) (fun u hu => by obtain ⟨us, h2, h3⟩ := List.mem_flatten.1 hu; obtain ⟨i, hi, rfl⟩ := List.mem_iff_getElem.1 h2; exact h1 _ l[i] (List.getElem_mem _) (r3 i _ _ (List.getElem?_eq_getElem hi) (List.getElem?_eq_getElem (by omega))) u h3) (by simp; omega) (by simp; omega) (ltn rfl) fun v' hv' _ => ?_)
  refine sV (vA rfl) (sN (nK [2] rfl (nT (cT ?_))))
  exact xt_rt rfl ⟨VR v' 117 2 rows, rfl, hv', rows, rfl, r1, r3⟩
end
end Go.Wt
namespace Go.Wt
open Go Go.Ck Go.Proofs Go.Proofs.YtboepbencndobaaGreat Fx
attribute [local irreducible] St Cd Xt Nx DrL LsW
def eqBy {α β : Type} (g : α → β → Bool) : List α → List β → Bool
 | [], [] => true
 | a :: t, b :: u => g a b && eqBy g t u
 | _, _ => false
theorem eqBy_len {α β : Type} {g : α → β → Bool} : ∀ {l : List α} {m : List β}, l.length ≠ m.length → eqBy g l m = false
 | [], [], h => absurd rfl h
 | [], _ :: _, _ => rfl
 | _ :: _, [], _ => rfl
 | a :: t, b :: u, h => by simp only [eqBy, eqBy_len (l := t) (m := u) (fun e => h (by simp [e])), Bool.and_false]
theorem eqBy_false {α β : Type} {g : α → β → Bool} : ∀ {l : List α} {m : List β} {i : Nat} {a : α} {b : β}, l[i]? = some a → m[i]? = some b → g a b = false → eqBy g l m = false
 | [], _, i, a, b, h, _, _ => by simp at h
 | _ :: _, [], i, a, b, _, h, _ => by simp at h
 | x :: t, y :: u, 0, a, b, h1, h2, h3 => by simp at h1 h2; subst h1 h2; simp [eqBy, h3]
 | x :: t, y :: u, i + 1, a, b, h1, h2, h3 => by
  rw [List.getElem?_cons_succ] at h1 h2
  simp [eqBy, eqBy_false h1 h2 h3]
theorem eqBy_true {α β : Type} {g : α → β → Bool} : ∀ {l : List α} {m : List β}, l.length = m.length → (∀ (i : Nat) a b, l[i]? = some a → m[i]? = some b → g a b = true) → eqBy g l m = true
 | [], [], _, _ => rfl
 | [], _ :: _, h, _ => by simp at h
 | _ :: _, [], h, _ => by simp at h
 | a :: t, b :: u, h, hg => by
  simp only [eqBy, hg 0 a b rfl rfl, Bool.true_and]
  exact eqBy_true (by simpa using h) fun i x y h1 h2 => hg (i + 1) x y (by simpa using h1) (by simpa using h2)
theorem eqBy_eq {α : Type} [BEq α] [LawfulBEq α] : ∀ (l m : List α), eqBy (· == ·) l m = (l == m)
 | [], [] => rfl
 | [], _ :: _ => rfl
 | _ :: _, [] => rfl
 | a :: t, b :: u => by rw [eqBy, eqBy_eq t u]; rfl
section
variable {S : Res} {v v' : Value}
end
end Go.Wt
namespace Go.Wt
open Go Go.Ck Go.Proofs Go.Proofs.YtboepbencndobaaGreat Fx
attribute [local irreducible] St Cd Xt Nx DrL LsW
theorem v_subw {P : Program} {e : Env} {h : SH} {ty t t' : TypeId} {x y : Operand} {a b : Int} (hx : e.ev? x = some (.int .i64 a)) (hy : e.ev? y = some (.int .i64 b)) : Vop P e h (.binOp .sub t x y t') ty (.int .i64 (IntKind.i64.wrap (a - b))) :=
 ⟨by simp, by simp, fun ρ w d pos after g hρ _ => by simp [execOp, hρ x _ hx, hρ y _ hy, eqGuard_sub, binOp_sub, Op.intArith]⟩
theorem row_pt {α : Type} {b n : Nat} {E : TypeId} {cells : List Value} {sz : Nat} {C : α → List Value} {l : List α} (hc : cells = (l.map C).flatten) (hs : ∀ x ∈ l, (C x).length = sz) (hn : l.length = n) (hm : n ≤ maxLen) : Row (pt b (cl cells E)) sz (eqC C) (.slice (some ⟨b, 0, none⟩) n n) l := by
 subst hn
 refine ⟨_, _, rfl, Nat.le_refl _, hm, (fun h => by cases h), fun i x hi => ⟨b, 0, C x, rfl, hs x (List.mem_of_getElem? hi), fun j hj => ?_, rfl⟩⟩
 have h1 : (l.map C)[i]? = some (C x) := by simp [List.getElem?_map, hi]
 have h2 := flatten_at (sz := sz) (fun r hr => by obtain ⟨y, hy, rfl⟩ := List.mem_map.1 hr; exact hs y hy) h1 (List.getElem?_eq_getElem hj)
 rw [Nat.zero_add]
 exact rd_cl (by rw [hc]; exact h2)
def iC (n : Int) : List Value := [.int .i64 n]
def firstE (l : List Int) : Int := (l.find? (· != 0)).getD 0
section
variable {S : Res} {v : Value}
set_option maxRecDepth 100000 in
theorem within_ct (n lo hi : Int) : Reads Tryz.prog 80 #[.int .i64 n, .int .i64 lo, .int .i64 hi] [] (.bool (within n lo hi)) := by
 refine ct_of (n := 15) Tryz.func80 rfl rfl (len rfl) fun hr w0 => ?_
 refine cS (cR (sV (vA rfl) (sN (nT (cS (cR (sV (vM rfl) (sV (vM rfl) (sV (v_leq rfl rfl) (sV (vM rfl) (st_cut (k := 8) (d := 14) (v := .bool (decide (lo ≤ n) && decide (n ≤ hi))) (fun hcut => bool_want (b := decide (lo ≤ n)) true (fun hg => ?_) (fun hg => ?_)) ?_)))))))))))
 ·refine st_sk rfl rfl hg ?_
  iterate 2 refine st_sk rfl rfl hg ?_
  refine sV (vP (bE rfl hg) rfl) ?_
  exact hcut _ (uH (by first | rfl | (rw [hg]; rfl) | simp_all) (uS rfl (uS rfl (uS rfl (uR)))))
 ·skip
  refine sG rfl (bG rfl hg) (vM rfl) (sG rfl (bG rfl hg) (vM rfl) (sG rfl (bG rfl hg) (v_leq rfl rfl) (sV (vQ (bE rfl hg) rfl) ?_)))
  exact hcut _ (uH (by first | rfl | (rw [hg]; rfl) | simp_all) (uS rfl (uS rfl (uS rfl (uR)))))
 refine sV (vA rfl) (sN (nK [6] rfl (nT (cT ?_))))
 exact xt_rt rfl ⟨rfl, rfl⟩
set_option maxRecDepth 100000 in
theorem unless_ct (b : Bool) (e : Int) : Reads Tryz.prog 63 #[.bool b, .int .i64 e] [] (.int .i64 (if b = true then 0 else e)) := by
 refine ct_of (n := 7) Tryz.func63 rfl rfl (len rfl) fun hr w0 => ?_
 refine cS (cR (sV (vA rfl) (sN (nT (cS (cS (cR (sV (vM rfl) (sN (nK [1, 4, 5] rfl (nT (cC rfl (fun hb => ?_) (fun hb => ?_)))))))))))))
 ·skip
  refine cS (cR (sV (vA rfl) (sN (nK [1, 4] rfl (nT (cT (xR ?_)))))))
  rw [if_pos hb]
  exact xt_rt rfl ⟨rfl, rfl⟩
 ·skip
  refine cK (xT (cS (cR (sV (vM rfl) (sV (vA rfl) (sN (nK [4] rfl (nT (cT ?_)))))))))
  rw [if_neg (by simp [hb])]
  exact xt_rt rfl ⟨rfl, rfl⟩
set_option maxRecDepth 100000 in
theorem first_ct {l : List Int} (hv : Row S 1 (eqC iC) v l) (hl : l.length ≤ 1000000) : Reads Tryz.prog 62 #[v] [S] (.int .i64 (firstE l)) := by
 obtain ⟨a, cap, hv1, _⟩ := id hv
 refine ct_of (n := 15) Tryz.func62 rfl rfl (len rfl) fun hr w0 => ?_
 refine cS (cR (sV (vA rfl) (sN (nT (cS (cS (cR (sV (vM rfl) (sV (v_len (congrArg some hv1) Tryz.underlying166) (sV (vM rfl) (sN (nK [2, 5, 6, 7] rfl (nT (cB (cd_lp (σ := Nat) (fun i => [(5, v), (6, .int .i64 l.length), (7, .int .i64 (i : Nat))]) (fun _ => S :: hr) (fun i => i ≤ l.length ∧ ∀ (j : Nat) (y : Int), j < i → l[j]? = some y → y = 0) (fun i => l.length - i) 0 ⟨Nat.zero_le _, fun j y hj => by omega⟩ ?_)))))))))))))))
 rintro i ⟨hi, hne⟩
 refine cS (cR (sV (v_lss rfl rfl) (sN (nT (cS (cC rfl (fun hd => ?_) (fun hd => ?_)))))))
 ·skip
  have hlt : i < l.length := by simpa using hd
  obtain ⟨b, o, cp2, u, hv2, hrd, hX⟩ := hv.at1 (List.getElem?_eq_getElem hlt)
  cases hX
  refine cK (xT (cS (cB (cS (cR (sV (vI (k := i) (congrArg some hv2) rfl ⟨Tryz.underlying166, sz28⟩ rfl hlt rfl) (sV (vY rfl ld28) ?_)))))))
  refine sV (vA rfl) (sN (nK [4, 5, 6, 7] rfl (nT (cS (cR (sV (vM rfl) (sV (v_neq rfl rfl) (sN (nK [4, 5, 6, 7, 12] rfl (nT (cC rfl (fun he => ?_) (fun he => ?_))))))))))))
  ·skip
   refine cS (cR (sV (vM rfl) (sV (vA rfl) (sN (nK [2, 5, 6, 7] rfl (nT (cT (xW (xR (xR (xW (xR ?_))))))))))))
   have hf : firstE l = l[i] := by
    unfold firstE
    have : l.find? (· != 0) = some l[i] := by
     rw [List.find?_eq_some_iff_getElem]
     exact ⟨he, i, hlt, rfl, fun j hj => by have := hne j _ hj (List.getElem?_eq_getElem (by omega)); simp [this]⟩
    rw [this]; rfl
   rw [hf]
   exact xt_rt rfl ⟨rfl, rfl⟩
  ·skip
   refine cK (xB (xT (cR (sV (v_add rfl rfl (by unfold I64 at *; omega)) (sV (vM rfl) (sN (nK [5, 6, 7] rfl (nx_xt (xt_ag (i + 1) ⟨hlt, fun j y hj hy => ?_⟩ (by show _ - _ < _ - _; omega))))))))))
   by_cases hji : j = i
   ·subst hji; rw [List.getElem?_eq_getElem hlt] at hy; cases hy; simpa using he
   ·exact hne j y (by omega) hy
 ·skip
  refine cd_exit (xE (xE (xY (xT (cS (cR (sV (vA rfl) (sN (nK [2] rfl (nT (cT ?_)))))))))))
  have hil : i = l.length := by
   have : ¬ i < l.length := by simpa using hd
   omega
  have hf : firstE l = 0 := by
   unfold firstE
   have : l.find? (· != 0) = none := by
    rw [List.find?_eq_none]
    intro x hx
    obtain ⟨j, hj, rfl⟩ := List.mem_iff_getElem.1 hx
    have := hne j _ (by omega) (List.getElem?_eq_getElem hj)
    simp [this]
   rw [this]; rfl
  rw [hf]
  exact xt_rt rfl ⟨rfl, rfl⟩
def movedB (m : Move) (j1 s1 : Int) : Bool :=
 if m.1 = 1 then within m.2.1 0 s1 && m.2.2 == 0
 else if m.1 = 2 ∨ m.1 = 6 then m.2.1 == 0 && m.2.2 == 0
 else if m.1 = 3 ∨ m.1 = 4 ∨ m.1 = 5 then within m.2.1 0 s1 && within m.2.2 0 j1
 else false
set_option maxRecDepth 100000 in
theorem moved_ct (m : Move) (jobs spots : Int) (hj : 0 ≤ jobs ∧ jobs ≤ 1000000) : Reads Tryz.prog 61 #[.agg (mC m).toArray, .int .i64 jobs, .int .i64 spots] [] (.bool (movedB m (jobs - 1) (IntKind.i64.wrap (spots - 1)))) := by
 refine ct_of (n := 48) Tryz.func61 rfl rfl (len rfl) fun hr w0 => ?_
 refine cS (cR (st_bx rfl rfl fun b3 => ?_))
 refine sV (vA rfl) (sN (nK [1, 2, 3, 6] rfl (nT (cS (cS (cR (sV (vF rfl fa110_0 rfl) (sV (vY rfl ld3) ?_))))))))
 refine sN (nK [1, 2, 3, 6, 8] rfl (nT (cB (cS (cR (sV (v_eql rfl rfl) (sV (vA rfl) (sN (nK [1, 2, 3, 6, 8, 9] rfl (nT (cC rfl (fun h1 => ?_) (fun h1 => ?_))))))))))))
 ·skip
  have e1 : m.1 = 1 := by simpa using h1
  have hr1 : movedB m (jobs - 1) (IntKind.i64.wrap (spots - 1)) = (within m.2.1 0 (IntKind.i64.wrap (spots - 1)) && m.2.2 == 0) := by unfold movedB; rw [if_pos e1]
  rw [hr1]
  refine cS (cR (sV (vF rfl fa110_1 rfl) (sV (vY rfl ld3) ?_)))
  refine sV (vM rfl) (sV (v_subw rfl rfl) (st_clr rfl rfl en80 rfl (within_ct m.2.1 0 _) ?_))
  refine sV (vM rfl) (st_cut (k := 10) (d := 20) (v := .bool (within m.2.1 0 (IntKind.i64.wrap (spots - 1)) && m.2.2 == 0)) (fun hcut => bool_want (b := within m.2.1 0 (IntKind.i64.wrap (spots - 1))) true (fun hg => ?_) (fun hg => ?_)) ?_)
  ·refine st_sk rfl rfl hg ?_
   iterate 2 refine st_sk rfl rfl hg ?_
   refine sV (vP (bE rfl hg) rfl) ?_
   exact hcut _ (uH (by first | rfl | (rw [hg]; rfl) | simp_all) (uS rfl (uS rfl (uS rfl (uR)))))
  ·skip
   refine sG rfl (bG rfl hg) (vF rfl fa110_2 rfl) (sG rfl (bG rfl hg) (vY rfl ld3) ?_)
   refine sG rfl (bG rfl hg) (v_eql rfl rfl) (sV (vQ (bE rfl hg) rfl) ?_)
   exact hcut _ (uH (by first | rfl | (rw [hg]; rfl) | simp_all) (uS rfl (uS rfl (uS rfl (uR)))))
  refine sV (vA rfl) (sN (nK [6] rfl (nT (cT (xW (xR ?_))))))
  exact xt_rt rfl ⟨rfl, rfl⟩
 ·skip
  have e1 : m.1 ≠ 1 := by simpa using h1
  refine cS (cS (cR (sV (v_eql rfl rfl) (sV (vA rfl) (sN (nK [1, 2, 3, 6, 8, 21] rfl (nT (cC rfl (fun h2 => ?_) (fun h2 => ?_)))))))))
  ·skip
   refine cK (xT ?_)
   have e2 : m.1 = 2 := by simpa using h2
   have hr2 : movedB m (jobs - 1) (IntKind.i64.wrap (spots - 1)) = (m.2.1 == 0 && m.2.2 == 0) := by unfold movedB; rw [if_neg e1, if_pos (.inl e2)]
   rw [hr2]
   refine cC rfl (fun h3 => ?_) (fun h3 => ?_)
   ·skip
    refine cS (cR (sV (vF rfl fa110_1 rfl) (sV (vY rfl ld3) ?_)))
    refine sV (v_eql rfl rfl) (sV (vM rfl) (st_cut (k := 8) (d := 31) (v := .bool (m.2.1 == 0 && m.2.2 == 0)) (fun hcut => bool_want (b := m.2.1 == 0) true (fun hg => ?_) (fun hg => ?_)) ?_))
    ·refine st_sk rfl rfl hg ?_
     iterate 2 refine st_sk rfl rfl hg ?_
     refine sV (vP (bE rfl hg) rfl) ?_
     exact hcut _ (uH (by first | rfl | (rw [hg]; rfl) | simp_all) (uS rfl (uS rfl (uS rfl (uR)))))
    ·skip
     refine sG rfl (bG rfl hg) (vF rfl fa110_2 rfl) (sG rfl (bG rfl hg) (vY rfl ld3) ?_)
     refine sG rfl (bG rfl hg) (v_eql rfl rfl) (sV (vQ (bE rfl hg) rfl) ?_)
     exact hcut _ (uH (by first | rfl | (rw [hg]; rfl) | simp_all) (uS rfl (uS rfl (uS rfl (uR)))))
    refine sV (vA rfl) (sN (nK [6] rfl (nT (cT (xW (xR ?_))))))
    exact xt_rt rfl ⟨rfl, rfl⟩
   ·skip
    rw [h2] at h3; cases h3
  ·skip
   have e2 : m.1 ≠ 2 := by simpa using h2
   refine cR (sV (v_eql rfl rfl) (sV (vA rfl) (sN (nK [1, 2, 3, 6, 8, 21] rfl (nT (cC rfl (fun h3 => ?_) (fun h3 => ?_)))))))
   ·skip
    refine cS (cR (sV (vF rfl fa110_1 rfl) (sV (vY rfl ld3) ?_)))
    refine sV (v_eql rfl rfl) (sV (vM rfl) ?_)
    have e3 : m.1 = 6 := by simpa using h3
    have hr2 : movedB m (jobs - 1) (IntKind.i64.wrap (spots - 1)) = (m.2.1 == 0 && m.2.2 == 0) := by unfold movedB; rw [if_neg e1, if_pos (.inr e3)]
    rw [hr2]
    refine st_cut (k := 8) (d := 31) (v := .bool (m.2.1 == 0 && m.2.2 == 0)) (fun hcut => bool_want (b := m.2.1 == 0) true (fun hg => ?_) (fun hg => ?_)) ?_
    ·refine st_sk rfl rfl hg ?_
     iterate 2 refine st_sk rfl rfl hg ?_
     refine sV (vP (bE rfl hg) rfl) ?_
     exact hcut _ (uH (by first | rfl | (rw [hg]; rfl) | simp_all) (uS rfl (uS rfl (uS rfl (uR)))))
    ·skip
     refine sG rfl (bG rfl hg) (vF rfl fa110_2 rfl) (sG rfl (bG rfl hg) (vY rfl ld3) ?_)
     refine sG rfl (bG rfl hg) (v_eql rfl rfl) (sV (vQ (bE rfl hg) rfl) ?_)
     exact hcut _ (uH (by first | rfl | (rw [hg]; rfl) | simp_all) (uS rfl (uS rfl (uS rfl (uR)))))
    refine sV (vA rfl) (sN (nK [6] rfl (nT (cT (xW (xR ?_))))))
    exact xt_rt rfl ⟨rfl, rfl⟩
   ·skip
    have e3 : m.1 ≠ 6 := by simpa using h3
    refine cS (cS (cR (sV (v_eql rfl rfl) (sV (vA rfl) (sN (nK [1, 2, 3, 6, 8, 32] rfl (nT ?_)))))))
    have hr3 : (m.1 = 3 ∨ m.1 = 4 ∨ m.1 = 5) → movedB m (jobs - 1) (IntKind.i64.wrap (spots - 1)) = (within m.2.1 0 (IntKind.i64.wrap (spots - 1)) && within m.2.2 0 (jobs - 1)) := fun h => by unfold movedB; rw [if_neg e1, if_neg (by omega), if_pos h]
    refine cC rfl (fun h4 => ?_) (fun h4 => ?_)
    ·skip
     refine cK (xT (cC rfl (fun h5 => ?_) (fun h5 => ?_)))
     ·skip
      rw [hr3 (.inl (by simpa using h4))]
      refine cS (cR (sV (vF rfl fa110_1 rfl) (sV (vY rfl ld3) ?_)))
      refine sV (vM rfl) (sV (v_subw rfl rfl) (st_clr rfl rfl en80 rfl (within_ct m.2.1 0 _) ?_))
      refine sV (vM rfl) (st_cut (k := 12) (d := 47) (v := .bool (within m.2.1 0 (IntKind.i64.wrap (spots - 1)) && within m.2.2 0 (jobs - 1))) (fun hcut => bool_want (b := within m.2.1 0 (IntKind.i64.wrap (spots - 1))) true (fun hg => ?_) (fun hg => ?_)) ?_)
      ·refine st_sk rfl rfl hg ?_
       iterate 4 refine st_sk rfl rfl hg ?_
       refine sV (vP (bE rfl hg) rfl) ?_
       exact hcut _ (uH (by first | rfl | (rw [hg]; rfl) | simp_all) (uS rfl (uS rfl (uS rfl (uS rfl (uS rfl (uR)))))))
      ·skip
       refine sG rfl (bG rfl hg) (vF rfl fa110_2 rfl) (sG rfl (bG rfl hg) (vY rfl ld3) ?_)
       refine sG rfl (bG rfl hg) (vM rfl) (sG rfl (bG rfl hg) (v_sub rfl rfl (by unfold I64; omega)) ?_)
       refine st_clrg rfl (bG rfl hg) rfl rfl en80 rfl (within_ct m.2.2 0 _) ?_
       refine sV (vQ (bE rfl hg) rfl) ?_
       exact hcut _ (uH (by first | rfl | (rw [hg]; rfl) | simp_all) (uS rfl (uS rfl (uS rfl (uS rfl (uS rfl (uR)))))))
      refine sV (vA rfl) (sN (nK [6] rfl (nT (cT (xW (xR ?_))))))
      exact xt_rt rfl ⟨rfl, rfl⟩
     ·skip
      rw [h4] at h5; cases h5
    ·skip
     refine cS (cR (sV (v_eql rfl rfl) (sV (vA rfl) (sN (nK [1, 2, 3, 6, 8, 32] rfl (nT (cC rfl (fun h5 => ?_) (fun h5 => ?_))))))))
     ·skip
      refine cK (xT (cC rfl (fun h6 => ?_) (fun h6 => ?_)))
      ·skip
       rw [hr3 (.inr (.inl (by simpa using h5)))]
       refine cS (cR (sV (vF rfl fa110_1 rfl) (sV (vY rfl ld3) ?_)))
       refine sV (vM rfl) (sV (v_subw rfl rfl) (st_clr rfl rfl en80 rfl (within_ct m.2.1 0 _) ?_))
       refine sV (vM rfl) (st_cut (k := 12) (d := 47) (v := .bool (within m.2.1 0 (IntKind.i64.wrap (spots - 1)) && within m.2.2 0 (jobs - 1))) (fun hcut => bool_want (b := within m.2.1 0 (IntKind.i64.wrap (spots - 1))) true (fun hg => ?_) (fun hg => ?_)) ?_)
       ·refine st_sk rfl rfl hg ?_
        iterate 4 refine st_sk rfl rfl hg ?_
        refine sV (vP (bE rfl hg) rfl) ?_
        exact hcut _ (uH (by first | rfl | (rw [hg]; rfl) | simp_all) (uS rfl (uS rfl (uS rfl (uS rfl (uS rfl (uR)))))))
       ·skip
        refine sG rfl (bG rfl hg) (vF rfl fa110_2 rfl) (sG rfl (bG rfl hg) (vY rfl ld3) ?_)
        refine sG rfl (bG rfl hg) (vM rfl) (sG rfl (bG rfl hg) (v_sub rfl rfl (by unfold I64; omega)) ?_)
        refine st_clrg rfl (bG rfl hg) rfl rfl en80 rfl (within_ct m.2.2 0 _) ?_
        refine sV (vQ (bE rfl hg) rfl) ?_
        exact hcut _ (uH (by first | rfl | (rw [hg]; rfl) | simp_all) (uS rfl (uS rfl (uS rfl (uS rfl (uS rfl (uR)))))))
       refine sV (vA rfl) (sN (nK [6] rfl (nT (cT (xW (xR ?_))))))
       exact xt_rt rfl ⟨rfl, rfl⟩
      ·skip
       rw [h5] at h6; cases h6
     ·skip
      refine cR (sV (v_eql rfl rfl) (sV (vA rfl) (sN (nK [1, 2, 3, 6, 32] rfl (nT (cC rfl (fun h6 => ?_) (fun h6 => ?_)))))))
      ·skip
       rw [hr3 (.inr (.inr (by simpa using h6)))]
       refine cS (cR (sV (vF rfl fa110_1 rfl) (sV (vY rfl ld3) ?_)))
       refine sV (vM rfl) (sV (v_subw rfl rfl) (st_clr rfl rfl en80 rfl (within_ct m.2.1 0 _) ?_))
       refine sV (vM rfl) (st_cut (k := 12) (d := 47) (v := .bool (within m.2.1 0 (IntKind.i64.wrap (spots - 1)) && within m.2.2 0 (jobs - 1))) (fun hcut => bool_want (b := within m.2.1 0 (IntKind.i64.wrap (spots - 1))) true (fun hg => ?_) (fun hg => ?_)) ?_)
       ·refine st_sk rfl rfl hg ?_
        iterate 4 refine st_sk rfl rfl hg ?_
        refine sV (vP (bE rfl hg) rfl) ?_
        exact hcut _ (uH (by first | rfl | (rw [hg]; rfl) | simp_all) (uS rfl (uS rfl (uS rfl (uS rfl (uS rfl (uR)))))))
       ·skip
        refine sG rfl (bG rfl hg) (vF rfl fa110_2 rfl) (sG rfl (bG rfl hg) (vY rfl ld3) ?_)
        refine sG rfl (bG rfl hg) (vM rfl) (sG rfl (bG rfl hg) (v_sub rfl rfl (by unfold I64; omega)) ?_)
        refine st_clrg rfl (bG rfl hg) rfl rfl en80 rfl (within_ct m.2.2 0 _) ?_
        refine sV (vQ (bE rfl hg) rfl) ?_
        exact hcut _ (uH (by first | rfl | (rw [hg]; rfl) | simp_all) (uS rfl (uS rfl (uS rfl (uS rfl (uS rfl (uR)))))))
       refine sV (vA rfl) (sN (nK [6] rfl (nT (cT (xW (xR ?_))))))
       exact xt_rt rfl ⟨rfl, rfl⟩
      ·skip
       refine cK (xB (xT (cS (cR (sV (vA rfl) (sN (nK [6] rfl (nT (cT ?_)))))))))
       have hr4 : movedB m (jobs - 1) (IntKind.i64.wrap (spots - 1)) = false := by
        unfold movedB; rw [if_neg e1, if_neg (by omega), if_neg (by simp at h4 h5 h6; omega)]
       rw [hr4]
       exact xt_rt rfl ⟨rfl, rfl⟩
end
end Go.Wt
namespace Go.Wt
open Go Go.Ck Go.Proofs Go.Proofs.YtboepbencndobaaGreat Fx
attribute [local irreducible] St Cd Xt Nx DrL LsW
section
variable {S : Res} {v : Value}
theorem drop_at {α : Type} {l : List α} {i : Nat} (h : i < l.length) : l.drop i = l[i] :: l.drop (i + 1) := List.drop_eq_getElem_cons h
theorem bal_cons (o : Int) (m : Move) (t : List Move) : bal o (m :: t) = if m.1 = 1 then bal (o + 1) t else if m.1 = 2 then (if o - 1 < 0 then false else bal (o - 1) t) else if m.1 = 6 then t.isEmpty else bal o t := rfl
set_option maxRecDepth 100000 in
theorem balanced_ct {l : List Move} (hv : Row S 3 (eqC mC) v l) (hl : l.length ≤ 1000000) : Reads Tryz.prog 64 #[v] [S] (.bool (bal 0 l)) := by
 obtain ⟨a, cap, hv1, _⟩ := id hv
 refine ct_of (n := 35) Tryz.func64 rfl rfl (len rfl) fun hr w0 => ?_
 refine cS (cR (sV (vA rfl) (sN (nT (cS (cR (sV (vA rfl) (sN (nT (cS (cS (cR (sV (vM rfl) (sV (v_len (congrArg some hv1) Tryz.underlying108) (sV (vM rfl) ?_)))))))))))))))
 refine sN (nT (cB (cd_lp (σ := Nat × Int) (fun s => [(0, v), (3, .int .i64 s.2), (6, v), (7, .int .i64 l.length), (8, .int .i64 (s.1 : Nat))]) (fun _ => S :: hr) (fun s => s.1 ≤ l.length ∧ 0 ≤ s.2 ∧ s.2 ≤ s.1 ∧ bal 0 l = bal s.2 (l.drop s.1)) (fun s => l.length - s.1) (0, 0) ⟨Nat.zero_le _, by decide, by decide, rfl⟩ ?_)))
 rintro ⟨i, o⟩ ⟨hi, ho, hoi, hb⟩
 simp only at hi ho hoi hb
 refine cS (cR (sV (v_lss rfl rfl) (sN (nT (cS (cC rfl (fun hd => ?_) (fun hd => ?_)))))))
 ·skip
  have hlt : i < l.length := by simpa using hd
  obtain ⟨b, off, cp2, us, hv2, hus, hrd, rfl⟩ := hv.at (List.getElem?_eq_getElem hlt)
  refine cK (xT (cS (cB (cS (cR (sV (vM rfl) (sV (vI (k := i) (congrArg some hv2) rfl sl108 rfl hlt rfl) (sV (v_ldn rfl ld110 hus hrd) ?_))))))))
  refine st_alc al110 fun b5 => ?_
  refine sV (vA rfl) (st_stoW rfl rfl sz110 rfl rfl ?_)
  refine sN (nK [0, 3, 4, 5, 6, 7, 8] rfl (nT (cS (cR (sV (vF rfl fa110_0 rfl) (sV (vY rfl ld3) ?_))))))
  refine sN (nK [0, 3, 4, 6, 7, 8, 14] rfl (nT (cB (cS (cR (sV (v_eql rfl rfl) (sV (vA rfl) (sN (nK [0, 3, 4, 6, 7, 8, 14, 15] rfl (nT ?_))))))))))
  rw [drop_at hlt, bal_cons] at hb
  refine cC rfl (fun h1 => ?_) (fun h1 => ?_)
  ·skip
   refine cR (sV (vM rfl) (sV (v_add rfl rfl (by unfold I64 at *; omega)) (sV (vA rfl) (sN (nK [0, 3, 6, 7, 8] rfl (nx_xt (xB (xB (xT (cR (sV (v_add rfl rfl (by unfold I64 at *; omega)) (sV (vM rfl) (sN (nK [0, 3, 6, 7, 8] rfl (nx_xt ?_)))))))))))))))
   rw [if_pos (by simpa using h1)] at hb
   refine xt_ag (i + 1, o + 1) ⟨hlt, by show 0 ≤ o + 1; omega, by show o + 1 ≤ ((i + 1 : Nat) : Int); omega, hb⟩ (by show _ - _ < _ - _; omega)
  ·skip
   rw [if_neg (by simpa using h1)] at hb
   refine cS (cR (sV (v_eql rfl rfl) (sV (vA rfl) (sN (nK [0, 3, 4, 6, 7, 8, 14, 19] rfl (nT (cC rfl (fun h2 => ?_) (fun h2 => ?_))))))))
   ·skip
    refine cS (cR (sV (vM rfl) (sV (v_sub rfl rfl (by unfold I64 at *; omega)) (sV (vA rfl) (sN (nK [0, 3, 6, 7, 8] rfl (nT (cS (cR (sV (vM rfl) (sV (v_lss rfl rfl) (sN (nK [0, 3, 6, 7, 8, 24] rfl (nT ?_))))))))))))))
    rw [if_pos (by simpa using h2)] at hb
    refine cC rfl (fun h3 => ?_) (fun h3 => ?_)
    ·skip
     refine cS (cR (sV (vA rfl) (sN (nK [0, 2, 3, 6, 7, 8] rfl (nT (cT (xW (xW (xR (xR (xW (xR ?_))))))))))))
     rw [if_pos (by simpa using h3)] at hb
     rw [hb]
     exact xt_rt rfl ⟨rfl, rfl⟩
    ·skip
     refine cK (xB (xB (xT (cR (sV (v_add rfl rfl (by unfold I64 at *; omega)) (sV (vM rfl) (sN (nK [0, 3, 6, 7, 8] rfl (nx_xt ?_)))))))))
     have h3' : ¬ o - 1 < 0 := by simpa using h3
     rw [if_neg h3'] at hb
     refine xt_ag (i + 1, o - 1) ⟨hlt, by show 0 ≤ o - 1; omega, by show o - 1 ≤ ((i + 1 : Nat) : Int); omega, hb⟩ (by show _ - _ < _ - _; omega)
   ·skip
    rw [if_neg (by simpa using h2)] at hb
    refine cS (cR (sV (v_eql rfl rfl) (sV (vA rfl) (sN (nK [0, 3, 4, 6, 7, 8, 25] rfl (nT (cC rfl (fun h4 => ?_) (fun h4 => ?_))))))))
    ·skip
     refine cS (cR (sV (vM rfl) (sV (vM rfl) (sV (v_len (congrArg some hv1) Tryz.underlying108) (sV (v_sub rfl rfl (by unfold I64 at *; omega)) (sV (v_eql rfl rfl) (sV (vA rfl) (sN (nK [0, 2, 3, 6, 7, 8] rfl (nT (cT (xW (xW (xR (xR ?_)))))))))))))))
     refine xW (xR ?_)
     rw [if_pos (by simpa using h4)] at hb
     have hq : bal 0 l = ((i : Int) == (l.length : Int) - 1) := by
      rw [hb]
      by_cases he : i + 1 = l.length
      ·rw [List.drop_of_length_le (by omega)]
       exact (beq_iff_eq.2 (by omega)).symm
      ·rw [drop_at (show i + 1 < l.length by omega)]
       exact (beq_eq_false_iff_ne.2 (by omega)).symm
     rw [hq]
     exact xt_rt rfl ⟨rfl, rfl⟩
    ·skip
     rw [if_neg (by simpa using h4)] at hb
     refine cK (xB (xB (xT (cR (sV (v_add rfl rfl (by unfold I64 at *; omega)) (sV (vM rfl) (sN (nK [0, 3, 6, 7, 8] rfl (nx_xt ?_)))))))))
     refine xt_ag (i + 1, o) ⟨hlt, ho, by show o ≤ ((i + 1 : Nat) : Int); omega, hb⟩ (by show _ - _ < _ - _; omega)
 ·skip
  refine cd_exit (xE (xE (xY (xT (cS (cR (sV (vM rfl) (sV (v_eql rfl rfl) (sV (vA rfl) (sN (nK [2] rfl (nT (cT ?_)))))))))))))
  have hil : i = l.length := by
   have : ¬ i < l.length := by simpa using hd
   omega
  rw [hb, List.drop_of_length_le (by omega)]
  exact xt_rt rfl ⟨rfl, rfl⟩
def Fits (jobs : List (List Move)) : Prop := jobs.length ≤ 1000000 ∧ ∀ l ∈ jobs, l.length ≤ 1000000
set_option maxRecDepth 100000 in
theorem check1_ct {l : List Move} (hv : Row S 3 (eqC mC) v l) : Reads Tryz.prog 57 #[v] [S] (.bool (decide ((l.length : Int) ≤ 20))) := by
 obtain ⟨a, cap, hv1, _⟩ := id hv
 refine ct_of (n := 6) Tryz.func57 rfl rfl (len rfl) fun hr w0 => ?_
 refine cS (cR (sV (vA rfl) (sN (nT (cS (cR (sV (vM rfl) (sV (v_len (congrArg some hv1) Tryz.underlying108) (sV (v_leq rfl rfl) (sV (vA rfl) (sN (nK [2] rfl (nT (cT ?_))))))))))))))
 exact xt_rt rfl ⟨rfl, rfl⟩
set_option maxRecDepth 100000 in
theorem check21_ct {jv : Value} {jobs : List (List Move)} {b1 b2 : Nat} {spots : Int} (m : Move) (hj : Row S 1 (jobR S) jv jobs) (hl : jobs.length ≤ 1000000) :
  Reads Tryz.prog 60 #[.agg (mC m).toArray, .pointer (some ⟨b1, 0, none⟩), .pointer (some ⟨b2, 0, none⟩)] [pt b1 (cl [jv] 22), pt b2 (cl [.int .i64 spots] 3), S] (.bool (movedB m ((jobs.length : Int) - 1) (IntKind.i64.wrap (spots - 1)))) := by
 obtain ⟨a, cap, hv1, _⟩ := id hj
 refine ct_of (n := 10) Tryz.func60 rfl rfl (len rfl) fun hr w0 => ?_
 refine cS (cR (st_bx rfl rfl fun b3 => ?_))
 refine sV (vA rfl) (sN (nK [1, 2, 3, 4] rfl (nT (cS (cR (sV (v_ldn rfl ld110 rfl rds_pt) ?_))))))
 refine sV (vY rfl ld22) ?_
 refine sV (v_len (congrArg some hv1) Tryz.underlying22) (sV (vY rfl ld3) ?_)
 refine st_clr rfl rfl en61 rfl (moved_ct m jobs.length spots ⟨by omega, by omega⟩) ?_
 refine sV (vA rfl) (sN (nK [4] rfl (nT (cT ?_))))
 exact xt_rt rfl ⟨rfl, rfl⟩
set_option maxRecDepth 100000 in
theorem check2_ct {jv : Value} {jobs : List (List Move)} {b1 b2 : Nat} {spots : Int} {l : List Move} (hv : Row S 3 (eqC mC) v l) (hll : l.length ≤ 1000000) (hj : Row S 1 (jobR S) jv jobs) (hl : jobs.length ≤ 1000000) :
  Reads Tryz.prog 58 #[v, .pointer (some ⟨b1, 0, none⟩), .pointer (some ⟨b2, 0, none⟩)] [pt b1 (cl [jv] 22), pt b2 (cl [.int .i64 spots] 3), S] (.bool (l.all fun m => movedB m ((jobs.length : Int) - 1) (IntKind.i64.wrap (spots - 1)))) := by
 refine ct_of (n := 8) Tryz.func58 rfl rfl (len rfl) fun hr w0 => ?_
 refine cS (cR (sV (vA rfl) (sN (nT (cS (cR (sV (vM rfl) (sV (v_makeFunc rfl rfl) (st_clr rfl rfl en59 rfl (reads_star (al59_ct (g := fun m => movedB m ((jobs.length : Int) - 1) (IntKind.i64.wrap (spots - 1))) (S := Res.star [pt b1 (cl [jv] 22), pt b2 (cl [.int .i64 spots] 3), S]) (hv.mono (rd_in (.there (.there .here))) fun _ _ _ h => h) hll en60 fun m hm us hus hX => by cases hX; exact reads_one (check21_ct m hj hl))) ?_)))))))))
 refine sV (vA rfl) (sN (nK [4] rfl (nT (cT ?_))))
 exact xt_rt rfl ⟨rfl, rfl⟩
end
end Go.Wt
namespace Go.Wt
open Go Go.Ck Go.Proofs Go.Proofs.YtboepbencndobaaGreat Fx
attribute [local irreducible] St Cd Xt Nx DrL LsW
section
variable {S : Res} {jv : Value}
def checkF (jobs : List (List Move)) (spots s1 : Int) : Int := firstE [if (decide (0 < spots) && decide (0 < (jobs.length : Int))) = true then 0 else 1, if (jobs.all fun l => l.all fun m => movedB m ((jobs.length : Int) - 1) s1) = true then 0 else 1, if (jobs.all fun l => bal 0 l) = true then 0 else 2]
theorem firstE_b (d : Int) (B C : Bool) : firstE [if true = true then 0 else 1, if B = true then 0 else 1, if C = true then 0 else 2] = if true = false then d else if B = false then 1 else if C = false then 2 else 0 := by
 cases B <;> cases C <;> rfl
theorem firstE_a (x y z : Int) : firstE [if false = true then 0 else 1, x, y] = if false = false then 1 else z := rfl
theorem checkF_eq (jobs : List (List Move)) (spots : Int) (hs : I64 spots) : checkF jobs spots (IntKind.i64.wrap (spots - 1)) = if (decide (0 < spots) && decide (0 < (jobs.length : Int))) = false then 1
 else if (jobs.all fun l => l.all fun m => moved m jobs.length spots) = false then 1
 else if (jobs.all fun l => bal 0 l) = false then 2
 else 0 := by
 unfold checkF
 by_cases h0 : (decide (0 < spots) && decide (0 < (jobs.length : Int))) = true
 ·have hp : 0 < spots := by simp at h0; exact h0.1
  have hw : IntKind.i64.wrap (spots - 1) = spots - 1 := I64.wrap (by unfold I64 at *; omega)
  rw [hw, h0]
  have hm : (jobs.all fun l => l.all fun m => movedB m ((jobs.length : Int) - 1) (spots - 1)) = (jobs.all fun l => l.all fun m => moved m jobs.length spots) := rfl
  rw [hm]
  exact firstE_b _ _ _
 ·have h0' : (decide (0 < spots) && decide (0 < (jobs.length : Int))) = false := by simpa using h0
  rw [h0']
  exact firstE_a _ _ _
set_option maxRecDepth 100000 in
theorem check_ct {jobs : List (List Move)} {spots : Int} (hj : Row S 1 (jobR S) jv jobs) (hf : Fits jobs) (hs : I64 spots) : Reads Tryz.prog 17 #[jv, .int .i64 spots] [S] (.int .i64 (check jobs spots)) := by
 obtain ⟨hl, hll⟩ := hf
 obtain ⟨a, cap, rfl, _⟩ := id hj
 refine ct_of (n := 36) Tryz.func17 rfl rfl (len rfl) fun hr w0 => ?_
 refine cS (cR (st_bx rfl rfl fun b2 => ?_))
 refine st_bx rfl rfl fun b3 => ?_
 refine sV (vA rfl) (sN (nK [2, 3, 4] rfl (nT (cS (cS (cR (sV (vY rfl ld3) ?_)))))))
 refine sV (v_gtr rfl rfl) (sV (vM rfl) (st_cut (k := 7) (d := 12) (v := .bool (decide (12 < spots) || decide (30 < (jobs.length : Int)))) (fun hcut => bool_want (b := decide (12 < spots)) false (fun hg => ?_) (fun hg => ?_)) ?_))
 ·refine st_sk rfl rfl hg ?_
  iterate 2 refine st_sk rfl rfl hg ?_
  refine sV (vQ (bE rfl hg) rfl) ?_
  exact hcut _ (uH (by first | rfl | (rw [hg]; rfl) | simp_all) (uS rfl (uS rfl (uS rfl (uR)))))
 ·skip
  refine sG rfl (bG rfl hg) (vY rfl ld22) ?_
  refine sG rfl (bG rfl hg) (v_len rfl Tryz.underlying22) (sG rfl (bG rfl hg) (v_gtr rfl rfl) (sV (vP (bE rfl hg) rfl) ?_))
  exact hcut _ (uH (by first | rfl | (rw [hg]; rfl) | simp_all) (uS rfl (uS rfl (uS rfl (uR)))))
 refine sV (vM rfl) (st_cut (k := 12) (d := 17) (v := .bool (decide (12 < spots) || decide (30 < (jobs.length : Int)) || !jobs.all fun l => decide ((l.length : Int) ≤ 20))) (fun hcut => bool_want (b := (decide (12 < spots) || decide (30 < (jobs.length : Int)))) false (fun hg => ?_) (fun hg => ?_)) ?_)
 ·refine st_sk rfl rfl hg ?_
  iterate 2 refine st_sk rfl rfl hg ?_
  refine sV (vQ (bE rfl hg) rfl) ?_
  exact hcut _ (uH (by first | rfl | (rw [hg]; rfl) | simp_all) (uS rfl (uS rfl (uS rfl (uR)))))
 ·skip
  refine sG rfl (bG rfl hg) (vY rfl ld22) ?_
  refine st_clrg rfl (bG rfl hg) rfl rfl en56 rfl (al56_ct (g := fun l : List Move => decide ((l.length : Int) ≤ 20)) hj hl en57 fun l hm u hX => by obtain ⟨v, hv0, hv⟩ := hX; cases hv0; exact (check1_ct hv)) ?_
  refine sG rfl (bG rfl hg) (v_not rfl) (sV (vP (bE rfl hg) rfl) ?_)
  exact hcut _ (uH (by first | rfl | (rw [hg]; rfl) | simp_all) (uS rfl (uS rfl (uS rfl (uR)))))
 refine sN (nK [2, 3, 4, 17] rfl (nT (cC rfl (fun hA => ?_) (fun hA => ?_))))
 ·skip
  refine cS (cR (sV (vA rfl) (sN (nK [2, 3, 4] rfl (nT (cT (xR ?_)))))))
  have hc : check jobs spots = 3 := by unfold check; rw [if_pos hA]
  rw [hc]
  exact xt_rt rfl ⟨rfl, rfl⟩
 ·skip
  have hc : check jobs spots = checkF jobs spots (IntKind.i64.wrap (spots - 1)) := by
   rw [checkF_eq jobs spots hs]
   unfold check; rw [if_neg (by rw [hA]; simp)]
  rw [hc]
  refine cK (xT (cS (cR (sV (v_makeFunc rfl rfl) (sV (vA rfl) (sN (nK [2, 3, 4, 5] rfl (nT (cS (cd_drawh (ork [(0, 1), (1, 2), (2, 2), (3, 1), (4, 2), (5, 2), (6, 2), (7, 1), (8, 1), (9, 2), (10, 1), (11, 1), (12, 1), (13, 1), (14, 1), (15, 0), (16, 0), (17, 2)] .nil) (fun i => !(Nat.beq i 15 || Nat.beq i 16)) mixed (by kernel_rfl) ?_))))))))))
  refine dr_v rfl (vY rfl ld3) ?_
  refine dV rfl (v_gtr rfl rfl) (dV rfl (vM rfl) (dr_cut (k := 4) (d := 25) (v := .bool (decide (0 < spots) && decide (0 < (jobs.length : Int)))) (fun hcut => bool_want (b := decide (0 < spots)) true (fun hg => ?_) (fun hg => ?_)) ?_))
  ·refine dr_sk rfl rfl rfl hg ?_
   iterate 2 refine dp_sk rfl rfl rfl hg ?_
   refine dV rfl (vP (bE rfl hg) rfl) ?_
   exact hcut _ (uH (by first | rfl | (rw [hg]; rfl) | simp_all) (uS rfl (uS rfl (uS rfl (uR)))))
  ·skip
   refine dr_vg rfl rfl (bG rfl hg) (vY rfl ld22) ?_
   refine dp_vg rfl rfl (bG rfl hg) (v_len rfl Tryz.underlying22) (dp_vg rfl rfl (bG rfl hg) (v_gtr rfl rfl) (dV rfl (vQ (bE rfl hg) rfl) ?_))
   exact hcut _ (uH (by first | rfl | (rw [hg]; rfl) | simp_all) (uS rfl (uS rfl (uS rfl (uR)))))
  refine dr_clr rfl rfl rfl en63 rfl (unless_ct (decide (0 < spots) && decide (0 < (jobs.length : Int))) 1) ?_
  refine dr_v rfl (vY rfl ld22) ?_
  refine dV rfl (vM rfl) (dr_clr rfl rfl rfl en56 rfl (reads_star (al56_ct (g := fun l : List Move => l.all fun m => movedB m ((jobs.length : Int) - 1) (IntKind.i64.wrap (spots - 1))) (S := Res.star [pt b2 (cl [.slice a jobs.length cap] 22), pt b3 (cl [.int .i64 spots] 3), S]) (hj.mono (rd_in (.there (.there .here))) fun _ _ _ h => h) hl en58 fun l hm u hX => by obtain ⟨v, hv0, hv⟩ := hX; cases hv0; exact reads_one (check2_ct hv (hll l hm) hj hl))) ?_)
  refine dr_clr rfl rfl rfl en63 rfl (unless_ct (jobs.all fun l => l.all fun m => movedB m ((jobs.length : Int) - 1) (IntKind.i64.wrap (spots - 1))) 1) ?_
  refine dr_v rfl (vY rfl ld22) ?_
  refine dr_clr rfl rfl rfl en56 rfl (al56_ct (g := fun l : List Move => bal 0 l) hj hl en64 fun l hm u hX => by obtain ⟨v, hv0, hv⟩ := hX; cases hv0; exact balanced_ct hv (hll l hm)) ?_
  refine dr_clr rfl rfl rfl en63 rfl (unless_ct (jobs.all fun l => bal 0 l) 2) ?_
  unfold checkF
  generalize hE1 : (if (decide (0 < spots) && decide (0 < (jobs.length : Int))) = true then (0 : Int) else 1) = e1
  generalize hE2 : (if (jobs.all fun l => l.all fun m => movedB m ((jobs.length : Int) - 1) (IntKind.i64.wrap (spots - 1))) = true then (0 : Int) else 1) = e2
  generalize hE3 : (if (jobs.all fun l => bal 0 l) = true then (0 : Int) else 2) = e3
  refine dr_eff rfl (st_buildSlice (cells := [.int .i64 e1, .int .i64 e2, .int .i64 e3]) rfl Tryz.underlying166 inf28 rfl rfl (by kernel_rfl) (ltn rfl) fun b34 => dr_nx ?_)
  refine dr_eff rfl (st_cl rfl rfl en62 rfl (first_ct (S := pt b34 (cl [.int .i64 e1, .int .i64 e2, .int .i64 e3] 28)) (l := [e1, e2, e3]) (row_pt rfl (by simp [iC]) rfl (by decide)) (by simp)) ?_)
  rintro u h' ⟨rfl, rfl⟩
  refine dr_nx ?_
  refine dV rfl (vA rfl) (dr_nil (nK [4] rfl (nT (cT ?_))))
  exact xt_rt rfl ⟨rfl, rfl⟩
end
end Go.Wt
namespace Go.Wt
open Go Go.Ck Go.Proofs Go.Proofs.YtboepbencndobaaGreat Fx
attribute [local irreducible] St Cd Xt Nx DrL LsW
/-! ## Jobs that are owned -/
def jrows (hs : List Value) (jobs : List (List Move)) : List Res := List.zipWith (fun h l => VR h 110 3 (l.map mC)) hs jobs
def JO (jv : Value) (hs : List Value) (jobs : List (List Move)) : SH := [VR jv 108 1 (hs.map fun h => [h]), Res.star (jrows hs jobs), pureR (hs.length = jobs.length)]
theorem JO_row {jv : Value} {hs : List Value} {jobs : List (List Move)} {S : Res} (hok : ∃ g, HoldsF g (JO jv hs jobs)) (hr : ∀ r ∈ JO jv hs jobs, ∀ a u, Rd r a u → Rd S a u) : Row S 1 (jobR S) jv jobs := by
 obtain ⟨g, hg⟩ := hok
 have hlen : hs.length = jobs.length := HoldsF.get hg (r := pureR (hs.length = jobs.length)) (by simp [JO])
 have h2 : HoldsF g (jrows hs jobs) := HoldsF.get hg (r := Res.star (jrows hs jobs)) (by simp [JO])
 refine row_vr (E := 108) (rows := hs.map fun h => [h]) ⟨g, HoldsF.get hg (by simp [JO])⟩ (by simp [hlen]) (hr _ (by simp [JO])) fun i us l h3 h4 => ?_
 have hli : i < jobs.length := (List.getElem?_eq_some_iff.1 h4).1
 have hai : hs[i]? = some hs[i] := List.getElem?_eq_getElem (by omega)
 have h5 : us = [hs[i]] := by simp [List.getElem?_map, hai] at h3; exact h3.symm
 have hmem : VR hs[i] 110 3 (l.map mC) ∈ jrows hs jobs := List.mem_of_getElem? (i := i) (by simp [jrows, List.getElem?_zipWith, hai, h4])
 refine ⟨hs[i], h5, row_vr (E := 110) (rows := l.map mC) ⟨g, HoldsF.get h2 hmem⟩ (by simp) (fun a u hu => hr (Res.star (jrows hs jobs)) (by simp [JO]) a u (rd_mem hmem a u hu)) fun j us x g1 g2 => ?_⟩
 simp [List.getElem?_map, g2] at g1; exact g1.symm
theorem own_yard {jv pv : Value} {n : Nat} {H : Nat → PH} {f : Nat → Proc} {hs : List Value} {jobs : List (List Move)} {L : SH} (hok : ∃ g, HoldsF g L) (h1 : ∀ r ∈ JO jv hs jobs ++ YO pv n H f, r ∈ L) (h2 : ∀ g, HoldsF g L → HoldsF g (JO jv hs jobs)) (h3 : ∀ g, HoldsF g L → HoldsF g (YO pv n H f)) : yardR (Res.star L) [jv, pv] ⟨jobs, (List.range n).map f⟩ :=
 ⟨jv, pv, rfl, JO_row (hok.elim fun g hg => ⟨g, h2 g hg⟩) fun r hr a u hu => rd_mem (h1 r (List.mem_append_left _ hr)) a u hu, YO_row (hok.elim fun g hg => ⟨g, h3 g hg⟩) fun r hr a u hu => rd_mem (h1 r (List.mem_append_right _ hr)) a u hu⟩
def Triv (r : Res) : Prop := ∀ (w : World) (h : SH), Holds w h → Holds w (r :: h)
theorem triv_nil (E : TypeId) (sz : Nat) : Triv (VR (.slice none 0 0) E sz []) := fun _ _ hh => hh.vr_nil E sz
theorem triv_star {L : SH} (h : ∀ r ∈ L, Triv r) : Triv (Res.star L) := fun w k hh => by
 refine holds_star1.2 ?_
 induction L with
 | nil => exact hh
 | cons a t ih => exact h a (by simp) w _ (ih fun r hr => h r (by simp [hr]))
theorem triv_pure {φ : Prop} (hp : φ) : Triv (pureR φ) := fun w k hh => vw_pure hp w hh
def PH.nil : PH := ⟨.slice none 0 0, .slice none 0 0, .slice none 0 0, .slice none 0 0, []⟩
theorem triv_PR : Triv (PR PH.nil Proc.empty) := triv_star fun r hr => by
 simp only [prl, PH.nil, Proc.empty, List.mem_cons, List.mem_nil_iff, or_false] at hr
 rcases hr with rfl | rfl | rfl | rfl | rfl | rfl
 ·exact triv_nil _ _
 ·exact triv_nil _ _
 ·exact triv_nil _ _
 ·exact triv_nil _ _
 ·exact triv_star fun r hr => by simp [arows] at hr
 ·exact triv_pure rfl
theorem vw_RSx {n i : Nat} {R : Nat → Res} {h : SH} (ht : ∀ k, k ≠ i → Triv (R k)) : Vw h (RSx n i R :: h) := fun w hh => triv_star (fun r hr => by
 obtain ⟨k, hk, rfl⟩ := List.mem_map.1 hr
 have := (List.mem_filter.1 hk).2
 exact ht k (by simpa using this)) w h hh
theorem Vw.cons {a b : Res} {h : SH} (hv : ∀ k, Vw (a :: k) (b :: k)) : Vw (a :: h) (b :: h) := hv h
def newP : Proc := { Proc.empty with lines := [⟨(0, 0), [(0, false)], true, false⟩], puts := [(0, 0)], made := 1 }
theorem new_pr (jobs : List (List Move)) (m : Nat) : ∀ k, k < m + 1 → (Yard.new jobs (m + 1)).pr k = upd (fun _ => Proc.empty) 0 newP k := fun k hk => by
 unfold Yard.pr Yard.new upd
 cases k with
 | zero => simp [List.replicate_succ, newP]
 | succ k => simp [List.replicate_succ, List.getElem?_replicate, show k < m by omega]
theorem map_range_congr {α : Type} {n : Nat} {f g : Nat → α} (h : ∀ k, k < n → f k = g k) : (List.range n).map f = (List.range n).map g := List.map_congr_left fun k hk => h k (by simpa using hk)
theorem RS_congr {n : Nat} {R R' : Nat → Res} (h : ∀ k, k < n → R k = R' k) : RS n R = RS n R' := by unfold RS; rw [map_range_congr h]
theorem YO_congr {pv : Value} {n : Nat} {H H' : Nat → PH} {f f' : Nat → Proc} (h1 : ∀ k, k < n → H k = H' k) (h2 : ∀ k, k < n → f k = f' k) : YO pv n H f = YO pv n H' f' := by
 unfold YO
 rw [map_range_congr (g := fun k => hpC (H' k) (f' k)) fun k hk => by rw [h1 k hk, h2 k hk], RS_congr (R' := fun k => PR (H' k) (f' k)) fun k hk => by rw [h1 k hk, h2 k hk]]
theorem new_view {jobs : List (List Move)} {m b50 b52 b54 : Nat} {pv : Value} {h : SH} : Vw (VR pv 77 9 ([.slice (some ⟨b52, 0, none⟩) 1 1, .slice (some ⟨b54, 0, none⟩) 1 1, .int .i64 (-1), .int .i64 0, .bool false, .slice none 0 0, .int .i64 (-1), .int .i64 1, .slice none 0 0] :: List.replicate m (hpC PH.nil Proc.empty))
  :: pt b50 (cl [.int .i64 0, .bool false] 117) :: pt b52 (cl [.int .i64 0, .int .i64 0, .slice (some ⟨b50, 0, none⟩) 1 1, .bool true, .bool false] 120) :: pt b54 (cl [.int .i64 0, .int .i64 0] 79) :: h)
  (YO pv (m + 1) (upd (fun _ => PH.nil) 0 ⟨.slice (some ⟨b52, 0, none⟩) 1 1, .slice (some ⟨b54, 0, none⟩) 1 1, .slice none 0 0, .slice none 0 0, [.slice (some ⟨b50, 0, none⟩) 1 1]⟩) (Yard.new jobs (m + 1)).pr ++ h) := fun w hh => by
 rw [YO_congr (H' := upd (fun _ => PH.nil) 0 ⟨.slice (some ⟨b52, 0, none⟩) 1 1, .slice (some ⟨b54, 0, none⟩) 1 1, .slice none 0 0, .slice none 0 0, [.slice (some ⟨b50, 0, none⟩) 1 1]⟩) (fun _ _ => rfl) (new_pr jobs m)]
 have e : (hpC ⟨.slice (some ⟨b52, 0, none⟩) 1 1, .slice (some ⟨b54, 0, none⟩) 1 1, .slice none 0 0, .slice none 0 0, [.slice (some ⟨b50, 0, none⟩) 1 1]⟩ newP :: List.replicate m (hpC PH.nil Proc.empty)) = foc (m + 1) 0 (hpC ⟨.slice (some ⟨b52, 0, none⟩) 1 1, .slice (some ⟨b54, 0, none⟩) 1 1, .slice none 0 0, .slice none 0 0, [.slice (some ⟨b50, 0, none⟩) 1 1]⟩ newP) fun _ => hpC PH.nil Proc.empty := by
  unfold foc
  rw [List.range_succ_eq_map, List.map_cons, upd_same, List.map_map]
  congr 1
  apply List.ext_getElem
  ·simp
  ·intro i h1 h2
   simp [upd]
 have e2 := e
 have h1 : Holds w (FP pv (m + 1) 0 (fun _ => PH.nil) (fun _ => Proc.empty) (hpC ⟨.slice (some ⟨b52, 0, none⟩) 1 1, .slice (some ⟨b54, 0, none⟩) 1 1, .slice none 0 0, .slice none 0 0, [.slice (some ⟨b50, 0, none⟩) 1 1]⟩ newP) :: pt b50 (cl [.int .i64 0, .bool false] 117) :: pt b52 (cl [.int .i64 0, .int .i64 0, .slice (some ⟨b50, 0, none⟩) 1 1, .bool true, .bool false] 120) :: pt b54 (cl [.int .i64 0, .int .i64 0] 79) :: h) := by
  unfold FP
  rw [← e]; exact hh
 refine vw_unfocus (Nat.succ_pos m) w ?_
 have h2 : Holds w (pt b50 (cl [.int .i64 0, .bool false] 117) :: pt b52 (cl [.int .i64 0, .int .i64 0, .slice (some ⟨b50, 0, none⟩) 1 1, .bool true, .bool false] 120) :: pt b54 (cl [.int .i64 0, .int .i64 0] 79) :: FP pv (m + 1) 0 (fun _ => PH.nil) (fun _ => Proc.empty) (hpC ⟨.slice (some ⟨b52, 0, none⟩) 1 1, .slice (some ⟨b54, 0, none⟩) 1 1, .slice none 0 0, .slice none 0 0, [.slice (some ⟨b50, 0, none⟩) 1 1]⟩ newP) :: h) := h1.perm (by
  refine (List.Perm.swap _ _ _).trans (List.Perm.cons _ ((List.Perm.swap _ _ _).trans (List.Perm.cons _ ?_)))
  exact List.Perm.swap _ _ _)
 have h3 := vw_of (E := 117) (sz := 2) [[.int .i64 0, .bool false]] rfl (by simp) rfl (by decide) w h2
 have h4 := vw_of (E := 120) (sz := 5) [[.int .i64 0, .int .i64 0, .slice (some ⟨b50, 0, none⟩) 1 1, .bool true, .bool false]] rfl (by simp) rfl (show 1 ≤ maxLen by decide) w (h3.perm (.swap _ _ _))
 have h5 := vw_of (E := 79) (sz := 2) [[.int .i64 0, .int .i64 0]] rfl (by simp) rfl (by decide) w (h4.perm (by
  refine (List.Perm.cons _ (List.Perm.swap _ _ _)).trans (List.Perm.swap _ _ _)))
 have h6 := vw_RSx (n := m + 1) (i := 0) (R := fun _ => PR PH.nil Proc.empty) (fun _ _ => triv_PR) w (vw_pure (φ := ([Value.slice (some ⟨b50, 0, none⟩) 1 1] : List Value).length = [(⟨(0, 0), [(0, false)], true, false⟩ : Line)].length) rfl w (vw_nil 81 5 w (vw_nil 161 4 w h5)))
 have h7 : Holds w ([VR (.slice (some ⟨b50, 0, none⟩) 1 1) 117 2 [[.int .i64 0, .bool false]]] ++ ([FX (m + 1) 0 (fun _ => PH.nil) (fun _ => Proc.empty), pureR (([Value.slice (some ⟨b50, 0, none⟩) 1 1] : List Value).length = [(⟨(0, 0), [(0, false)], true, false⟩ : Line)].length), VR (.slice none 0 0) 81 5 [], VR (.slice none 0 0) 161 4 [], VR (.slice (some ⟨b54, 0, none⟩) 1 1) 79 2 [[.int .i64 0, .int .i64 0]], VR (.slice (some ⟨b52, 0, none⟩) 1 1) 120 5 [[.int .i64 0, .int .i64 0, .slice (some ⟨b50, 0, none⟩) 1 1, .bool true, .bool false]], FP pv (m + 1) 0 (fun _ => PH.nil) (fun _ => Proc.empty) (hpC ⟨.slice (some ⟨b52, 0, none⟩) 1 1, .slice (some ⟨b54, 0, none⟩) 1 1, .slice none 0 0, .slice none 0 0, [.slice (some ⟨b50, 0, none⟩) 1 1]⟩ newP)] ++ h)) := h6.perm (by
  simp only [List.cons_append, List.nil_append]
  exact (List.perm_middle (a := VR (.slice (some ⟨b50, 0, none⟩) 1 1) 117 2 [[.int .i64 0, .bool false]]) (l₁ := [FX (m + 1) 0 (fun _ => PH.nil) (fun _ => Proc.empty), pureR _, VR (.slice none 0 0) 81 5 [], VR (.slice none 0 0) 161 4 [], VR (.slice (some ⟨b54, 0, none⟩) 1 1) 79 2 [[.int .i64 0, .int .i64 0]], VR (.slice (some ⟨b52, 0, none⟩) 1 1) 120 5 [[.int .i64 0, .int .i64 0, .slice (some ⟨b50, 0, none⟩) 1 1, .bool true, .bool false]]])))
 have h8 := vw_unstar w h7
 refine h8.perm (Pm.perm ?_)
 simp only [prl, List.cons_append, List.nil_append]
 iterate 7 refine Pm.cons slq ?_
 exact Pm.refl
theorem pv_new {jobs : List (List Move)} {m b50 b52 b54 : Nat} {pv : Value} : ∀ t, Vw ([VR pv 77 9 ([.slice (some ⟨b52, 0, none⟩) 1 1, .slice (some ⟨b54, 0, none⟩) 1 1, .int .i64 (-1), .int .i64 0, .bool false, .slice none 0 0, .int .i64 (-1), .int .i64 1, .slice none 0 0] :: List.replicate m (hpC PH.nil Proc.empty)),
  pt b50 (cl [.int .i64 0, .bool false] 117), pt b52 (cl [.int .i64 0, .int .i64 0, .slice (some ⟨b50, 0, none⟩) 1 1, .bool true, .bool false] 120), pt b54 (cl [.int .i64 0, .int .i64 0] 79)] ++ t)
  (YO pv (m + 1) (upd (fun _ => PH.nil) 0 ⟨.slice (some ⟨b52, 0, none⟩) 1 1, .slice (some ⟨b54, 0, none⟩) 1 1, .slice none 0 0, .slice none 0 0, [.slice (some ⟨b50, 0, none⟩) 1 1]⟩) (Yard.new jobs (m + 1)).pr ++ t) := fun _ => new_view
end Go.Wt
