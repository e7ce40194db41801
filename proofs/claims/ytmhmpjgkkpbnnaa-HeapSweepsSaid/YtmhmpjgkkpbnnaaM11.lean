/-
  Pictures of package heap: seen, in, meet. Conditions: what the heap holds, that the machine is in order.
  Pictures of package heap: Picture. Conditions: what the heap holds, that the machine is in order.
  Pictures of package heap: Picture, joined. Conditions: what the heap holds, that the machine is in order.
  Pictures of package heap: Picture, whole. Conditions: what the heap holds, that the machine is in order.
-/
import Derived.Test.YtmhmpjgkkpbnnaaM10
import Derived.Test.YtmhmpjgkkpbnnaaM4
namespace Go.Proofs.Ytmhmpjgkkpbnnaa
open Go.Ck Fx Go.Hm Go.Hm.AM
attribute [local irreducible] St Cd Xt Nx DrL LsW
section
variable {L : MemL} {μ : Mem} {S R : Res} {m : AM} {ly ln lf : List Int} {φ : Int → Option Nat} {A : Store} {v : Value} {roots : List Int} {t : Int}
theorem seen_of (I : MI L μ S m) (h : AM.Good m ly ln lf φ A) (t : Int) : (ml μ.mv t = none → m.seen t = t) ∧ ∀ to, ml μ.mv t = some to → m.seen t = if μ.bu && μ.o.begins t then to else t := by
  have hb := I.r.bo t
  unfold AM.seen
  cases hF : m.isF t with
  | false =>
    rw [hF, Bool.false_and] at hb
    exact ⟨fun _ => rfl, fun to _ => by rw [hb, Bool.and_false]; rfl⟩
  | true =>
    rw [hF, Bool.true_and] at hb
    have hmv := I.r.mv t hF
    by_cases hm : m.moved t = 0
    · rw [if_pos hm] at hmv
      exact ⟨fun _ => by rw [hm]; rfl, fun to hto => by rw [hmv] at hto; cases hto⟩
    · rw [if_neg hm] at hmv
      have hp := h.g.mpos t hm
      have hf := h.ym t hm
      have hh := h.g.fhead hf
      have hbz : m.busy = true := by
        cases hz : m.busy with
        | true => rfl
        | false => rw [h.g.nb hz] at hf; cases hf
      refine ⟨fun hn => (by rw [hmv] at hn; cases hn), fun to hto => ?_⟩
      rw [hmv] at hto
      cases hto
      rw [hb, I.r.bu, hbz]
      simp [hp, hh]
set_option maxRecDepth 100000 in
theorem hseen_ct (I : MI L μ S m) (h : AM.Good m ly ln lf φ A) : Reads Try.prog 59 #[.pointer (some ⟨L.mb, 0, none⟩), .int .i64 t] [mb L μ, mpr L.mvb (mvv μ.mv), sb L.o μ.o, tb L.o μ.o] (.int .i64 (m.seen t)) := by
  have oo := I.r.oko h.g
  obtain ⟨q1, q2⟩ := seen_of I h t
  cases hq : ml μ.mv t with
  | none =>
    rw [q1 hq]
    refine ct_of (n := 33) Try.func59 rfl rfl (len rfl) fun hr w0 => ?_
    refine cd_seq (cd_region (st_v (v_assign rfl) (st_nil (nx_then (cd_seq (cd_seq (cd_region (st_v (v_move rfl) (st_v (v_nilCheck rfl) (st_v (v_fieldAddr rfl fa100_7 rfl) (st_v (v_ld rfl ld97) ?_)))))))))))
    refine st_v (v_move rfl) (st_v (v_lookup_ok rfl rfl mp97 inf3 (by repeat (first | exact Sel.here | apply Sel.there))) ?_)
    rw [mlook_mvv, hq]
    refine st_v (v_move rfl) (st_v (v_extract rfl rfl) (st_v (v_extract rfl rfl) (st_v (v_assign rfl) (st_v (v_assign rfl) (st_nil (nx_kp [0, 1, 4, 5, 6] rfl (nx_then (cd_seq (cd_region (st_v (v_move rfl) (st_v (v_move rfl) (st_sk rfl rfl rfl ?_))))))))))))
    refine st_sk rfl rfl rfl ?_
    refine st_sk rfl rfl rfl ?_
    refine st_sk rfl rfl rfl ?_
    refine st_v (v_pick_false rfl rfl) (st_v (v_move rfl) (st_sk rfl rfl rfl ?_))
    refine st_sk rfl rfl rfl ?_
    refine st_sk rfl rfl rfl ?_
    refine st_sk rfl rfl rfl ?_
    refine st_sk rfl rfl rfl ?_
    refine st_sk rfl rfl rfl ?_
    refine st_v (v_pick_false rfl rfl) (st_nil (nx_kp [1, 4, 5, 30] rfl (nx_then (cd_false rfl ?_))))
    refine cd_skip (xt_then (cd_seq (cd_region (st_v (v_move rfl) (st_v (v_assign rfl) (st_nil (nx_kp [4] rfl (nx_then (cd_ret ?_)))))))))
    exact xt_rt rfl ⟨rfl, rfl⟩
  | some to =>
    rw [q2 to hq]
    refine ct_of (n := 33) Try.func59 rfl rfl (len rfl) fun hr w0 => ?_
    refine cd_seq (cd_region (st_v (v_assign rfl) (st_nil (nx_then (cd_seq (cd_seq (cd_region (st_v (v_move rfl) (st_v (v_nilCheck rfl) (st_v (v_fieldAddr rfl fa100_7 rfl) (st_v (v_ld rfl ld97) ?_)))))))))))
    refine st_v (v_move rfl) (st_v (v_lookup_ok rfl rfl mp97 inf3 (by repeat (first | exact Sel.here | apply Sel.there))) ?_)
    rw [mlook_mvv, hq]
    refine st_v (v_move rfl) (st_v (v_extract rfl rfl) (st_v (v_extract rfl rfl) (st_v (v_assign rfl) (st_v (v_assign rfl) (st_nil (nx_kp [0, 1, 4, 5, 6] rfl (nx_then (cd_seq (cd_region (st_v (v_move rfl) (st_v (v_move rfl) (st_vg rfl rfl (v_move rfl) (st_vg rfl rfl (v_nilCheck rfl) (st_vg rfl rfl (v_fieldAddr rfl fa100_5 rfl) (st_vg rfl rfl (v_ld rfl ld4) ?_)))))))))))))))
    refine st_v (v_pick_true rfl rfl) (st_v (v_move rfl) (st_cut (k := 15) (d := 30) (v := .bool (μ.bu && μ.o.begins t)) (fun hcut => bool_want (b := μ.bu) true (fun hg => ?_) (fun hg => ?_)) ?_))
    · refine st_sk rfl rfl hg ?_
      refine st_sk rfl rfl hg ?_
      refine st_sk rfl rfl hg ?_
      refine st_sk rfl rfl hg ?_
      refine st_sk rfl rfl hg ?_
      refine st_sk rfl rfl hg ?_
      refine st_v (v_pick_false (bool_ev rfl hg) rfl) ?_
      exact hcut _ (ssub_head (by first | rfl | (rw [hg]; rfl) | simp_all) (ssub_skip rfl (ssub_skip rfl (ssub_skip rfl (ssub_skip rfl (ssub_skip rfl (ssub_skip rfl (ssub_refl))))))))
    · skip
      refine st_vg rfl (bool_get rfl hg) (v_move rfl) (st_vg rfl (bool_get rfl hg) (v_nilCheck rfl) (st_vg rfl (bool_get rfl hg) (v_fieldAddr rfl fa100_3 rfl) (st_vg rfl (bool_get rfl hg) (v_ld rfl ld95) ?_)))
      refine st_vg rfl (bool_get rfl hg) (v_move rfl) (st_clrg rfl (bool_get rfl hg) rfl rfl en72 rfl (begins_ct (l := L.o) (s := μ.o) oo) ?_)
      refine st_v (v_pick_true (bool_ev rfl hg) rfl) ?_
      exact hcut _ (ssub_head (by first | rfl | (rw [hg]; rfl) | simp_all) (ssub_skip rfl (ssub_skip rfl (ssub_skip rfl (ssub_skip rfl (ssub_skip rfl (ssub_skip rfl (ssub_refl))))))))
    refine st_nil (nx_kp [1, 4, 5, 30] rfl (nx_then (cd_cond rfl (fun hc => ?_) (fun hc => ?_))))
    · skip
      rw [if_pos hc]
      refine cd_seq (cd_region (st_v (v_move rfl) (st_v (v_assign rfl) (st_nil (nx_kp [1, 4] rfl (nx_then (cd_ret (xt_ret_then ?_))))))))
      exact xt_rt rfl ⟨rfl, rfl⟩
    · skip
      rw [if_neg (by rw [hc]; simp)]
      refine cd_skip (xt_then (cd_seq (cd_region (st_v (v_move rfl) (st_v (v_assign rfl) (st_nil (nx_kp [4] rfl (nx_then (cd_ret ?_)))))))))
      exact xt_rt rfl ⟨rfl, rfl⟩
/-- In which space an object lies. -/
def inP (L : MemL) (μ : Mem) (t : Int) : Option Addr := if μ.y.begins t then some ⟨L.y.sb, 0, none⟩ else if μ.n.begins t then some ⟨L.n.sb, 0, none⟩ else if μ.o.begins t then some ⟨L.o.sb, 0, none⟩ else none
set_option maxRecDepth 100000 in
theorem in1_ct {l : SpL} {s : Sp} {t : Int} {bx : Nat} (ok : s.Ok) : Reads Try.prog 106 #[.pointer (some ⟨l.sb, 0, none⟩), .pointer (some ⟨bx, 0, none⟩)] [pt bx (cl [.int .i64 t] 3), sb l s, tb l s] (.bool (s.begins t)) := by
  refine ct_of (n := 7) Try.func106 rfl rfl (len rfl) fun hr w0 => ?_
  refine cd_seq (cd_region (st_v (v_assign rfl) (st_nil (nx_then (cd_seq (cd_region (st_v (v_move rfl) (st_v (v_ld rfl ld3) ?_))))))))
  refine st_clr rfl rfl en72 rfl (begins_ct (l := l) (s := s) ok) ?_
  refine st_v (v_assign rfl) (st_nil (nx_kp [3] rfl (nx_then (cd_ret ?_))))
  exact xt_rt rfl ⟨rfl, rfl⟩
def inSH (L : MemL) (μ : Mem) : SH := [mb L μ, sb L.y μ.y, tb L.y μ.y, sb L.n μ.n, tb L.n μ.n, sb L.o μ.o, tb L.o μ.o]
theorem in1_all (I : MI L μ S m) (h : AM.Good m ly ln lf φ A) {t : Int} {b : Nat} : ∀ p ∈ [L.y.sb, L.n.sb, L.o.sb], Reads Try.prog 106 (#[.pointer (some ⟨p, 0, none⟩)] ++ #[.pointer (some ⟨b, 0, none⟩)])
    [pt b (cl [.int .i64 t] 3), sb L.y μ.y, tb L.y μ.y, sb L.n μ.n, tb L.n μ.n, sb L.o μ.o, tb L.o μ.o] (.bool (if p = L.y.sb then μ.y.begins t else if p = L.n.sb then μ.n.begins t else μ.o.begins t)) := by
  have oy := I.r.oky h.g; have on := I.r.okn h.g; have oo := I.r.oko h.g
  have h1 := I.yn; have h2 := I.yo; have h3 := I.no
  intro p hp
  simp only [List.mem_cons, List.not_mem_nil, or_false] at hp
  rcases hp with rfl | rfl | rfl
  · rw [if_pos rfl]; exact Reads.more (x := [sb L.n μ.n, tb L.n μ.n, sb L.o μ.o, tb L.o μ.o]) (in1_ct (l := L.y) oy) (by repeat (first | exact Pk.nil | (apply Pk.cons; (repeat (first | exact Sel.here | apply Sel.there)))))
  · rw [if_neg (Ne.symm h1), if_pos rfl]; exact Reads.more (x := [sb L.y μ.y, tb L.y μ.y, sb L.o μ.o, tb L.o μ.o]) (in1_ct (l := L.n) on) (by repeat (first | exact Pk.nil | (apply Pk.cons; (repeat (first | exact Sel.here | apply Sel.there)))))
  · rw [if_neg (Ne.symm h2), if_neg (Ne.symm h3)]; exact Reads.more (x := [sb L.y μ.y, tb L.y μ.y, sb L.n μ.n, tb L.n μ.n]) (in1_ct (l := L.o) oo) (by repeat (first | exact Pk.nil | (apply Pk.cons; (repeat (first | exact Sel.here | apply Sel.there)))))
set_option maxRecDepth 100000 in
theorem hin_ct (I : MI L μ S m) (h : AM.Good m ly ln lf φ A) {t : Int} : Reads Try.prog 60 #[.pointer (some ⟨L.mb, 0, none⟩), .int .i64 t] (inSH L μ) (.pointer (inP L μ t)) := by
  have h1 := I.yn; have h2 := I.yo; have h3 := I.no
  unfold inSH
  refine ct_of (n := 26) Try.func60 rfl rfl (len rfl) fun hr w0 => ?_
  refine cd_seq (cd_region (st_bx rfl rfl fun b3 => ?_))
  refine st_v (v_assign rfl) (st_nil (nx_kp [0, 3, 4] rfl (nx_then (cd_seq (cd_drawh (ork [(0, 2), (1, 2), (2, 2), (3, 2), (4, 1), (5, 2), (6, 2), (7, 2), (8, 1), (9, 2), (10, 2), (11, 2), (12, 1), (13, 0), (14, 0), (15, 2), (16, 2), (17, 2), (18, 2), (19, 2)] .nil) (fun i => !(Nat.beq i 13 || Nat.beq i 14)) mixed (by kernel_rfl) ?_)))))
  refine dp_v rfl (v_makeFunc rfl rfl) (dp_v rfl (v_move rfl) (dp_v rfl (v_nilCheck rfl) (dp_v rfl (v_fieldAddr rfl fa100_1 rfl) (dr_v rfl (v_ld rfl ld95) ?_))))
  refine dp_v rfl (v_move rfl) (dp_v rfl (v_nilCheck rfl) (dp_v rfl (v_fieldAddr rfl fa100_2 rfl) (dr_v rfl (v_ld rfl ld95) ?_)))
  refine dp_v rfl (v_move rfl) (dp_v rfl (v_nilCheck rfl) (dp_v rfl (v_fieldAddr rfl fa100_3 rfl) (dr_v rfl (v_ld rfl ld95) ?_)))
  refine dr_eff rfl (st_buildSlice (cells := [.pointer (some ⟨L.y.sb, 0, none⟩), .pointer (some ⟨L.n.sb, 0, none⟩), .pointer (some ⟨L.o.sb, 0, none⟩)]) rfl Try.underlying178 inf95 rfl rfl (by kernel_rfl) (ltn rfl) fun b21 => dr_nx ?_)
  refine dr_eff rfl (st_cl rfl rfl en105 rfl (find_ct (bs := b21) (k := 106) (cp := #[.pointer (some ⟨b3, 0, none⟩)]) (ps := [L.y.sb, L.n.sb, L.o.sb]) (hf := [pt b3 (cl [.int .i64 t] 3), sb L.y μ.y, tb L.y μ.y, sb L.n μ.n, tb L.n μ.n, sb L.o μ.o, tb L.o μ.o]) (is := fun p => if p = L.y.sb then μ.y.begins t else if p = L.n.sb then μ.n.begins t else μ.o.begins t) (by simp) en106 (in1_all I h)) ?_)
  rintro v h' ⟨rfl, rfl⟩
  have hc : ((List.find? (fun p => if p = L.y.sb then μ.y.begins t else if p = L.n.sb then μ.n.begins t else μ.o.begins t) [L.y.sb, L.n.sb, L.o.sb]).map (fun b => (⟨b, 0, none⟩ : Addr))) = inP L μ t := by
    unfold inP
    cases e1 : μ.y.begins t <;> cases e2 : μ.n.begins t <;> cases e3 : μ.o.begins t <;> simp [e1, e2, e3, List.find?_cons, Ne.symm h1, Ne.symm h2, Ne.symm h3]
  rw [hc]
  refine dr_nx ?_
  refine dp_v rfl (v_move rfl) (dp_v rfl (v_extract rfl rfl) (dp_v rfl (v_extract rfl rfl) (dp_v rfl (v_assign rfl) (dp_v rfl (v_assign rfl) (dr_nil (nx_kp [4, 5] rfl (nx_then (cd_seq (cd_region (st_v (v_move rfl) (st_v (v_assign rfl) (st_nil (nx_kp [4] rfl (nx_then (cd_ret ?_)))))))))))))))
  exact xt_rt rfl ⟨rfl, rfl⟩
/-- The numbers of what is met. -/
def nmF : Nat → List Int → List (Int × Value)
  | _, [] => []
  | j, x :: r => (x, .int .i64 ((j : Int) + 1)) :: nmF (j + 1) r
def nmv (l : List Int) : List (Int × Value) := nmF 0 l
theorem mlook_nmF (t : Int) : ∀ (l : List Int) (j : Nat), mlook (nmF j l) t = if t ∈ l then some (.int .i64 ((j : Int) + 1 + idx l t)) else none
  | [], j => rfl
  | x :: r, j => by
    have ih := mlook_nmF t r (j + 1)
    unfold mlook at ih ⊢
    unfold nmF
    simp only [List.find?_cons]
    by_cases hx : x = t
    · subst hx
      simp [idx_has (List.mem_cons_self ..)]
    · rw [show (x == t) = false by simp [hx]]
      dsimp only
      rw [ih]
      by_cases hm : t ∈ r
      · rw [if_pos hm, if_pos (List.mem_cons_of_mem _ hm), idx_has hm, idx_has (List.mem_cons_of_mem _ hm), List.idxOf_cons, show (x == t) = false by simp [hx]]
        simp only [cond_false, Option.some.injEq, Value.int.injEq, true_and]
        omega
      · rw [if_neg hm, if_neg (by simp [hm, Ne.symm hx])]
theorem mlook_nmv (t : Int) (l : List Int) : mlook (nmv l) t = if t ∈ l then some (.int .i64 (1 + idx l t)) else none := by
  unfold nmv; rw [mlook_nmF]; simp
theorem mupd_nmF {t : Int} : ∀ {l : List Int} {j : Nat}, t ∉ l → mupd (nmF j l) t (.int .i64 ((j : Int) + l.length + 1)) = nmF j (l ++ [t])
  | [], j, _ => by simp [nmF, mupd]
  | x :: r, j, h => by
    have h1 : x ≠ t := fun e => h (by simp [e])
    have h2 : t ∉ r := fun e => h (by simp [e])
    have ih := mupd_nmF (j := j + 1) h2
    unfold nmF mupd
    rw [if_neg h1, List.cons_append]
    dsimp only
    rw [← ih]
    congr 3
    simp; omega
theorem mupd_nmv {t : Int} {l : List Int} (h : t ∉ l) : mupd (nmv l) t (.int .i64 ((l.length : Int) + 1)) = nmv (l ++ [t]) := by
  have := mupd_nmF (j := 0) h
  unfold nmv; rw [← this]; simp
def pcSH (L : MemL) (μ : Mem) (b1 b2 b3 mp : Nat) (lv : Value) (l : List Int) : SH :=
  [pt b1 (cl [.pointer (some ⟨L.mb, 0, none⟩)] 27), pt b2 (cl [.map (some mp)] 97), pt b3 (cl [lv] 34), mpr mp (nmv l), vec lv 3 1 l.length (ints l), mb L μ, mpr L.mvb (mvv μ.mv), sb L.o μ.o, tb L.o μ.o]
theorem seen_ne (h : AM.Good m ly ln lf φ A) {t : Int} (ht : AM.Obj ly ln lf t) : m.seen t ≠ 0 := by
  have h1 := (h.g.obj_bd ht).1
  unfold AM.seen
  split
  · rename_i hc; simp only [Bool.and_eq_true, decide_eq_true_eq] at hc; omega
  · omega
theorem seen_zero (h : AM.Good m ly ln lf φ A) : m.seen 0 = 0 := by
  have hb := m.base_former; have := h.g.sz.Y0; have := h.g.sz.H0
  unfold AM.seen
  rw [if_neg]
  simp only [Bool.and_eq_true, isF_iff]
  omega
set_option maxRecDepth 100000 in
theorem hpmeet_ct (I : MI L μ S m) (h : AM.Good m ly ln lf φ A) {b1 b2 b3 mp : Nat} {lv : Value} {l : List Int} {t : Int} (hl : PM (AM.Obj ly ln lf) l) (ht : t = 0 ∨ AM.Obj ly ln lf t) :
    Ct Try.prog 58 #[.int .i64 t, .pointer (some ⟨b1, 0, none⟩), .pointer (some ⟨b2, 0, none⟩), .pointer (some ⟨b3, 0, none⟩)] (pcSH L μ b1 b2 b3 mp lv l)
      fun v h' => v = .int .i64 (1 + idx (pmeet l (m.seen t)) (m.seen t)) ∧ ∃ lv', h' = pcSH L μ b1 b2 b3 mp lv' (pmeet l (m.seen t)) := by
  have hll := h.g.pm_len hl; have hT := h.g.T_le
  unfold pcSH
  refine ct_of (n := 32) Try.func58 rfl rfl (len rfl) fun hr w0 => ?_
  refine cd_seq (cd_region (st_v (v_assign rfl) (st_nil (nx_then (cd_seq (cd_seq (cd_region (st_v (v_move rfl) (st_v (v_eql rfl rfl) (st_nil (nx_kp [0, 1, 2, 3, 5, 9] rfl (nx_then (cd_cond rfl (fun hc => ?_) (fun hc => ?_))))))))))))))
  · skip
    have h0 : t = 0 := by simpa using hc
    have hn0 : (0 : Int) ∉ l := fun hm => by have := (h.g.obj_bd (hl.s 0 hm)).1; omega
    have hres : (1 : Int) + idx (pmeet l (m.seen t)) (m.seen t) = 0 := by rw [h0, seen_zero h, pmeet_zero, idx_no hn0]; rfl
    have hpm : pmeet l (m.seen t) = l := by rw [h0, seen_zero h, pmeet_zero]
    rw [hres, hpm]
    refine cd_seq (cd_region (st_v (v_assign rfl) (st_nil (nx_kp [0, 1, 2, 3, 5] rfl (nx_then (cd_ret (xt_ret_then ?_)))))))
    exact xt_rt rfl ⟨rfl, lv, rfl⟩
  · skip
    have h0 : t ≠ 0 := by simpa using hc
    have hne := seen_ne h (ht.resolve_left h0)
    refine cd_vecshape (v := lv) (E := 3) (sz := 1) (n := l.length) (l := ints l) (by repeat (first | exact Sel.here | apply Sel.there)) fun la lcp hlv hla => ?_
    refine cd_skip (xt_then (cd_seq (cd_region (st_v (v_ld rfl ld27) ?_))))
    refine st_v (v_move rfl) (st_clr rfl rfl en59 rfl (hseen_ct I h) ?_)
    refine st_v (v_assign rfl) (st_nil (nx_kp [0, 2, 3, 5] rfl (nx_then (cd_seq (cd_seq (cd_region (st_v (v_ld rfl ld97) ?_)))))))
    refine st_v (v_move rfl) (st_v (v_lookup_ok rfl rfl mp97 inf3 (by repeat (first | exact Sel.here | apply Sel.there))) ?_)
    rw [mlook_nmv]
    by_cases hm : m.seen t ∈ l
    · rw [if_pos hm, pmeet_old hm]
      refine st_v (v_move rfl) (st_v (v_extract rfl rfl) (st_v (v_extract rfl rfl) (st_v (v_assign rfl) (st_v (v_assign rfl) (st_nil (nx_kp [0, 2, 3, 5, 7] rfl (nx_then (cd_seq (cd_region (st_v (v_move rfl) (st_v (v_not rfl) (st_nil (nx_kp [0, 2, 3, 5, 20] rfl (nx_then (cd_false rfl ?_)))))))))))))))
      refine cd_skip (xt_then (cd_seq (cd_region (st_v (v_ld rfl ld97) ?_))))
      refine st_v (v_move rfl) (st_v (v_lookup rfl rfl mp97 inf3 (by repeat (first | exact Sel.here | apply Sel.there))) ?_)
      rw [mlook_nmv, if_pos hm]
      refine st_v (v_assign rfl) (st_nil (nx_kp [5] rfl (nx_then (cd_ret ?_))))
      exact xt_rt rfl ⟨rfl, lv, rfl⟩
    · rw [if_neg hm, pmeet_new hne hm, idx_new hm]
      refine st_v (v_move rfl) (st_v (v_extract rfl rfl) (st_v (v_extract rfl rfl) (st_v (v_assign rfl) (st_v (v_assign rfl) (st_nil (nx_kp [0, 2, 3, 5, 7] rfl (nx_then (cd_seq (cd_region (st_v (v_move rfl) (st_v (v_not rfl) (st_nil (nx_kp [0, 2, 3, 5, 20] rfl (nx_then (cd_true rfl ?_)))))))))))))))
      refine cd_seq (cd_region (st_v (v_ld rfl ld34) ?_))
      refine st_v (v_move rfl) (st_buildSlice (cells := [.int .i64 (m.seen t)]) rfl Try.underlying34 inf3 rfl rfl (by kernel_rfl) (ltn rfl) fun b23 => ?_)
      refine st_append (news := [.int .i64 (m.seen t)]) rfl rfl Try.underlying34 inf3 rfl (ltn rfl) (by repeat (first | exact Sel.here | apply Sel.there)) rfl (fun j u hu => by repeat (first | exact at_here (rd_cl (by simpa using hu)) | apply at_there)) (ones rfl) (by omega) (by omega) (ltn rfl) fun lv' hlv' hv1 => ?_
      refine st_vecshape (v := lv') (E := 3) (sz := 1) (n := l.length + 1) (l := ints l ++ [.int .i64 (m.seen t)]) (by repeat (first | exact Sel.here | apply Sel.there)) fun la' lcp' hlv2 hla' => ?_
      refine st_sto rfl rfl sz34 ?_
      refine st_nil (nx_kp [0, 2, 3, 5] rfl (nx_then (cd_region (st_v (v_ld rfl ld97) ?_))))
      refine st_v (v_move rfl) (st_v (v_ld rfl ld34) ?_)
      refine st_v (v_len (congrArg some hlv2) Try.underlying34) (st_mapUpdate rfl rfl rfl mp97 (by repeat (first | exact Sel.here | apply Sel.there)) ?_)
      rw [show ((l.length + 1 : Nat) : Int) = (l.length : Int) + 1 by omega, mupd_nmv hm]
      refine st_nil (nx_kp [0, 2, 5] rfl (nx_then (cd_seq (cd_region (st_v (v_ld rfl ld97) ?_)))))
      refine st_v (v_move rfl) (st_v (v_lookup rfl rfl mp97 inf3 (by repeat (first | exact Sel.here | apply Sel.there))) ?_)
      rw [mlook_nmv, if_pos (by simp), idx_new hm]
      refine st_v (v_assign rfl) (st_nil (nx_kp [5] rfl (nx_then (cd_ret ?_))))
      rw [show ints l ++ [.int .i64 (m.seen t)] = ints (l ++ [m.seen t]) by simp [ints], show l.length + 1 = (l ++ [m.seen t]).length by simp]
      exact xt_rt rfl ⟨rfl, lv', rfl⟩
end
end Go.Proofs.Ytmhmpjgkkpbnnaa
namespace Go.Proofs.Ytmhmpjgkkpbnnaa
open Go.Ck Fx Go.Hm Go.Hm.AM
attribute [local irreducible] St Cd Xt Nx DrL LsW
section
variable {L : MemL} {μ : Mem} {S R : Res} {m : AM} {ly ln lf : List Int} {φ : Int → Option Nat} {A : Store} {v u : Value} {roots l M : List Int} {t : Int} {w0 : World} {hr : SH} {Q : Exit → Act → World → Prop} {b2 b4 b7 b8 b10 mp : Nat} {lv : Value}
set_option maxHeartbeats 2000000 in
set_option maxRecDepth 100000 in
/-- A row of a picture, of an object there. -/
theorem hrow_y_c (I : MI L μ S m) (h : AM.Good m ly ln lf φ A) {i : Nat} (hi : i < l.length) (ht : l[i] ∈ ly) (hl : PM (AM.Obj ly ln lf) l) (hu : RowB S u (m.row l[i])) (hM : ∃ k, M = (m.gr.succ l[i]).foldl pmeet l ++ k) (hM0 : (0 : Int) ∉ M) (sw : Value)
    (hcont : ∀ lv' rv', Xt ⟨Try.prog, none, 114, [], w0⟩ .normal Q [(2, .pointer (some ⟨b2, 0, none⟩)), (4, .pointer (some ⟨b4, 0, none⟩)), (8, .pointer (some ⟨b8, 0, none⟩)), (9, .func (.func 58) #[] #[.pointer (some ⟨b2, 0, none⟩), .pointer (some ⟨b7, 0, none⟩), .pointer (some ⟨b8, 0, none⟩)]), (10, .pointer (some ⟨b10, 0, none⟩)), (13, .int .i64 (i : Nat)), (15, sw), (16, rv')] (vec rv' 3 1 (m.row l[i]).length (ints (m.gr.prow M l[i])) :: (pcSH L μ b2 b7 b8 mp lv' ((m.gr.succ l[i]).foldl pmeet l) ++ ([sb L.y μ.y, wb L.y μ.y, tb L.y μ.y, sb L.n μ.n, wb L.n μ.n, tb L.n μ.n, wb L.o μ.o, S] ++ hr)))) :
    Cd ⟨Try.prog, none, 114, [], w0⟩ (cdr (cdl (cdr (cdr (cdr (cdl (cdl (cdr (cdl (cdl (cdr (cdl (cdr (cdr (cdr (cdr (cdr (cdr (cdr (fbody Try.f19)))))))))))))))))))) Q [(2, .pointer (some ⟨b2, 0, none⟩)), (4, .pointer (some ⟨b4, 0, none⟩)), (8, .pointer (some ⟨b8, 0, none⟩)), (9, .func (.func 58) #[] #[.pointer (some ⟨b2, 0, none⟩), .pointer (some ⟨b7, 0, none⟩), .pointer (some ⟨b8, 0, none⟩)]), (10, .pointer (some ⟨b10, 0, none⟩)), (13, .int .i64 (i : Nat)), (14, .pointer (some ⟨L.y.sb, 0, none⟩)), (15, sw), (16, .slice none 0 0), (72, u), (73, .int .i64 (m.row l[i]).length), (74, .int .i64 0)] (pcSH L μ b2 b7 b8 mp lv l ++ ([sb L.y μ.y, wb L.y μ.y, tb L.y μ.y, sb L.n μ.n, wb L.n μ.n, tb L.n μ.n, wb L.o μ.o, S] ++ hr)) := by
  have z := h.g.sz
  have h1 := z.Y0; have h2 := z.Y1; have h3 := z.H0; have h4 := z.H1; have h5 := m.base_former
  have hob : AM.Obj ly ln lf l[i] := hl.s _ (List.getElem_mem hi)
  have hbd := h.g.ybd ht
  have hlen := (ob_obj h.g hob).len z
  have hsz : m.size l[i] = 1 + (m.row l[i]).length := rfl
  have ok := I.r.oky h.g
  have k1 := ok.us; have k2 := ok.fr; have k3 := ok.ws
  have e1 := I.r.y.fr; have e2 := I.r.y.ln; have e3 := h.g.yl
  obtain ⟨ua, ucp, hue, _⟩ := id hu
  have hT := h.g.T_le
  have hn0 : ∀ {l'}, PM (AM.Obj ly ln lf) l' → (0 : Int) ∉ l' := fun hp hm => by have := (h.g.obj_bd (hp.s 0 hm)).1; omega
  refine cd_vecnil 3 1 ?_
  refine cd_block (cd_loop (σ := Nat × Value × Value) (fun q => [(2, .pointer (some ⟨b2, 0, none⟩)), (4, .pointer (some ⟨b4, 0, none⟩)), (8, .pointer (some ⟨b8, 0, none⟩)), (9, .func (.func 58) #[] #[.pointer (some ⟨b2, 0, none⟩), .pointer (some ⟨b7, 0, none⟩), .pointer (some ⟨b8, 0, none⟩)]), (10, .pointer (some ⟨b10, 0, none⟩)), (13, .int .i64 (i : Nat)), (14, .pointer (some ⟨L.y.sb, 0, none⟩)), (15, sw), (16, q.2.2), (72, u), (73, .int .i64 (m.row l[i]).length), (74, .int .i64 (q.1 : Nat))]) (fun q => vec q.2.2 3 1 q.1 (ints ((m.gr.prow M l[i]).take q.1)) :: (pcSH L μ b2 b7 b8 mp q.2.1 ((m.gr.succTo l[i] q.1).foldl pmeet l) ++ ([sb L.y μ.y, wb L.y μ.y, tb L.y μ.y, sb L.n μ.n, wb L.n μ.n, tb L.n μ.n, wb L.o μ.o, S] ++ hr))) (fun q => q.1 ≤ (m.row l[i]).length ∧ PM (AM.Obj ly ln lf) ((m.gr.succTo l[i] q.1).foldl pmeet l)) (fun q => (m.row l[i]).length - q.1) (0, lv, .slice none 0 0) ⟨Nat.zero_le _, hl⟩ ⟨rfl, rfl, rfl, rfl, rfl, rfl, rfl, rfl, rfl, rfl, rfl, rfl, trivial⟩ (Sub.refl _) ?_)
  rintro ⟨k, lw, rw_⟩ ⟨hk, hmk⟩
  dsimp only at hk hmk ⊢
  have hmkl := h.g.pm_len hmk
  obtain ⟨ex, hex⟩ := pmeets_pre (m.gr.succTo l[i] k) l
  have hxl : i < ((m.gr.succTo l[i] k).foldl pmeet l).length := by rw [hex, List.length_append]; omega
  have hxi : ((m.gr.succTo l[i] k).foldl pmeet l)[i]? = some l[i] := by rw [hex, List.getElem?_append_left hi, List.getElem?_eq_getElem hi]
  unfold pcSH
  simp only [List.cons_append, List.nil_append]
  refine cd_vecshape (v := lw) (E := 3) (sz := 1) (n := ((m.gr.succTo l[i] k).foldl pmeet l).length) (l := ints ((m.gr.succTo l[i] k).foldl pmeet l)) (by repeat (first | exact Sel.here | apply Sel.there)) fun wa wcp hlw hwa => ?_
  obtain ⟨wbk, rfl⟩ := hwa (by omega)
  have hrdw : Rd (vec lw 3 1 ((m.gr.succTo l[i] k).foldl pmeet l).length (ints ((m.gr.succTo l[i] k).foldl pmeet l))) ⟨wbk, i, none⟩ (.int .i64 l[i]) := rd_vec hlw (by simp only [ints, List.getElem?_map, hxi, Option.map_some])
  refine cd_seq (cd_region (st_v (v_lss rfl rfl) (st_nil (nx_then (cd_seq (cd_cond rfl (fun hc4 => ?_) (fun hc4 => ?_)))))))
  · skip
    have hkl : k < (m.row l[i]).length := by simpa using hc4
    obtain ⟨ub, uo2, ucp', hue2, hrdu⟩ := hu.at hkl
    have hps := Gr.succTo_succ (g := m.gr) (t := l[i]) (k := k) (by rw [gr_len]; exact hkl)
    rw [gr_flag hkl] at hps
    have hpg := prow_get (M := M) hkl
    have hAl : (m.gr.prow M l[i]).length = (m.row l[i]).length := prow_len _ _ _
    have hwd : μ.y.ws.getD (l[i] + 1 + k - μ.y.fr).toNat 0 = m.word (l[i] + 1 + k) := I.r.wordy (by omega) (by omega) (Gd.innery h.g ht (by omega) (by unfold AM.size; omega))
    have hrdx : Rd (wb L.y μ.y) ⟨L.y.wb, (l[i] + 1 + k - μ.y.fr).toNat, none⟩ (.int .i64 (m.word (l[i] + 1 + k))) := by rw [← hwd]; exact rd_ints (by omega)
    refine cd_skip (xt_then (cd_seq (cd_block (cd_seq (cd_region (st_v (v_move rfl) (st_v (v_ixo k (congrArg some hue2) rfl sl73 rfl hkl) (st_v (v_ld rfl ld4) ?_))))))))
    refine st_v (v_assign rfl) (st_v (v_assign rfl) (st_nil (nx_kp [2, 4, 8, 9, 10, 13, 14, 15, 16, 17, 18, 72, 73, 74] rfl (nx_then (cd_seq (cd_drawh (ork [(0, 2), (1, 2), (2, 2), (3, 1), (4, 2), (5, 2), (6, 1), (7, 2), (8, 2), (9, 2), (10, 1), (11, 2), (12, 1), (13, 2)] .nil) (fun _ => true) mixed (by kernel_rfl) ?_))))))
    refine dp_v rfl (v_move rfl) (dp_v rfl (v_nilCheck rfl) (dp_v rfl (v_fieldAddr rfl fa117_0 rfl) (dr_v rfl (v_ld rfl ld34) ?_)))
    refine dp_v rfl (v_move rfl) (dp_v rfl (v_idx i (congrArg some hlw) rfl sl34 rfl hxl) (dr_v rfl (v_ld rfl ld3) ?_))
    refine dp_v rfl (v_add rfl rfl (by unfold I64 at *; omega)) (dp_v rfl (v_move rfl) (dp_v rfl (v_add rfl rfl (by unfold I64 at *; omega)) (dr_clr rfl rfl rfl en61 rfl (word_ct (l := L.y) (s := μ.y) ok (by omega) (by omega)) ?_)))
    refine dp_v rfl (v_nilCheck rfl) (dr_v rfl (v_ld rfl ld3) ?_)
    refine dp_v rfl (v_assign rfl) (dr_nil (nx_kp [2, 4, 8, 9, 10, 13, 14, 15, 16, 18, 19, 72, 73, 74] rfl (nx_then (cd_seq (cd_seq (cd_region (st_v (v_move rfl) (st_nil (nx_kp [2, 4, 8, 9, 10, 13, 14, 15, 16, 19, 72, 73, 74, 92] rfl (nx_then (cd_cond rfl (fun hb => ?_) (fun hb => ?_))))))))))))
    · skip
      rw [hb] at hps hpg
      simp only [if_true] at hps hpg
      have hpm : l[i] + 1 + (k : Int) ∈ m.pl l[i] := mem_pl.2 ⟨k, by rw [List.getElem?_eq_getElem hkl, hb], rfl⟩
      have htk : (m.gr.succTo l[i] (k + 1)).foldl pmeet l = pmeet ((m.gr.succTo l[i] k).foldl pmeet l) (m.seen (m.word (l[i] + 1 + k))) := by rw [hps, pmeets_snoc]
      have hwo := h.g.word_obj hob hpm
      have hidx : idx (pmeet ((m.gr.succTo l[i] k).foldl pmeet l) (m.seen (m.word (l[i] + 1 + k)))) (m.seen (m.word (l[i] + 1 + k))) = idx M (m.seen (m.word (l[i] + 1 + k))) :=
        idx_pre (pre_trans (by rw [← htk]; exact m.gr.meets_to l[i] (k + 1) l) hM) pmeet_has hM0
      have hix := idx_lt (l := M) (t := m.seen (m.word (l[i] + 1 + k)))
      have hmk1 : PM (AM.Obj ly ln lf) ((m.gr.succTo l[i] (k + 1)).foldl pmeet l) := by rw [htk]; exact hmk.meet (h.g.seen_obj hwo)
      have hta : (m.gr.prow M l[i]).take (k + 1) = (m.gr.prow M l[i]).take k ++ [1 + idx M (m.seen (m.word (l[i] + 1 + k)))] := by
        rw [List.take_succ_eq_append_getElem (by omega)]
        rw [List.getElem?_eq_getElem (by omega), Option.some.injEq] at hpg
        rw [hpg]
      refine cd_region (st_v (v_move rfl) (st_v (v_move rfl) (st_cl rfl rfl en58 rfl (hpmeet_ct (b1 := b2) (b2 := b7) (b3 := b8) (mp := mp) (lv := lw) I h hmk hwo) ?_)))
      rintro v' h' ⟨rfl, lv', rfl⟩
      rw [hidx]
      unfold pcSH
      simp only [List.cons_append, List.nil_append]
      refine st_v (v_assign rfl) (st_nil (nx_kp [2, 4, 8, 9, 10, 13, 14, 15, 16, 19, 72, 73, 74] rfl (nx_then (cd_region (st_v (v_move rfl) (st_v (v_move rfl) (st_buildSlice (cells := [.int .i64 (1 + idx M (m.seen (m.word (l[i] + 1 + k))))]) rfl Try.underlying34 inf3 rfl rfl (by kernel_rfl) (ltn rfl) fun b98 => ?_)))))))
      refine st_append (news := [.int .i64 (1 + idx M (m.seen (m.word (l[i] + 1 + k))))]) rfl rfl Try.underlying34 inf3 rfl (ltn rfl) (by repeat (first | exact Sel.here | apply Sel.there)) rfl (fun j u hu => by repeat (first | exact at_here (rd_cl (by simpa using hu)) | apply at_there)) (ones rfl) (by omega) (by omega) (ltn rfl) fun rv' hrv' hv1 => ?_
      refine st_v (v_assign rfl) (st_nil (nx_kp [2, 4, 8, 9, 10, 13, 14, 15, 16, 72, 73, 74] rfl (nx_xt (xt_normal_block (xt_then (cd_region (st_v (v_add rfl rfl (by unfold I64 at *; omega)) (st_v (v_move rfl) (st_nil (nx_kp [2, 4, 8, 9, 10, 13, 14, 15, 16, 72, 73, 74] rfl (nx_xt ?_)))))))))))
      rw [show ints ((m.gr.prow M l[i]).take k) ++ [.int .i64 (1 + idx M (m.seen (m.word (l[i] + 1 + k))))] = ints ((m.gr.prow M l[i]).take (k + 1)) by rw [hta]; simp [ints], ← htk]
      refine xt_ag (k + 1, lv', rv') ⟨hkl, hmk1⟩ (by show _ - _ < _ - _; omega)
    · skip
      rw [hb] at hps hpg
      simp only [Bool.false_eq_true, if_false, List.append_nil] at hps hpg
      have hta : (m.gr.prow M l[i]).take (k + 1) = (m.gr.prow M l[i]).take k ++ [m.word (l[i] + 1 + k)] := by
        rw [List.take_succ_eq_append_getElem (by omega)]
        rw [List.getElem?_eq_getElem (by omega), Option.some.injEq] at hpg
        rw [hpg]
      refine cd_skip (xt_then (cd_region (st_v (v_move rfl) (st_v (v_move rfl) (st_buildSlice (cells := [.int .i64 (m.word (l[i] + 1 + k))]) rfl Try.underlying34 inf3 rfl rfl (by kernel_rfl) (ltn rfl) fun b98 => ?_)))))
      refine st_append (news := [.int .i64 (m.word (l[i] + 1 + k))]) rfl rfl Try.underlying34 inf3 rfl (ltn rfl) (by repeat (first | exact Sel.here | apply Sel.there)) rfl (fun j u hu => by repeat (first | exact at_here (rd_cl (by simpa using hu)) | apply at_there)) (ones rfl) (by omega) (by omega) (ltn rfl) fun rv' hrv' hv1 => ?_
      refine st_v (v_assign rfl) (st_nil (nx_kp [2, 4, 8, 9, 10, 13, 14, 15, 16, 72, 73, 74] rfl (nx_xt (xt_normal_block (xt_then (cd_region (st_v (v_add rfl rfl (by unfold I64 at *; omega)) (st_v (v_move rfl) (st_nil (nx_kp [2, 4, 8, 9, 10, 13, 14, 15, 16, 72, 73, 74] rfl (nx_xt ?_)))))))))))
      rw [show ints ((m.gr.prow M l[i]).take k) ++ [.int .i64 (m.word (l[i] + 1 + k))] = ints ((m.gr.prow M l[i]).take (k + 1)) by rw [hta]; simp [ints], ← hps]
      refine xt_ag (k + 1, lw, rv') ⟨hkl, by rw [hps]; exact hmk⟩ (by show _ - _ < _ - _; omega)
  · skip
    have hkg : k = (m.row l[i]).length := by
      have : ¬ k < (m.row l[i]).length := by simpa using hc4
      omega
    have hpa : m.gr.succTo l[i] k = m.gr.succ l[i] := by rw [hkg, ← gr_len]; exact Gr.succTo_all _ _
    have hAl : (m.gr.prow M l[i]).length = (m.row l[i]).length := prow_len _ _ _
    rw [hpa, List.take_of_length_le (by omega), hkg]
    refine cd_exit (xt_exit_then (xt_exit_then (xt_exit_block ?_)))
    have hc := hcont lw rw_
    unfold pcSH at hc
    simp only [List.cons_append, List.nil_append] at hc
    exact xt_use hc
set_option maxHeartbeats 2000000 in
set_option maxRecDepth 100000 in
/-- A row of a picture, of an object there. -/
theorem hrow_n_c (I : MI L μ S m) (h : AM.Good m ly ln lf φ A) {i : Nat} (hi : i < l.length) (ht : l[i] ∈ ln) (hl : PM (AM.Obj ly ln lf) l) (hu : RowB S u (m.row l[i])) (hM : ∃ k, M = (m.gr.succ l[i]).foldl pmeet l ++ k) (hM0 : (0 : Int) ∉ M) (sw : Value)
    (hcont : ∀ lv' rv', Xt ⟨Try.prog, none, 114, [], w0⟩ .normal Q [(2, .pointer (some ⟨b2, 0, none⟩)), (4, .pointer (some ⟨b4, 0, none⟩)), (8, .pointer (some ⟨b8, 0, none⟩)), (9, .func (.func 58) #[] #[.pointer (some ⟨b2, 0, none⟩), .pointer (some ⟨b7, 0, none⟩), .pointer (some ⟨b8, 0, none⟩)]), (10, .pointer (some ⟨b10, 0, none⟩)), (13, .int .i64 (i : Nat)), (15, sw), (16, rv')] (vec rv' 3 1 (m.row l[i]).length (ints (m.gr.prow M l[i])) :: (pcSH L μ b2 b7 b8 mp lv' ((m.gr.succ l[i]).foldl pmeet l) ++ ([sb L.y μ.y, wb L.y μ.y, tb L.y μ.y, sb L.n μ.n, wb L.n μ.n, tb L.n μ.n, wb L.o μ.o, S] ++ hr)))) :
    Cd ⟨Try.prog, none, 114, [], w0⟩ (cdr (cdl (cdr (cdr (cdr (cdl (cdl (cdr (cdl (cdl (cdr (cdl (cdr (cdr (cdr (cdr (cdr (cdr (cdr (fbody Try.f19)))))))))))))))))))) Q [(2, .pointer (some ⟨b2, 0, none⟩)), (4, .pointer (some ⟨b4, 0, none⟩)), (8, .pointer (some ⟨b8, 0, none⟩)), (9, .func (.func 58) #[] #[.pointer (some ⟨b2, 0, none⟩), .pointer (some ⟨b7, 0, none⟩), .pointer (some ⟨b8, 0, none⟩)]), (10, .pointer (some ⟨b10, 0, none⟩)), (13, .int .i64 (i : Nat)), (14, .pointer (some ⟨L.n.sb, 0, none⟩)), (15, sw), (16, .slice none 0 0), (72, u), (73, .int .i64 (m.row l[i]).length), (74, .int .i64 0)] (pcSH L μ b2 b7 b8 mp lv l ++ ([sb L.y μ.y, wb L.y μ.y, tb L.y μ.y, sb L.n μ.n, wb L.n μ.n, tb L.n μ.n, wb L.o μ.o, S] ++ hr)) := by
  have z := h.g.sz
  have h1 := z.Y0; have h2 := z.Y1; have h3 := z.H0; have h4 := z.H1; have h5 := m.base_former
  have hob : AM.Obj ly ln lf l[i] := hl.s _ (List.getElem_mem hi)
  have hbd := h.g.obd ht
  have hlen := (ob_obj h.g hob).len z
  have hsz : m.size l[i] = 1 + (m.row l[i]).length := rfl
  have ok := I.r.okn h.g
  have k1 := ok.us; have k2 := ok.fr; have k3 := ok.ws
  have e1 := I.r.n.fr; have e2 := I.r.n.ln; have e3 := h.g.oldle
  obtain ⟨ua, ucp, hue, _⟩ := id hu
  have hT := h.g.T_le
  have hn0 : ∀ {l'}, PM (AM.Obj ly ln lf) l' → (0 : Int) ∉ l' := fun hp hm => by have := (h.g.obj_bd (hp.s 0 hm)).1; omega
  refine cd_vecnil 3 1 ?_
  refine cd_block (cd_loop (σ := Nat × Value × Value) (fun q => [(2, .pointer (some ⟨b2, 0, none⟩)), (4, .pointer (some ⟨b4, 0, none⟩)), (8, .pointer (some ⟨b8, 0, none⟩)), (9, .func (.func 58) #[] #[.pointer (some ⟨b2, 0, none⟩), .pointer (some ⟨b7, 0, none⟩), .pointer (some ⟨b8, 0, none⟩)]), (10, .pointer (some ⟨b10, 0, none⟩)), (13, .int .i64 (i : Nat)), (14, .pointer (some ⟨L.n.sb, 0, none⟩)), (15, sw), (16, q.2.2), (72, u), (73, .int .i64 (m.row l[i]).length), (74, .int .i64 (q.1 : Nat))]) (fun q => vec q.2.2 3 1 q.1 (ints ((m.gr.prow M l[i]).take q.1)) :: (pcSH L μ b2 b7 b8 mp q.2.1 ((m.gr.succTo l[i] q.1).foldl pmeet l) ++ ([sb L.y μ.y, wb L.y μ.y, tb L.y μ.y, sb L.n μ.n, wb L.n μ.n, tb L.n μ.n, wb L.o μ.o, S] ++ hr))) (fun q => q.1 ≤ (m.row l[i]).length ∧ PM (AM.Obj ly ln lf) ((m.gr.succTo l[i] q.1).foldl pmeet l)) (fun q => (m.row l[i]).length - q.1) (0, lv, .slice none 0 0) ⟨Nat.zero_le _, hl⟩ ⟨rfl, rfl, rfl, rfl, rfl, rfl, rfl, rfl, rfl, rfl, rfl, rfl, trivial⟩ (Sub.refl _) ?_)
  rintro ⟨k, lw, rw_⟩ ⟨hk, hmk⟩
  dsimp only at hk hmk ⊢
  have hmkl := h.g.pm_len hmk
  obtain ⟨ex, hex⟩ := pmeets_pre (m.gr.succTo l[i] k) l
  have hxl : i < ((m.gr.succTo l[i] k).foldl pmeet l).length := by rw [hex, List.length_append]; omega
  have hxi : ((m.gr.succTo l[i] k).foldl pmeet l)[i]? = some l[i] := by rw [hex, List.getElem?_append_left hi, List.getElem?_eq_getElem hi]
  unfold pcSH
  simp only [List.cons_append, List.nil_append]
  refine cd_vecshape (v := lw) (E := 3) (sz := 1) (n := ((m.gr.succTo l[i] k).foldl pmeet l).length) (l := ints ((m.gr.succTo l[i] k).foldl pmeet l)) (by repeat (first | exact Sel.here | apply Sel.there)) fun wa wcp hlw hwa => ?_
  obtain ⟨wbk, rfl⟩ := hwa (by omega)
  have hrdw : Rd (vec lw 3 1 ((m.gr.succTo l[i] k).foldl pmeet l).length (ints ((m.gr.succTo l[i] k).foldl pmeet l))) ⟨wbk, i, none⟩ (.int .i64 l[i]) := rd_vec hlw (by simp only [ints, List.getElem?_map, hxi, Option.map_some])
  refine cd_seq (cd_region (st_v (v_lss rfl rfl) (st_nil (nx_then (cd_seq (cd_cond rfl (fun hc4 => ?_) (fun hc4 => ?_)))))))
  · skip
    have hkl : k < (m.row l[i]).length := by simpa using hc4
    obtain ⟨ub, uo2, ucp', hue2, hrdu⟩ := hu.at hkl
    have hps := Gr.succTo_succ (g := m.gr) (t := l[i]) (k := k) (by rw [gr_len]; exact hkl)
    rw [gr_flag hkl] at hps
    have hpg := prow_get (M := M) hkl
    have hAl : (m.gr.prow M l[i]).length = (m.row l[i]).length := prow_len _ _ _
    have hwd : μ.n.ws.getD (l[i] + 1 + k - μ.n.fr).toNat 0 = m.word (l[i] + 1 + k) := I.r.wordn (by omega) (by omega) (h.g.inner ht (by omega) (by unfold AM.size; omega))
    have hrdx : Rd (wb L.n μ.n) ⟨L.n.wb, (l[i] + 1 + k - μ.n.fr).toNat, none⟩ (.int .i64 (m.word (l[i] + 1 + k))) := by rw [← hwd]; exact rd_ints (by omega)
    refine cd_skip (xt_then (cd_seq (cd_block (cd_seq (cd_region (st_v (v_move rfl) (st_v (v_ixo k (congrArg some hue2) rfl sl73 rfl hkl) (st_v (v_ld rfl ld4) ?_))))))))
    refine st_v (v_assign rfl) (st_v (v_assign rfl) (st_nil (nx_kp [2, 4, 8, 9, 10, 13, 14, 15, 16, 17, 18, 72, 73, 74] rfl (nx_then (cd_seq (cd_drawh (ork [(0, 2), (1, 2), (2, 2), (3, 1), (4, 2), (5, 2), (6, 1), (7, 2), (8, 2), (9, 2), (10, 1), (11, 2), (12, 1), (13, 2)] .nil) (fun _ => true) mixed (by kernel_rfl) ?_))))))
    refine dp_v rfl (v_move rfl) (dp_v rfl (v_nilCheck rfl) (dp_v rfl (v_fieldAddr rfl fa117_0 rfl) (dr_v rfl (v_ld rfl ld34) ?_)))
    refine dp_v rfl (v_move rfl) (dp_v rfl (v_idx i (congrArg some hlw) rfl sl34 rfl hxl) (dr_v rfl (v_ld rfl ld3) ?_))
    refine dp_v rfl (v_add rfl rfl (by unfold I64 at *; omega)) (dp_v rfl (v_move rfl) (dp_v rfl (v_add rfl rfl (by unfold I64 at *; omega)) (dr_clr rfl rfl rfl en61 rfl (word_ct (l := L.n) (s := μ.n) ok (by omega) (by omega)) ?_)))
    refine dp_v rfl (v_nilCheck rfl) (dr_v rfl (v_ld rfl ld3) ?_)
    refine dp_v rfl (v_assign rfl) (dr_nil (nx_kp [2, 4, 8, 9, 10, 13, 14, 15, 16, 18, 19, 72, 73, 74] rfl (nx_then (cd_seq (cd_seq (cd_region (st_v (v_move rfl) (st_nil (nx_kp [2, 4, 8, 9, 10, 13, 14, 15, 16, 19, 72, 73, 74, 92] rfl (nx_then (cd_cond rfl (fun hb => ?_) (fun hb => ?_))))))))))))
    · skip
      rw [hb] at hps hpg
      simp only [if_true] at hps hpg
      have hpm : l[i] + 1 + (k : Int) ∈ m.pl l[i] := mem_pl.2 ⟨k, by rw [List.getElem?_eq_getElem hkl, hb], rfl⟩
      have htk : (m.gr.succTo l[i] (k + 1)).foldl pmeet l = pmeet ((m.gr.succTo l[i] k).foldl pmeet l) (m.seen (m.word (l[i] + 1 + k))) := by rw [hps, pmeets_snoc]
      have hwo := h.g.word_obj hob hpm
      have hidx : idx (pmeet ((m.gr.succTo l[i] k).foldl pmeet l) (m.seen (m.word (l[i] + 1 + k)))) (m.seen (m.word (l[i] + 1 + k))) = idx M (m.seen (m.word (l[i] + 1 + k))) :=
        idx_pre (pre_trans (by rw [← htk]; exact m.gr.meets_to l[i] (k + 1) l) hM) pmeet_has hM0
      have hix := idx_lt (l := M) (t := m.seen (m.word (l[i] + 1 + k)))
      have hmk1 : PM (AM.Obj ly ln lf) ((m.gr.succTo l[i] (k + 1)).foldl pmeet l) := by rw [htk]; exact hmk.meet (h.g.seen_obj hwo)
      have hta : (m.gr.prow M l[i]).take (k + 1) = (m.gr.prow M l[i]).take k ++ [1 + idx M (m.seen (m.word (l[i] + 1 + k)))] := by
        rw [List.take_succ_eq_append_getElem (by omega)]
        rw [List.getElem?_eq_getElem (by omega), Option.some.injEq] at hpg
        rw [hpg]
      refine cd_region (st_v (v_move rfl) (st_v (v_move rfl) (st_cl rfl rfl en58 rfl (hpmeet_ct (b1 := b2) (b2 := b7) (b3 := b8) (mp := mp) (lv := lw) I h hmk hwo) ?_)))
      rintro v' h' ⟨rfl, lv', rfl⟩
      rw [hidx]
      unfold pcSH
      simp only [List.cons_append, List.nil_append]
      refine st_v (v_assign rfl) (st_nil (nx_kp [2, 4, 8, 9, 10, 13, 14, 15, 16, 19, 72, 73, 74] rfl (nx_then (cd_region (st_v (v_move rfl) (st_v (v_move rfl) (st_buildSlice (cells := [.int .i64 (1 + idx M (m.seen (m.word (l[i] + 1 + k))))]) rfl Try.underlying34 inf3 rfl rfl (by kernel_rfl) (ltn rfl) fun b98 => ?_)))))))
      refine st_append (news := [.int .i64 (1 + idx M (m.seen (m.word (l[i] + 1 + k))))]) rfl rfl Try.underlying34 inf3 rfl (ltn rfl) (by repeat (first | exact Sel.here | apply Sel.there)) rfl (fun j u hu => by repeat (first | exact at_here (rd_cl (by simpa using hu)) | apply at_there)) (ones rfl) (by omega) (by omega) (ltn rfl) fun rv' hrv' hv1 => ?_
      refine st_v (v_assign rfl) (st_nil (nx_kp [2, 4, 8, 9, 10, 13, 14, 15, 16, 72, 73, 74] rfl (nx_xt (xt_normal_block (xt_then (cd_region (st_v (v_add rfl rfl (by unfold I64 at *; omega)) (st_v (v_move rfl) (st_nil (nx_kp [2, 4, 8, 9, 10, 13, 14, 15, 16, 72, 73, 74] rfl (nx_xt ?_)))))))))))
      rw [show ints ((m.gr.prow M l[i]).take k) ++ [.int .i64 (1 + idx M (m.seen (m.word (l[i] + 1 + k))))] = ints ((m.gr.prow M l[i]).take (k + 1)) by rw [hta]; simp [ints], ← htk]
      refine xt_ag (k + 1, lv', rv') ⟨hkl, hmk1⟩ (by show _ - _ < _ - _; omega)
    · skip
      rw [hb] at hps hpg
      simp only [Bool.false_eq_true, if_false, List.append_nil] at hps hpg
      have hta : (m.gr.prow M l[i]).take (k + 1) = (m.gr.prow M l[i]).take k ++ [m.word (l[i] + 1 + k)] := by
        rw [List.take_succ_eq_append_getElem (by omega)]
        rw [List.getElem?_eq_getElem (by omega), Option.some.injEq] at hpg
        rw [hpg]
      refine cd_skip (xt_then (cd_region (st_v (v_move rfl) (st_v (v_move rfl) (st_buildSlice (cells := [.int .i64 (m.word (l[i] + 1 + k))]) rfl Try.underlying34 inf3 rfl rfl (by kernel_rfl) (ltn rfl) fun b98 => ?_)))))
      refine st_append (news := [.int .i64 (m.word (l[i] + 1 + k))]) rfl rfl Try.underlying34 inf3 rfl (ltn rfl) (by repeat (first | exact Sel.here | apply Sel.there)) rfl (fun j u hu => by repeat (first | exact at_here (rd_cl (by simpa using hu)) | apply at_there)) (ones rfl) (by omega) (by omega) (ltn rfl) fun rv' hrv' hv1 => ?_
      refine st_v (v_assign rfl) (st_nil (nx_kp [2, 4, 8, 9, 10, 13, 14, 15, 16, 72, 73, 74] rfl (nx_xt (xt_normal_block (xt_then (cd_region (st_v (v_add rfl rfl (by unfold I64 at *; omega)) (st_v (v_move rfl) (st_nil (nx_kp [2, 4, 8, 9, 10, 13, 14, 15, 16, 72, 73, 74] rfl (nx_xt ?_)))))))))))
      rw [show ints ((m.gr.prow M l[i]).take k) ++ [.int .i64 (m.word (l[i] + 1 + k))] = ints ((m.gr.prow M l[i]).take (k + 1)) by rw [hta]; simp [ints], ← hps]
      refine xt_ag (k + 1, lw, rv') ⟨hkl, by rw [hps]; exact hmk⟩ (by show _ - _ < _ - _; omega)
  · skip
    have hkg : k = (m.row l[i]).length := by
      have : ¬ k < (m.row l[i]).length := by simpa using hc4
      omega
    have hpa : m.gr.succTo l[i] k = m.gr.succ l[i] := by rw [hkg, ← gr_len]; exact Gr.succTo_all _ _
    have hAl : (m.gr.prow M l[i]).length = (m.row l[i]).length := prow_len _ _ _
    rw [hpa, List.take_of_length_le (by omega), hkg]
    refine cd_exit (xt_exit_then (xt_exit_then (xt_exit_block ?_)))
    have hc := hcont lw rw_
    unfold pcSH at hc
    simp only [List.cons_append, List.nil_append] at hc
    exact xt_use hc
set_option maxHeartbeats 2000000 in
set_option maxRecDepth 100000 in
/-- A row of a picture, of an object there. -/
theorem hrow_o_c (I : MI L μ S m) (h : AM.Good m ly ln lf φ A) {i : Nat} (hi : i < l.length) (ht : l[i] ∈ lf) (hl : PM (AM.Obj ly ln lf) l) (hu : RowB S u (m.row l[i])) (hM : ∃ k, M = (m.gr.succ l[i]).foldl pmeet l ++ k) (hM0 : (0 : Int) ∉ M) (sw : Value)
    (hcont : ∀ lv' rv', Xt ⟨Try.prog, none, 114, [], w0⟩ .normal Q [(2, .pointer (some ⟨b2, 0, none⟩)), (4, .pointer (some ⟨b4, 0, none⟩)), (8, .pointer (some ⟨b8, 0, none⟩)), (9, .func (.func 58) #[] #[.pointer (some ⟨b2, 0, none⟩), .pointer (some ⟨b7, 0, none⟩), .pointer (some ⟨b8, 0, none⟩)]), (10, .pointer (some ⟨b10, 0, none⟩)), (13, .int .i64 (i : Nat)), (15, sw), (16, rv')] (vec rv' 3 1 (m.row l[i]).length (ints (m.gr.prow M l[i])) :: (pcSH L μ b2 b7 b8 mp lv' ((m.gr.succ l[i]).foldl pmeet l) ++ ([sb L.y μ.y, wb L.y μ.y, tb L.y μ.y, sb L.n μ.n, wb L.n μ.n, tb L.n μ.n, wb L.o μ.o, S] ++ hr)))) :
    Cd ⟨Try.prog, none, 114, [], w0⟩ (cdr (cdl (cdr (cdr (cdr (cdl (cdl (cdr (cdl (cdl (cdr (cdl (cdr (cdr (cdr (cdr (cdr (cdr (cdr (fbody Try.f19)))))))))))))))))))) Q [(2, .pointer (some ⟨b2, 0, none⟩)), (4, .pointer (some ⟨b4, 0, none⟩)), (8, .pointer (some ⟨b8, 0, none⟩)), (9, .func (.func 58) #[] #[.pointer (some ⟨b2, 0, none⟩), .pointer (some ⟨b7, 0, none⟩), .pointer (some ⟨b8, 0, none⟩)]), (10, .pointer (some ⟨b10, 0, none⟩)), (13, .int .i64 (i : Nat)), (14, .pointer (some ⟨L.o.sb, 0, none⟩)), (15, sw), (16, .slice none 0 0), (72, u), (73, .int .i64 (m.row l[i]).length), (74, .int .i64 0)] (pcSH L μ b2 b7 b8 mp lv l ++ ([sb L.y μ.y, wb L.y μ.y, tb L.y μ.y, sb L.n μ.n, wb L.n μ.n, tb L.n μ.n, wb L.o μ.o, S] ++ hr)) := by
  have z := h.g.sz
  have h1 := z.Y0; have h2 := z.Y1; have h3 := z.H0; have h4 := z.H1; have h5 := m.base_former
  have hob : AM.Obj ly ln lf l[i] := hl.s _ (List.getElem_mem hi)
  have hbd := h.g.fbd ht
  have hlen := (ob_obj h.g hob).len z
  have hsz : m.size l[i] = 1 + (m.row l[i]).length := rfl
  have ok := I.r.oko h.g
  have k1 := ok.us; have k2 := ok.fr; have k3 := ok.ws
  obtain ⟨uo, o1, o2⟩ := I.r.o; have e1 := o1.fr; have e2 := o1.ln; have e3 := o1.us; have e4 := o2 l[i] (by omega) (by omega) (h.g.fhead ht)
  obtain ⟨ua, ucp, hue, _⟩ := id hu
  have hT := h.g.T_le
  have hn0 : ∀ {l'}, PM (AM.Obj ly ln lf) l' → (0 : Int) ∉ l' := fun hp hm => by have := (h.g.obj_bd (hp.s 0 hm)).1; omega
  refine cd_vecnil 3 1 ?_
  refine cd_block (cd_loop (σ := Nat × Value × Value) (fun q => [(2, .pointer (some ⟨b2, 0, none⟩)), (4, .pointer (some ⟨b4, 0, none⟩)), (8, .pointer (some ⟨b8, 0, none⟩)), (9, .func (.func 58) #[] #[.pointer (some ⟨b2, 0, none⟩), .pointer (some ⟨b7, 0, none⟩), .pointer (some ⟨b8, 0, none⟩)]), (10, .pointer (some ⟨b10, 0, none⟩)), (13, .int .i64 (i : Nat)), (14, .pointer (some ⟨L.o.sb, 0, none⟩)), (15, sw), (16, q.2.2), (72, u), (73, .int .i64 (m.row l[i]).length), (74, .int .i64 (q.1 : Nat))]) (fun q => vec q.2.2 3 1 q.1 (ints ((m.gr.prow M l[i]).take q.1)) :: (pcSH L μ b2 b7 b8 mp q.2.1 ((m.gr.succTo l[i] q.1).foldl pmeet l) ++ ([sb L.y μ.y, wb L.y μ.y, tb L.y μ.y, sb L.n μ.n, wb L.n μ.n, tb L.n μ.n, wb L.o μ.o, S] ++ hr))) (fun q => q.1 ≤ (m.row l[i]).length ∧ PM (AM.Obj ly ln lf) ((m.gr.succTo l[i] q.1).foldl pmeet l)) (fun q => (m.row l[i]).length - q.1) (0, lv, .slice none 0 0) ⟨Nat.zero_le _, hl⟩ ⟨rfl, rfl, rfl, rfl, rfl, rfl, rfl, rfl, rfl, rfl, rfl, rfl, trivial⟩ (Sub.refl _) ?_)
  rintro ⟨k, lw, rw_⟩ ⟨hk, hmk⟩
  dsimp only at hk hmk ⊢
  have hmkl := h.g.pm_len hmk
  obtain ⟨ex, hex⟩ := pmeets_pre (m.gr.succTo l[i] k) l
  have hxl : i < ((m.gr.succTo l[i] k).foldl pmeet l).length := by rw [hex, List.length_append]; omega
  have hxi : ((m.gr.succTo l[i] k).foldl pmeet l)[i]? = some l[i] := by rw [hex, List.getElem?_append_left hi, List.getElem?_eq_getElem hi]
  unfold pcSH
  simp only [List.cons_append, List.nil_append]
  refine cd_vecshape (v := lw) (E := 3) (sz := 1) (n := ((m.gr.succTo l[i] k).foldl pmeet l).length) (l := ints ((m.gr.succTo l[i] k).foldl pmeet l)) (by repeat (first | exact Sel.here | apply Sel.there)) fun wa wcp hlw hwa => ?_
  obtain ⟨wbk, rfl⟩ := hwa (by omega)
  have hrdw : Rd (vec lw 3 1 ((m.gr.succTo l[i] k).foldl pmeet l).length (ints ((m.gr.succTo l[i] k).foldl pmeet l))) ⟨wbk, i, none⟩ (.int .i64 l[i]) := rd_vec hlw (by simp only [ints, List.getElem?_map, hxi, Option.map_some])
  refine cd_seq (cd_region (st_v (v_lss rfl rfl) (st_nil (nx_then (cd_seq (cd_cond rfl (fun hc4 => ?_) (fun hc4 => ?_)))))))
  · skip
    have hkl : k < (m.row l[i]).length := by simpa using hc4
    obtain ⟨ub, uo2, ucp', hue2, hrdu⟩ := hu.at hkl
    have hps := Gr.succTo_succ (g := m.gr) (t := l[i]) (k := k) (by rw [gr_len]; exact hkl)
    rw [gr_flag hkl] at hps
    have hpg := prow_get (M := M) hkl
    have hAl : (m.gr.prow M l[i]).length = (m.row l[i]).length := prow_len _ _ _
    have hwd : μ.o.ws.getD (l[i] + 1 + k - μ.o.fr).toNat 0 = m.word (l[i] + 1 + k) := (by rw [o1.wd _ (by omega), show m.former + (((l[i] + 1 + k - μ.o.fr).toNat : Nat) : Int) = l[i] + 1 + k by omega, hw_word (Gd.innerf h.g ht (by omega) (by unfold AM.size; omega))])
    have hrdx : Rd (wb L.o μ.o) ⟨L.o.wb, (l[i] + 1 + k - μ.o.fr).toNat, none⟩ (.int .i64 (m.word (l[i] + 1 + k))) := by rw [← hwd]; exact rd_ints (by omega)
    refine cd_skip (xt_then (cd_seq (cd_block (cd_seq (cd_region (st_v (v_move rfl) (st_v (v_ixo k (congrArg some hue2) rfl sl73 rfl hkl) (st_v (v_ld rfl ld4) ?_))))))))
    refine st_v (v_assign rfl) (st_v (v_assign rfl) (st_nil (nx_kp [2, 4, 8, 9, 10, 13, 14, 15, 16, 17, 18, 72, 73, 74] rfl (nx_then (cd_seq (cd_drawh (ork [(0, 2), (1, 2), (2, 2), (3, 1), (4, 2), (5, 2), (6, 1), (7, 2), (8, 2), (9, 2), (10, 1), (11, 2), (12, 1), (13, 2)] .nil) (fun _ => true) mixed (by kernel_rfl) ?_))))))
    refine dp_v rfl (v_move rfl) (dp_v rfl (v_nilCheck rfl) (dp_v rfl (v_fieldAddr rfl fa117_0 rfl) (dr_v rfl (v_ld rfl ld34) ?_)))
    refine dp_v rfl (v_move rfl) (dp_v rfl (v_idx i (congrArg some hlw) rfl sl34 rfl hxl) (dr_v rfl (v_ld rfl ld3) ?_))
    refine dp_v rfl (v_add rfl rfl (by unfold I64 at *; omega)) (dp_v rfl (v_move rfl) (dp_v rfl (v_add rfl rfl (by unfold I64 at *; omega)) (dr_clr rfl rfl rfl en61 rfl (word_ct (l := L.o) (s := μ.o) ok (by omega) (by omega)) ?_)))
    refine dp_v rfl (v_nilCheck rfl) (dr_v rfl (v_ld rfl ld3) ?_)
    refine dp_v rfl (v_assign rfl) (dr_nil (nx_kp [2, 4, 8, 9, 10, 13, 14, 15, 16, 18, 19, 72, 73, 74] rfl (nx_then (cd_seq (cd_seq (cd_region (st_v (v_move rfl) (st_nil (nx_kp [2, 4, 8, 9, 10, 13, 14, 15, 16, 19, 72, 73, 74, 92] rfl (nx_then (cd_cond rfl (fun hb => ?_) (fun hb => ?_))))))))))))
    · skip
      rw [hb] at hps hpg
      simp only [if_true] at hps hpg
      have hpm : l[i] + 1 + (k : Int) ∈ m.pl l[i] := mem_pl.2 ⟨k, by rw [List.getElem?_eq_getElem hkl, hb], rfl⟩
      have htk : (m.gr.succTo l[i] (k + 1)).foldl pmeet l = pmeet ((m.gr.succTo l[i] k).foldl pmeet l) (m.seen (m.word (l[i] + 1 + k))) := by rw [hps, pmeets_snoc]
      have hwo := h.g.word_obj hob hpm
      have hidx : idx (pmeet ((m.gr.succTo l[i] k).foldl pmeet l) (m.seen (m.word (l[i] + 1 + k)))) (m.seen (m.word (l[i] + 1 + k))) = idx M (m.seen (m.word (l[i] + 1 + k))) :=
        idx_pre (pre_trans (by rw [← htk]; exact m.gr.meets_to l[i] (k + 1) l) hM) pmeet_has hM0
      have hix := idx_lt (l := M) (t := m.seen (m.word (l[i] + 1 + k)))
      have hmk1 : PM (AM.Obj ly ln lf) ((m.gr.succTo l[i] (k + 1)).foldl pmeet l) := by rw [htk]; exact hmk.meet (h.g.seen_obj hwo)
      have hta : (m.gr.prow M l[i]).take (k + 1) = (m.gr.prow M l[i]).take k ++ [1 + idx M (m.seen (m.word (l[i] + 1 + k)))] := by
        rw [List.take_succ_eq_append_getElem (by omega)]
        rw [List.getElem?_eq_getElem (by omega), Option.some.injEq] at hpg
        rw [hpg]
      refine cd_region (st_v (v_move rfl) (st_v (v_move rfl) (st_cl rfl rfl en58 rfl (hpmeet_ct (b1 := b2) (b2 := b7) (b3 := b8) (mp := mp) (lv := lw) I h hmk hwo) ?_)))
      rintro v' h' ⟨rfl, lv', rfl⟩
      rw [hidx]
      unfold pcSH
      simp only [List.cons_append, List.nil_append]
      refine st_v (v_assign rfl) (st_nil (nx_kp [2, 4, 8, 9, 10, 13, 14, 15, 16, 19, 72, 73, 74] rfl (nx_then (cd_region (st_v (v_move rfl) (st_v (v_move rfl) (st_buildSlice (cells := [.int .i64 (1 + idx M (m.seen (m.word (l[i] + 1 + k))))]) rfl Try.underlying34 inf3 rfl rfl (by kernel_rfl) (ltn rfl) fun b98 => ?_)))))))
      refine st_append (news := [.int .i64 (1 + idx M (m.seen (m.word (l[i] + 1 + k))))]) rfl rfl Try.underlying34 inf3 rfl (ltn rfl) (by repeat (first | exact Sel.here | apply Sel.there)) rfl (fun j u hu => by repeat (first | exact at_here (rd_cl (by simpa using hu)) | apply at_there)) (ones rfl) (by omega) (by omega) (ltn rfl) fun rv' hrv' hv1 => ?_
      refine st_v (v_assign rfl) (st_nil (nx_kp [2, 4, 8, 9, 10, 13, 14, 15, 16, 72, 73, 74] rfl (nx_xt (xt_normal_block (xt_then (cd_region (st_v (v_add rfl rfl (by unfold I64 at *; omega)) (st_v (v_move rfl) (st_nil (nx_kp [2, 4, 8, 9, 10, 13, 14, 15, 16, 72, 73, 74] rfl (nx_xt ?_)))))))))))
      rw [show ints ((m.gr.prow M l[i]).take k) ++ [.int .i64 (1 + idx M (m.seen (m.word (l[i] + 1 + k))))] = ints ((m.gr.prow M l[i]).take (k + 1)) by rw [hta]; simp [ints], ← htk]
      refine xt_ag (k + 1, lv', rv') ⟨hkl, hmk1⟩ (by show _ - _ < _ - _; omega)
    · skip
      rw [hb] at hps hpg
      simp only [Bool.false_eq_true, if_false, List.append_nil] at hps hpg
      have hta : (m.gr.prow M l[i]).take (k + 1) = (m.gr.prow M l[i]).take k ++ [m.word (l[i] + 1 + k)] := by
        rw [List.take_succ_eq_append_getElem (by omega)]
        rw [List.getElem?_eq_getElem (by omega), Option.some.injEq] at hpg
        rw [hpg]
      refine cd_skip (xt_then (cd_region (st_v (v_move rfl) (st_v (v_move rfl) (st_buildSlice (cells := [.int .i64 (m.word (l[i] + 1 + k))]) rfl Try.underlying34 inf3 rfl rfl (by kernel_rfl) (ltn rfl) fun b98 => ?_)))))
      refine st_append (news := [.int .i64 (m.word (l[i] + 1 + k))]) rfl rfl Try.underlying34 inf3 rfl (ltn rfl) (by repeat (first | exact Sel.here | apply Sel.there)) rfl (fun j u hu => by repeat (first | exact at_here (rd_cl (by simpa using hu)) | apply at_there)) (ones rfl) (by omega) (by omega) (ltn rfl) fun rv' hrv' hv1 => ?_
      refine st_v (v_assign rfl) (st_nil (nx_kp [2, 4, 8, 9, 10, 13, 14, 15, 16, 72, 73, 74] rfl (nx_xt (xt_normal_block (xt_then (cd_region (st_v (v_add rfl rfl (by unfold I64 at *; omega)) (st_v (v_move rfl) (st_nil (nx_kp [2, 4, 8, 9, 10, 13, 14, 15, 16, 72, 73, 74] rfl (nx_xt ?_)))))))))))
      rw [show ints ((m.gr.prow M l[i]).take k) ++ [.int .i64 (m.word (l[i] + 1 + k))] = ints ((m.gr.prow M l[i]).take (k + 1)) by rw [hta]; simp [ints], ← hps]
      refine xt_ag (k + 1, lw, rv') ⟨hkl, by rw [hps]; exact hmk⟩ (by show _ - _ < _ - _; omega)
  · skip
    have hkg : k = (m.row l[i]).length := by
      have : ¬ k < (m.row l[i]).length := by simpa using hc4
      omega
    have hpa : m.gr.succTo l[i] k = m.gr.succ l[i] := by rw [hkg, ← gr_len]; exact Gr.succTo_all _ _
    have hAl : (m.gr.prow M l[i]).length = (m.row l[i]).length := prow_len _ _ _
    rw [hpa, List.take_of_length_le (by omega), hkg]
    refine cd_exit (xt_exit_then (xt_exit_then (xt_exit_block ?_)))
    have hc := hcont lw rw_
    unfold pcSH at hc
    simp only [List.cons_append, List.nil_append] at hc
    exact xt_use hc
end
end Go.Proofs.Ytmhmpjgkkpbnnaa
namespace Go.Proofs.Ytmhmpjgkkpbnnaa
open Go.Ck Fx Go.Hm Go.Hm.AM
attribute [local irreducible] St Cd Xt Nx DrL LsW
section
variable {L : MemL} {μ : Mem} {S R : Res} {m : AM} {ly ln lf : List Int} {φ : Int → Option Nat} {A : Store} {v u : Value} {roots l : List Int} {t : Int} {w0 : World} {hr : SH} {Q : Exit → Act → World → Prop} {b2 b4 b7 b8 b10 mp : Nat} {lv : Value}
theorem inP_y (I : MI L μ S m) (h : AM.Good m ly ln lf φ A) (ht : t ∈ ly) : inP L μ t = some ⟨L.y.sb, 0, none⟩ := by
  have hh := h.g.yhead ht
  have hy := (h.g.isY_iff hh).2 ht
  unfold inP
  rw [I.r.by_ h.g, hy, show decide (0 < m.head t) = true by simpa using hh]; rfl
theorem inP_n (I : MI L μ S m) (h : AM.Good m ly ln lf φ A) (ht : t ∈ ln) : inP L μ t = some ⟨L.n.sb, 0, none⟩ := by
  have hh := h.g.ohead ht
  have hb := h.g.obd ht; have ho := h.g.oldle
  have hO : m.isO t = true := isO_iff.2 ⟨by omega, by omega⟩
  unfold inP
  rw [I.r.by_ h.g, h.g.isYn (.inr (.inl ht)), I.r.bn h.g, hO, show decide (0 < m.head t) = true by simpa using hh]; rfl
theorem inP_o (I : MI L μ S m) (h : AM.Good m ly ln lf φ A) (ht : t ∈ lf) : inP L μ t = some ⟨L.o.sb, 0, none⟩ := by
  have hh := h.g.fhead ht
  have hb := h.g.fbd ht; have hbf := m.base_former; have h0 := h.g.sz.H0
  have hF : m.isF t = true := isF_iff.2 ⟨by omega, by omega⟩
  have hO : m.isO t = false := by
    cases hq : m.isO t with
    | false => rfl
    | true => have := isO_iff.1 hq; omega
  unfold inP
  rw [I.r.by_ h.g, h.g.isYn (.inr (.inr ht)), I.r.bn h.g, hO, I.r.bo, hF, show decide (0 < m.head t) = true by simpa using hh]; rfl
theorem seen_root (h : AM.Good m ly ln lf φ A) (ht : t = 0 ∨ t ∈ ly ∨ t ∈ ln) : m.seen t = t := by
  unfold AM.seen; rw [h.g.isFn ht]; rfl
theorem met_pm (h : AM.Good m ly ln lf φ A) (hl : PM (AM.Obj ly ln lf) (roots.foldl pmeet [])) : PM (AM.Obj ly ln lf) (m.gr.met m.T roots) ∧ ∃ k, m.gr.met m.T roots = roots.foldl pmeet [] ++ k :=
  ⟨(Gr.close_spec m.gr (T := m.T) (fun l hl => h.g.pm_len hl) (fun x hx => h.g.succ_obj hx) m.T 0 _ (by omega) hl (Nat.zero_le _) (fun j hj hj0 => by omega)).1, Gr.close_pre _ _ _ _⟩
theorem obj_ne (h : AM.Good m ly ln lf φ A) {l' : List Int} (hp : PM (AM.Obj ly ln lf) l') : (0 : Int) ∉ l' := fun hm => by have := (h.g.obj_bd (hp.s 0 hm)).1; omega
set_option maxHeartbeats 4000000 in
set_option maxRecDepth 100000 in
/-- The objects of a picture. -/
theorem hobjs_c (I : MI L μ S m) (h : AM.Good m ly ln lf φ A) (hl0 : PM (AM.Obj ly ln lf) (roots.foldl pmeet [])) {rv : Value}
    (hend : ∀ us sv fv lv, us.length = (m.gr.met m.T roots).length → (∀ (j : Nat) (u : Value) (x : List Int), us[j]? = some u → (m.pic roots).fields[j]? = some x → VForm u x.length (ints x)) → Xt ⟨Try.prog, none, 114, [], w0⟩ .normal Q [(2, .pointer (some ⟨b2, 0, none⟩)), (4, .pointer (some ⟨b4, 0, none⟩)), (8, .pointer (some ⟨b8, 0, none⟩)), (9, .func (.func 58) #[] #[.pointer (some ⟨b2, 0, none⟩), .pointer (some ⟨b7, 0, none⟩), .pointer (some ⟨b8, 0, none⟩)]), (10, .pointer (some ⟨b10, 0, none⟩))] (pt b10 (cl [sv, fv, rv] 42) :: vec sv 3 1 (m.gr.met m.T roots).length (ints (m.pic roots).shapes) :: vec fv 34 1 (m.gr.met m.T roots).length us :: Res.star (rowsI us (m.pic roots).fields) :: (pcSH L μ b2 b7 b8 mp lv (m.gr.met m.T roots) ++ ([sb L.y μ.y, wb L.y μ.y, tb L.y μ.y, sb L.n μ.n, wb L.n μ.n, tb L.n μ.n, wb L.o μ.o, S] ++ hr)))) :
    Cd ⟨Try.prog, none, 114, [], w0⟩ (cdr (cdl (cdr (cdr (cdr (cdr (cdr (cdr (cdr (fbody Try.f19)))))))))) Q [(2, .pointer (some ⟨b2, 0, none⟩)), (4, .pointer (some ⟨b4, 0, none⟩)), (8, .pointer (some ⟨b8, 0, none⟩)), (9, .func (.func 58) #[] #[.pointer (some ⟨b2, 0, none⟩), .pointer (some ⟨b7, 0, none⟩), .pointer (some ⟨b8, 0, none⟩)]), (10, .pointer (some ⟨b10, 0, none⟩)), (13, .int .i64 0)] (pt b10 (cl [.slice none 0 0, .slice none 0 0, rv] 42) :: (pcSH L μ b2 b7 b8 mp lv (roots.foldl pmeet []) ++ ([sb L.y μ.y, wb L.y μ.y, tb L.y μ.y, sb L.n μ.n, wb L.n μ.n, tb L.n μ.n, wb L.o μ.o, S] ++ hr))) := by
  have z := h.g.sz
  have h1 := z.Y0; have h2 := z.Y1; have h3 := z.H0; have h4 := z.H1; have h5 := m.base_former
  have hT := h.g.T_le
  have hM00 : m.gr.met m.T roots = m.gr.close m.T 0 (roots.foldl pmeet []) := rfl
  have hMp := (met_pm h hl0).1
  have hM0 := obj_ne h hMp
  have hMl := h.g.pm_len hMp
  obtain ⟨p1, p2, p3⟩ := pic_parts m roots
  obtain ⟨M, hM⟩ : ∃ M, M = m.gr.met m.T roots := ⟨_, rfl⟩
  rw [← hM] at p1 p2 p3 hM00 hMp hM0 hend hMl
  refine cd_vecnil 3 1 ?_
  refine cd_vecnil 34 1 ?_
  refine cd_star0 (cd_block (cd_loop (σ := Nat × List Int × Value × List Value × Value × Value) (fun q => [(2, .pointer (some ⟨b2, 0, none⟩)), (4, .pointer (some ⟨b4, 0, none⟩)), (8, .pointer (some ⟨b8, 0, none⟩)), (9, .func (.func 58) #[] #[.pointer (some ⟨b2, 0, none⟩), .pointer (some ⟨b7, 0, none⟩), .pointer (some ⟨b8, 0, none⟩)]), (10, .pointer (some ⟨b10, 0, none⟩)), (13, .int .i64 (q.1 : Nat))]) (fun q => pt b10 (cl [q.2.2.2.2.1, q.2.2.2.2.2, rv] 42) :: vec q.2.2.2.2.1 3 1 q.1 (ints ((m.pic roots).shapes.take q.1)) :: vec q.2.2.2.2.2 34 1 q.1 q.2.2.2.1 :: Res.star (rowsI q.2.2.2.1 ((m.pic roots).fields.take q.1)) :: (pcSH L μ b2 b7 b8 mp q.2.2.1 q.2.1 ++ ([sb L.y μ.y, wb L.y μ.y, tb L.y μ.y, sb L.n μ.n, wb L.n μ.n, tb L.n μ.n, wb L.o μ.o, S] ++ hr))) (fun q => q.1 ≤ q.2.1.length ∧ PM (AM.Obj ly ln lf) q.2.1 ∧ m.gr.close (m.T - q.1) q.1 q.2.1 = M ∧ q.2.2.2.1.length = q.1 ∧ ∀ (j : Nat) (u : Value) (x : List Int), q.2.2.2.1[j]? = some u → (m.pic roots).fields[j]? = some x → VForm u x.length (ints x)) (fun q => m.T - q.1) (0, roots.foldl pmeet [], lv, [], .slice none 0 0, .slice none 0 0) ⟨Nat.zero_le _, hl0, hM00.symm, rfl, fun j u x hx _ => absurd hx (by show ¬ ([] : List Value)[j]? = some u; simp)⟩ ⟨rfl, rfl, rfl, rfl, rfl, rfl, trivial⟩ (by unfold pcSH; simp only [List.cons_append, List.nil_append]; exact (by repeat (first | exact Sub.refl _ | exact Sub.nil _ | refine Sub.sel (by repeat (first | exact Sel.here | apply Sel.there)) ?_ | apply Sub.cons))) ?_))
  rintro ⟨i, l, lv, us, sv, fv⟩ ⟨hi, hmet, hcl, hul, hform⟩
  dsimp only at hi hmet hcl hul hform ⊢
  have hml := h.g.pm_len hmet
  unfold pcSH
  simp only [List.cons_append, List.nil_append]
  refine cd_vecshape (v := lv) (E := 3) (sz := 1) (n := l.length) (l := ints l) (by repeat (first | exact Sel.here | apply Sel.there)) fun la lcp hlv hla => ?_
  refine cd_seq (cd_seq (cd_region (st_v (v_move rfl) (st_v (v_ld rfl ld34) ?_))))
  refine st_v (v_len (congrArg some hlv) Try.underlying34) (st_v (v_lss rfl rfl) (st_nil (nx_kp [2, 4, 8, 9, 10, 13, 47] rfl (nx_then (cd_cond rfl (fun hc3 => ?_) (fun hc3 => ?_))))))
  · skip
    have hlt : i < l.length := by simpa using hc3
    obtain ⟨lb, rfl⟩ := hla (by omega)
    have hob : AM.Obj ly ln lf l[i] := hmet.s _ (List.getElem_mem hlt)
    have ob := ob_obj h.g hob
    have g1 := ob.t0; have g2 := ob.h2; have hlen := ob.len z; have g3 := ob.h0; have g4 := ob.h1; have g5 := z.n
    have hsz : m.size l[i] = 1 + (m.row l[i]).length := rfl
    have hrd : Rd (vec lv 3 1 l.length (ints l)) ⟨lb, i, none⟩ (.int .i64 l[i]) := rd_vec hlv (by simp [ints, hlt])
    obtain ⟨sb_, so_, scp_, u, hsv, hsrd, hu⟩ := I.shp.row ob.i
    rw [← ob.row] at hu
    obtain ⟨ua, ucp, hue, _⟩ := id hu
    have hf : m.T - i = (m.T - (i + 1)) + 1 := by omega
    have hcl2 : m.gr.close (m.T - (i + 1)) (i + 1) ((m.gr.succ l[i]).foldl pmeet l) = M := by
      rw [← hcl, hf]; conv => rhs; unfold Gr.close
      rw [dif_pos hlt]
    have hMpre : ∃ k, M = (m.gr.succ l[i]).foldl pmeet l ++ k := by rw [← hcl2]; exact Gr.close_pre _ _ _ _
    obtain ⟨ex, hex⟩ := pmeets_pre (m.gr.succ l[i]) l
    have hmet2 : PM (AM.Obj ly ln lf) ((m.gr.succ l[i]).foldl pmeet l) := PM.meets _ hmet fun x hx => h.g.succ_obj hob x hx
    have hiM : M[i]? = some l[i] := by
      obtain ⟨k, hk⟩ := hMpre
      rw [hk, hex, List.append_assoc, List.getElem?_append_left hlt, List.getElem?_eq_getElem hlt]
    have hiM1 : i < M.length := (List.getElem?_eq_some_iff.1 hiM).1
    have hiM2 : M[i] = l[i] := (List.getElem?_eq_some_iff.1 hiM).2
    have hs1 : (m.pic roots).shapes.take (i + 1) = (m.pic roots).shapes.take i ++ [m.head l[i] - 1] := by rw [p1, take_map_succ hiM1, hiM2]
    have hf1 : (m.pic roots).fields.take (i + 1) = (m.pic roots).fields.take i ++ [m.gr.prow M l[i]] := by rw [p2, take_map_succ hiM1, hiM2]
    have hfl : (m.pic roots).fields.length = M.length := by rw [p2, List.length_map]
    have hfi : (m.pic roots).fields[i]? = some (m.gr.prow M l[i]) := by rw [p2, List.getElem?_map, hiM]; rfl
    have hAl : (m.gr.prow M l[i]).length = (m.row l[i]).length := prow_len _ _ _
    rcases id hob with ht | ht | ht
    · skip
      have hbd := h.g.ybd ht; have e1 := I.r.y.fr; have e2 := I.r.y.ln; have e3 := h.g.yl; have ok := I.r.oky h.g; have hwd := I.r.wdy h.g ht
      have k1 := ok.us; have k2 := ok.fr; have k3 := ok.ws
      have hin : Reads Try.prog 60 #[.pointer (some ⟨L.mb, 0, none⟩), .int .i64 l[i]] (inSH L μ) (.pointer (some ⟨L.y.sb, 0, none⟩)) := by rw [← inP_y I h ht]; exact hin_ct I h
      unfold inSH at hin
      have hrdw : Rd (wb L.y μ.y) ⟨L.y.wb, (l[i] - μ.y.fr).toNat, none⟩ (.int .i64 (m.head l[i] - 1)) := by rw [← hwd]; exact rd_ints (by omega)
      refine cd_skip (xt_then (cd_seq (cd_block (cd_seq (cd_drawh (ork [(0, 1), (1, 1), (2, 2), (3, 2), (4, 1), (5, 1), (6, 2)] .nil) (fun _ => true) mixed (by kernel_rfl) ?_)))))
      refine dr_v rfl (v_ld rfl ld27) ?_
      refine dr_v rfl (v_ld rfl ld34) ?_
      refine dp_v rfl (v_move rfl) (dp_v rfl (v_idx i (congrArg some hlv) rfl sl34 rfl hlt) (dr_v rfl (v_ld rfl ld3) ?_))
      refine dr_clr rfl rfl rfl en60 rfl (hin) ?_
      refine dp_v rfl (v_assign rfl) (dr_nil (nx_kp [2, 4, 8, 9, 10, 13, 14] rfl (nx_then (cd_seq (cd_drawh (ork [(0, 2), (1, 2), (2, 2), (3, 1), (4, 2), (5, 2), (6, 1), (7, 1), (8, 2), (9, 1), (10, 2)] .nil) (fun _ => true) mixed (by kernel_rfl) ?_)))))
      refine dp_v rfl (v_move rfl) (dp_v rfl (v_nilCheck rfl) (dp_v rfl (v_fieldAddr rfl fa117_0 rfl) (dr_v rfl (v_ld rfl ld34) ?_)))
      refine dp_v rfl (v_move rfl) (dp_v rfl (v_idx i (congrArg some hlv) rfl sl34 rfl hlt) (dr_v rfl (v_ld rfl ld3) ?_))
      refine dr_clr rfl rfl rfl en61 rfl (word_ct (l := L.y) (s := μ.y) ok (by omega) (by omega)) ?_
      refine dp_v rfl (v_nilCheck rfl) (dr_v rfl (v_ld rfl ld3) ?_)
      refine dp_v rfl (v_assign rfl) (dr_nil (nx_kp [2, 4, 8, 9, 10, 13, 14, 15] rfl (nx_then (cd_seq (cd_region (st_v (v_assign rfl) (st_nil (nx_then (cd_seq (cd_seq (cd_region (st_v (v_ld rfl ld27) ?_))))))))))))
      refine st_v (v_nilCheck rfl) (st_v (v_fieldAddr rfl fa100_0 rfl) (st_v (v_ld rfl ld22) ?_))
      refine st_v (v_move rfl) (st_v (v_ixo (m.head l[i] - 1).toNat (congrArg some hsv) rfl sl22 (by omega) ob.i) (st_v (v_ld rfl ld73) ?_))
      refine st_v (v_len (congrArg some hue) Try.underlying73) (st_v (v_move rfl) (st_nil (nx_kp [2, 4, 8, 9, 10, 13, 14, 15, 16, 72, 73, 74] rfl (nx_then (cd_use (hrow_y_c (L := L) (μ := μ) (S := S) (m := m) (b2 := b2) (b4 := b4) (b7 := b7) (b8 := b8) (b10 := b10) (mp := mp) (w0 := w0) (lv := lv) (M := M) (hr := pt b10 (cl [sv, fv, rv] 42) :: vec sv 3 1 i (ints ((m.pic roots).shapes.take i)) :: vec fv 34 1 i us :: Res.star (rowsI us ((m.pic roots).fields.take i)) :: hr) I h hlt ht hmet hu hMpre hM0 (.int .i64 (m.head l[i] - 1)) fun lv' rv' => ?_) (by repeat (first | exact trivial | refine ⟨rfl, ?_⟩ | refine ⟨congrArg some (congrArg (fun x => Value.slice x.1 x.2 x.3) rfl), ?_⟩)) (by unfold pcSH; simp only [List.cons_append, List.nil_append]; exact (by repeat (first | exact Sub.refl _ | exact Sub.nil _ | refine Sub.sel (by repeat (first | exact Sel.here | apply Sel.there)) ?_ | apply Sub.cons))))))))
      unfold pcSH
      simp only [List.cons_append, List.nil_append]
      refine xt_vform (v := rv') (n := (m.row l[i]).length) (l := ints (m.gr.prow M l[i])) (by repeat (first | exact Sel.here | apply Sel.there)) fun hvf => ?_
      have hone := VForm.one hvf
      refine xt_then (cd_draw (ork [(0, 2), (1, 1), (2, 2), (5, 2), (6, 1), (7, 2)] (.two 3 (.two 4 (ork [(10, 2), (8, 0), (9, 0), (11, 0), (12, 2), (13, 0)] .nil) 8 (ork [(4, 0), (10, 2), (9, 0), (11, 0), (12, 2), (13, 0)] .nil)) 8 (ork [(3, 0), (4, 0), (10, 2), (9, 0), (11, 0), (12, 2), (13, 0)] .nil))) (fun i => !(Nat.beq i 9 || Nat.beq i 11 || Nat.beq i 13)) [pt b10 (cl [sv, fv, rv] 42)] mixed (by kernel_rfl) ?_)
      refine dp_v rfl (v_fieldAddr rfl fa42_0 rfl) (dr_v rfl (v_ld rfl ld34) ?_)
      refine dp_v rfl (v_move rfl) (dp_v rfl (v_fieldAddr rfl fa42_1 rfl) (dr_v rfl (v_ld rfl ld40) ?_))
      refine dp_v rfl (v_move rfl) (dr_cutK (α := Value × Value) (fun x => [(2, .pointer (some ⟨b2, 0, none⟩)), (4, .pointer (some ⟨b4, 0, none⟩)), (8, .pointer (some ⟨b8, 0, none⟩)), (9, .func (.func 58) #[] #[.pointer (some ⟨b2, 0, none⟩), .pointer (some ⟨b7, 0, none⟩), .pointer (some ⟨b8, 0, none⟩)]), (10, .pointer (some ⟨b10, 0, none⟩)), (13, .int .i64 (i : Nat))]) (fun x => pt b10 (cl [x.1, x.2, rv] 42) :: vec x.1 3 1 (i + 1) (ints ((m.pic roots).shapes.take i) ++ [.int .i64 (m.head l[i] - 1)]) :: vec x.2 34 1 (i + 1) (us ++ [rv']) :: vec rv' 3 1 (m.row l[i]).length (ints (m.gr.prow M l[i])) :: Res.star (rowsI us ((m.pic roots).fields.take i)) :: (pcSH L μ b2 b7 b8 mp lv' ((m.gr.succ l[i]).foldl pmeet l) ++ ([sb L.y μ.y, wb L.y μ.y, tb L.y μ.y, sb L.n μ.n, wb L.n μ.n, tb L.n μ.n, wb L.o μ.o, S] ++ hr))) (fun x => ?_) (fun hcont => ?_))
      · skip
        refine nx_xt ?_
        obtain ⟨sv', fv'⟩ := x
        dsimp only
        unfold pcSH
        simp only [List.cons_append, List.nil_append]
        refine xt_normal_block (xt_then (cd_region (st_v (v_move rfl) (st_v (v_add rfl rfl (by unfold I64 at *; omega)) (st_v (v_assign rfl) (st_nil (nx_kp [2, 4, 8, 9, 10, 13] rfl (nx_xt (xt_restar (k' := rowsI (us ++ [rv']) ((m.pic roots).fields.take (i + 1))) (r := vec rv' 3 1 (m.row l[i]).length (ints (m.gr.prow M l[i]))) (k := rowsI us ((m.pic roots).fields.take i)) (by repeat (first | exact Sel.here | apply Sel.there)) (by repeat (first | exact Sel.here | apply Sel.there)) (by rw [hf1, rowsI_snoc (by rw [List.length_take]; omega), hAl]; exact (List.perm_append_singleton _ _).symm) ?_)))))))))
        rw [show ints ((m.pic roots).shapes.take i) ++ [.int .i64 (m.head l[i] - 1)] = ints ((m.pic roots).shapes.take (i + 1)) by rw [hs1]; simp [ints]]
        refine xt_ag (i + 1, (m.gr.succ l[i]).foldl pmeet l, lv', us ++ [rv'], sv', fv') ⟨by show i + 1 ≤ _; rw [hex, List.length_append]; omega, hmet2, hcl2, by simp [hul], snoc_all (P := fun (u : Value) (x : List Int) => VForm u x.length (ints x)) hul hform hfi (by rw [hAl]; exact hvf)⟩ (by show _ - _ < _ - _; omega) (by repeat (first | exact trivial | refine ⟨rfl, ?_⟩)) (by dsimp only; (try unfold pcSH); (try simp only [List.cons_append, List.nil_append]); exact (by repeat (first | exact Sub.refl _ | exact Sub.nil _ | refine Sub.sel (by repeat (first | exact Sel.here | apply Sel.there)) ?_ | apply Sub.cons)))
      · skip
        unfold pcSH at hcont
        simp only [List.cons_append, List.nil_append] at hcont
        refine dr_two rfl rfl ?_ ?_
        · skip
          refine st_buildSlice (cells := [.int .i64 (m.head l[i] - 1)]) rfl Try.underlying34 inf3 rfl rfl (by kernel_rfl) (ltn rfl) fun b104 => dr_nx ?_
          refine dr_two rfl rfl ?_ ?_
          · skip
            refine st_append (news := [.int .i64 (m.head l[i] - 1)]) rfl rfl Try.underlying34 inf3 rfl (ltn rfl) (by repeat (first | exact Sel.here | apply Sel.there)) rfl (fun j u hu => by repeat (first | exact at_here (rd_cl (by simpa using hu)) | apply at_there)) (ones rfl) (by omega) (by omega) (ltn rfl) fun sv' hsv' hv1 => dr_nx ?_
            refine dp_v rfl (v_fieldAddr rfl fa42_0 rfl) (dr_eff rfl (st_buildSlice (cells := [rv']) rfl Try.underlying40 inf34 rfl rfl (fill_one hone _ (by simp)) (ltn rfl) fun b109 => dr_nx ?_))
            refine dr_eff rfl (st_append (news := [rv']) rfl rfl Try.underlying40 inf34 rfl (ltn rfl) (by repeat (first | exact Sel.here | apply Sel.there)) rfl (fun j u hu => by repeat (first | exact at_here (rd_cl (by simpa using hu)) | apply at_there)) (fun x hx => by simp at hx; subst hx; exact hone) (by omega) (by omega) (ltn rfl) fun fv' hfv' hv2 => dr_nx ?_)
            refine dr_eff rfl (st_sto rfl rfl sz34 (dr_nx ?_))
            refine dp_v rfl (v_fieldAddr rfl fa42_1 rfl) (dr_eff rfl (st_sto rfl rfl sz40 (dr_nx ?_)))
            exact dr_nil (hcont (sv', fv') _ _ ⟨rfl, rfl, rfl, rfl, rfl, rfl, trivial⟩ (by repeat (first | exact Sub.refl _ | exact Sub.nil _ | refine Sub.sel (by repeat (first | exact Sel.here | apply Sel.there)) ?_ | apply Sub.cons)))
          · skip
            refine st_buildSlice (cells := [rv']) rfl Try.underlying40 inf34 rfl rfl (fill_one hone _ (by simp)) (ltn rfl) fun b109 => dr_nx ?_
            refine dr_eff rfl (st_append (news := [.int .i64 (m.head l[i] - 1)]) rfl rfl Try.underlying34 inf3 rfl (ltn rfl) (by repeat (first | exact Sel.here | apply Sel.there)) rfl (fun j u hu => by repeat (first | exact at_here (rd_cl (by simpa using hu)) | apply at_there)) (ones rfl) (by omega) (by omega) (ltn rfl) fun sv' hsv' hv1 => dr_nx ?_)
            refine dp_v rfl (v_fieldAddr rfl fa42_0 rfl) (dr_eff rfl (st_append (news := [rv']) rfl rfl Try.underlying40 inf34 rfl (ltn rfl) (by repeat (first | exact Sel.here | apply Sel.there)) rfl (fun j u hu => by repeat (first | exact at_here (rd_cl (by simpa using hu)) | apply at_there)) (fun x hx => by simp at hx; subst hx; exact hone) (by omega) (by omega) (ltn rfl) fun fv' hfv' hv2 => dr_nx ?_))
            refine dr_eff rfl (st_sto rfl rfl sz34 (dr_nx ?_))
            refine dp_v rfl (v_fieldAddr rfl fa42_1 rfl) (dr_eff rfl (st_sto rfl rfl sz40 (dr_nx ?_)))
            exact dr_nil (hcont (sv', fv') _ _ ⟨rfl, rfl, rfl, rfl, rfl, rfl, trivial⟩ (by repeat (first | exact Sub.refl _ | exact Sub.nil _ | refine Sub.sel (by repeat (first | exact Sel.here | apply Sel.there)) ?_ | apply Sub.cons)))
        · skip
          refine st_buildSlice (cells := [rv']) rfl Try.underlying40 inf34 rfl rfl (fill_one hone _ (by simp)) (ltn rfl) fun b109 => dr_nx ?_
          refine dr_eff rfl (st_buildSlice (cells := [.int .i64 (m.head l[i] - 1)]) rfl Try.underlying34 inf3 rfl rfl (by kernel_rfl) (ltn rfl) fun b104 => dr_nx ?_)
          refine dr_eff rfl (st_append (news := [.int .i64 (m.head l[i] - 1)]) rfl rfl Try.underlying34 inf3 rfl (ltn rfl) (by repeat (first | exact Sel.here | apply Sel.there)) rfl (fun j u hu => by repeat (first | exact at_here (rd_cl (by simpa using hu)) | apply at_there)) (ones rfl) (by omega) (by omega) (ltn rfl) fun sv' hsv' hv1 => dr_nx ?_)
          refine dp_v rfl (v_fieldAddr rfl fa42_0 rfl) (dr_eff rfl (st_append (news := [rv']) rfl rfl Try.underlying40 inf34 rfl (ltn rfl) (by repeat (first | exact Sel.here | apply Sel.there)) rfl (fun j u hu => by repeat (first | exact at_here (rd_cl (by simpa using hu)) | apply at_there)) (fun x hx => by simp at hx; subst hx; exact hone) (by omega) (by omega) (ltn rfl) fun fv' hfv' hv2 => dr_nx ?_))
          refine dr_eff rfl (st_sto rfl rfl sz34 (dr_nx ?_))
          refine dp_v rfl (v_fieldAddr rfl fa42_1 rfl) (dr_eff rfl (st_sto rfl rfl sz40 (dr_nx ?_)))
          exact dr_nil (hcont (sv', fv') _ _ ⟨rfl, rfl, rfl, rfl, rfl, rfl, trivial⟩ (by repeat (first | exact Sub.refl _ | exact Sub.nil _ | refine Sub.sel (by repeat (first | exact Sel.here | apply Sel.there)) ?_ | apply Sub.cons)))
    · skip
      have hbd := h.g.obd ht; have e1 := I.r.n.fr; have e2 := I.r.n.ln; have e3 := h.g.oldle; have ok := I.r.okn h.g; have hwd := I.r.wdn h.g ht
      have k1 := ok.us; have k2 := ok.fr; have k3 := ok.ws
      have hin : Reads Try.prog 60 #[.pointer (some ⟨L.mb, 0, none⟩), .int .i64 l[i]] (inSH L μ) (.pointer (some ⟨L.n.sb, 0, none⟩)) := by rw [← inP_n I h ht]; exact hin_ct I h
      unfold inSH at hin
      have hrdw : Rd (wb L.n μ.n) ⟨L.n.wb, (l[i] - μ.n.fr).toNat, none⟩ (.int .i64 (m.head l[i] - 1)) := by rw [← hwd]; exact rd_ints (by omega)
      refine cd_skip (xt_then (cd_seq (cd_block (cd_seq (cd_drawh (ork [(0, 1), (1, 1), (2, 2), (3, 2), (4, 1), (5, 1), (6, 2)] .nil) (fun _ => true) mixed (by kernel_rfl) ?_)))))
      refine dr_v rfl (v_ld rfl ld27) ?_
      refine dr_v rfl (v_ld rfl ld34) ?_
      refine dp_v rfl (v_move rfl) (dp_v rfl (v_idx i (congrArg some hlv) rfl sl34 rfl hlt) (dr_v rfl (v_ld rfl ld3) ?_))
      refine dr_clr rfl rfl rfl en60 rfl (hin) ?_
      refine dp_v rfl (v_assign rfl) (dr_nil (nx_kp [2, 4, 8, 9, 10, 13, 14] rfl (nx_then (cd_seq (cd_drawh (ork [(0, 2), (1, 2), (2, 2), (3, 1), (4, 2), (5, 2), (6, 1), (7, 1), (8, 2), (9, 1), (10, 2)] .nil) (fun _ => true) mixed (by kernel_rfl) ?_)))))
      refine dp_v rfl (v_move rfl) (dp_v rfl (v_nilCheck rfl) (dp_v rfl (v_fieldAddr rfl fa117_0 rfl) (dr_v rfl (v_ld rfl ld34) ?_)))
      refine dp_v rfl (v_move rfl) (dp_v rfl (v_idx i (congrArg some hlv) rfl sl34 rfl hlt) (dr_v rfl (v_ld rfl ld3) ?_))
      refine dr_clr rfl rfl rfl en61 rfl (word_ct (l := L.n) (s := μ.n) ok (by omega) (by omega)) ?_
      refine dp_v rfl (v_nilCheck rfl) (dr_v rfl (v_ld rfl ld3) ?_)
      refine dp_v rfl (v_assign rfl) (dr_nil (nx_kp [2, 4, 8, 9, 10, 13, 14, 15] rfl (nx_then (cd_seq (cd_region (st_v (v_assign rfl) (st_nil (nx_then (cd_seq (cd_seq (cd_region (st_v (v_ld rfl ld27) ?_))))))))))))
      refine st_v (v_nilCheck rfl) (st_v (v_fieldAddr rfl fa100_0 rfl) (st_v (v_ld rfl ld22) ?_))
      refine st_v (v_move rfl) (st_v (v_ixo (m.head l[i] - 1).toNat (congrArg some hsv) rfl sl22 (by omega) ob.i) (st_v (v_ld rfl ld73) ?_))
      refine st_v (v_len (congrArg some hue) Try.underlying73) (st_v (v_move rfl) (st_nil (nx_kp [2, 4, 8, 9, 10, 13, 14, 15, 16, 72, 73, 74] rfl (nx_then (cd_use (hrow_n_c (L := L) (μ := μ) (S := S) (m := m) (b2 := b2) (b4 := b4) (b7 := b7) (b8 := b8) (b10 := b10) (mp := mp) (w0 := w0) (lv := lv) (M := M) (hr := pt b10 (cl [sv, fv, rv] 42) :: vec sv 3 1 i (ints ((m.pic roots).shapes.take i)) :: vec fv 34 1 i us :: Res.star (rowsI us ((m.pic roots).fields.take i)) :: hr) I h hlt ht hmet hu hMpre hM0 (.int .i64 (m.head l[i] - 1)) fun lv' rv' => ?_) (by repeat (first | exact trivial | refine ⟨rfl, ?_⟩ | refine ⟨congrArg some (congrArg (fun x => Value.slice x.1 x.2 x.3) rfl), ?_⟩)) (by unfold pcSH; simp only [List.cons_append, List.nil_append]; exact (by repeat (first | exact Sub.refl _ | exact Sub.nil _ | refine Sub.sel (by repeat (first | exact Sel.here | apply Sel.there)) ?_ | apply Sub.cons))))))))
      unfold pcSH
      simp only [List.cons_append, List.nil_append]
      refine xt_vform (v := rv') (n := (m.row l[i]).length) (l := ints (m.gr.prow M l[i])) (by repeat (first | exact Sel.here | apply Sel.there)) fun hvf => ?_
      have hone := VForm.one hvf
      refine xt_then (cd_draw (ork [(0, 2), (1, 1), (2, 2), (5, 2), (6, 1), (7, 2)] (.two 3 (.two 4 (ork [(10, 2), (8, 0), (9, 0), (11, 0), (12, 2), (13, 0)] .nil) 8 (ork [(4, 0), (10, 2), (9, 0), (11, 0), (12, 2), (13, 0)] .nil)) 8 (ork [(3, 0), (4, 0), (10, 2), (9, 0), (11, 0), (12, 2), (13, 0)] .nil))) (fun i => !(Nat.beq i 9 || Nat.beq i 11 || Nat.beq i 13)) [pt b10 (cl [sv, fv, rv] 42)] mixed (by kernel_rfl) ?_)
      refine dp_v rfl (v_fieldAddr rfl fa42_0 rfl) (dr_v rfl (v_ld rfl ld34) ?_)
      refine dp_v rfl (v_move rfl) (dp_v rfl (v_fieldAddr rfl fa42_1 rfl) (dr_v rfl (v_ld rfl ld40) ?_))
      refine dp_v rfl (v_move rfl) (dr_cutK (α := Value × Value) (fun x => [(2, .pointer (some ⟨b2, 0, none⟩)), (4, .pointer (some ⟨b4, 0, none⟩)), (8, .pointer (some ⟨b8, 0, none⟩)), (9, .func (.func 58) #[] #[.pointer (some ⟨b2, 0, none⟩), .pointer (some ⟨b7, 0, none⟩), .pointer (some ⟨b8, 0, none⟩)]), (10, .pointer (some ⟨b10, 0, none⟩)), (13, .int .i64 (i : Nat))]) (fun x => pt b10 (cl [x.1, x.2, rv] 42) :: vec x.1 3 1 (i + 1) (ints ((m.pic roots).shapes.take i) ++ [.int .i64 (m.head l[i] - 1)]) :: vec x.2 34 1 (i + 1) (us ++ [rv']) :: vec rv' 3 1 (m.row l[i]).length (ints (m.gr.prow M l[i])) :: Res.star (rowsI us ((m.pic roots).fields.take i)) :: (pcSH L μ b2 b7 b8 mp lv' ((m.gr.succ l[i]).foldl pmeet l) ++ ([sb L.y μ.y, wb L.y μ.y, tb L.y μ.y, sb L.n μ.n, wb L.n μ.n, tb L.n μ.n, wb L.o μ.o, S] ++ hr))) (fun x => ?_) (fun hcont => ?_))
      · skip
        refine nx_xt ?_
        obtain ⟨sv', fv'⟩ := x
        dsimp only
        unfold pcSH
        simp only [List.cons_append, List.nil_append]
        refine xt_normal_block (xt_then (cd_region (st_v (v_move rfl) (st_v (v_add rfl rfl (by unfold I64 at *; omega)) (st_v (v_assign rfl) (st_nil (nx_kp [2, 4, 8, 9, 10, 13] rfl (nx_xt (xt_restar (k' := rowsI (us ++ [rv']) ((m.pic roots).fields.take (i + 1))) (r := vec rv' 3 1 (m.row l[i]).length (ints (m.gr.prow M l[i]))) (k := rowsI us ((m.pic roots).fields.take i)) (by repeat (first | exact Sel.here | apply Sel.there)) (by repeat (first | exact Sel.here | apply Sel.there)) (by rw [hf1, rowsI_snoc (by rw [List.length_take]; omega), hAl]; exact (List.perm_append_singleton _ _).symm) ?_)))))))))
        rw [show ints ((m.pic roots).shapes.take i) ++ [.int .i64 (m.head l[i] - 1)] = ints ((m.pic roots).shapes.take (i + 1)) by rw [hs1]; simp [ints]]
        refine xt_ag (i + 1, (m.gr.succ l[i]).foldl pmeet l, lv', us ++ [rv'], sv', fv') ⟨by show i + 1 ≤ _; rw [hex, List.length_append]; omega, hmet2, hcl2, by simp [hul], snoc_all (P := fun (u : Value) (x : List Int) => VForm u x.length (ints x)) hul hform hfi (by rw [hAl]; exact hvf)⟩ (by show _ - _ < _ - _; omega) (by repeat (first | exact trivial | refine ⟨rfl, ?_⟩)) (by dsimp only; (try unfold pcSH); (try simp only [List.cons_append, List.nil_append]); exact (by repeat (first | exact Sub.refl _ | exact Sub.nil _ | refine Sub.sel (by repeat (first | exact Sel.here | apply Sel.there)) ?_ | apply Sub.cons)))
      · skip
        unfold pcSH at hcont
        simp only [List.cons_append, List.nil_append] at hcont
        refine dr_two rfl rfl ?_ ?_
        · skip
          refine st_buildSlice (cells := [.int .i64 (m.head l[i] - 1)]) rfl Try.underlying34 inf3 rfl rfl (by kernel_rfl) (ltn rfl) fun b104 => dr_nx ?_
          refine dr_two rfl rfl ?_ ?_
          · skip
            refine st_append (news := [.int .i64 (m.head l[i] - 1)]) rfl rfl Try.underlying34 inf3 rfl (ltn rfl) (by repeat (first | exact Sel.here | apply Sel.there)) rfl (fun j u hu => by repeat (first | exact at_here (rd_cl (by simpa using hu)) | apply at_there)) (ones rfl) (by omega) (by omega) (ltn rfl) fun sv' hsv' hv1 => dr_nx ?_
            refine dp_v rfl (v_fieldAddr rfl fa42_0 rfl) (dr_eff rfl (st_buildSlice (cells := [rv']) rfl Try.underlying40 inf34 rfl rfl (fill_one hone _ (by simp)) (ltn rfl) fun b109 => dr_nx ?_))
            refine dr_eff rfl (st_append (news := [rv']) rfl rfl Try.underlying40 inf34 rfl (ltn rfl) (by repeat (first | exact Sel.here | apply Sel.there)) rfl (fun j u hu => by repeat (first | exact at_here (rd_cl (by simpa using hu)) | apply at_there)) (fun x hx => by simp at hx; subst hx; exact hone) (by omega) (by omega) (ltn rfl) fun fv' hfv' hv2 => dr_nx ?_)
            refine dr_eff rfl (st_sto rfl rfl sz34 (dr_nx ?_))
            refine dp_v rfl (v_fieldAddr rfl fa42_1 rfl) (dr_eff rfl (st_sto rfl rfl sz40 (dr_nx ?_)))
            exact dr_nil (hcont (sv', fv') _ _ ⟨rfl, rfl, rfl, rfl, rfl, rfl, trivial⟩ (by repeat (first | exact Sub.refl _ | exact Sub.nil _ | refine Sub.sel (by repeat (first | exact Sel.here | apply Sel.there)) ?_ | apply Sub.cons)))
          · skip
            refine st_buildSlice (cells := [rv']) rfl Try.underlying40 inf34 rfl rfl (fill_one hone _ (by simp)) (ltn rfl) fun b109 => dr_nx ?_
            refine dr_eff rfl (st_append (news := [.int .i64 (m.head l[i] - 1)]) rfl rfl Try.underlying34 inf3 rfl (ltn rfl) (by repeat (first | exact Sel.here | apply Sel.there)) rfl (fun j u hu => by repeat (first | exact at_here (rd_cl (by simpa using hu)) | apply at_there)) (ones rfl) (by omega) (by omega) (ltn rfl) fun sv' hsv' hv1 => dr_nx ?_)
            refine dp_v rfl (v_fieldAddr rfl fa42_0 rfl) (dr_eff rfl (st_append (news := [rv']) rfl rfl Try.underlying40 inf34 rfl (ltn rfl) (by repeat (first | exact Sel.here | apply Sel.there)) rfl (fun j u hu => by repeat (first | exact at_here (rd_cl (by simpa using hu)) | apply at_there)) (fun x hx => by simp at hx; subst hx; exact hone) (by omega) (by omega) (ltn rfl) fun fv' hfv' hv2 => dr_nx ?_))
            refine dr_eff rfl (st_sto rfl rfl sz34 (dr_nx ?_))
            refine dp_v rfl (v_fieldAddr rfl fa42_1 rfl) (dr_eff rfl (st_sto rfl rfl sz40 (dr_nx ?_)))
            exact dr_nil (hcont (sv', fv') _ _ ⟨rfl, rfl, rfl, rfl, rfl, rfl, trivial⟩ (by repeat (first | exact Sub.refl _ | exact Sub.nil _ | refine Sub.sel (by repeat (first | exact Sel.here | apply Sel.there)) ?_ | apply Sub.cons)))
        · skip
          refine st_buildSlice (cells := [rv']) rfl Try.underlying40 inf34 rfl rfl (fill_one hone _ (by simp)) (ltn rfl) fun b109 => dr_nx ?_
          refine dr_eff rfl (st_buildSlice (cells := [.int .i64 (m.head l[i] - 1)]) rfl Try.underlying34 inf3 rfl rfl (by kernel_rfl) (ltn rfl) fun b104 => dr_nx ?_)
          refine dr_eff rfl (st_append (news := [.int .i64 (m.head l[i] - 1)]) rfl rfl Try.underlying34 inf3 rfl (ltn rfl) (by repeat (first | exact Sel.here | apply Sel.there)) rfl (fun j u hu => by repeat (first | exact at_here (rd_cl (by simpa using hu)) | apply at_there)) (ones rfl) (by omega) (by omega) (ltn rfl) fun sv' hsv' hv1 => dr_nx ?_)
          refine dp_v rfl (v_fieldAddr rfl fa42_0 rfl) (dr_eff rfl (st_append (news := [rv']) rfl rfl Try.underlying40 inf34 rfl (ltn rfl) (by repeat (first | exact Sel.here | apply Sel.there)) rfl (fun j u hu => by repeat (first | exact at_here (rd_cl (by simpa using hu)) | apply at_there)) (fun x hx => by simp at hx; subst hx; exact hone) (by omega) (by omega) (ltn rfl) fun fv' hfv' hv2 => dr_nx ?_))
          refine dr_eff rfl (st_sto rfl rfl sz34 (dr_nx ?_))
          refine dp_v rfl (v_fieldAddr rfl fa42_1 rfl) (dr_eff rfl (st_sto rfl rfl sz40 (dr_nx ?_)))
          exact dr_nil (hcont (sv', fv') _ _ ⟨rfl, rfl, rfl, rfl, rfl, rfl, trivial⟩ (by repeat (first | exact Sub.refl _ | exact Sub.nil _ | refine Sub.sel (by repeat (first | exact Sel.here | apply Sel.there)) ?_ | apply Sub.cons)))
    · skip
      have hbd := h.g.fbd ht; obtain ⟨uo, o1, o2⟩ := I.r.o; have e1 := o1.fr; have e2 := o1.ln; have ok := I.r.oko h.g; have hwd := I.r.wdo h.g ht
      have k1 := ok.us; have k2 := ok.fr; have k3 := ok.ws
      have hin : Reads Try.prog 60 #[.pointer (some ⟨L.mb, 0, none⟩), .int .i64 l[i]] (inSH L μ) (.pointer (some ⟨L.o.sb, 0, none⟩)) := by rw [← inP_o I h ht]; exact hin_ct I h
      unfold inSH at hin
      have hrdw : Rd (wb L.o μ.o) ⟨L.o.wb, (l[i] - μ.o.fr).toNat, none⟩ (.int .i64 (m.head l[i] - 1)) := by rw [← hwd]; exact rd_ints (by omega)
      refine cd_skip (xt_then (cd_seq (cd_block (cd_seq (cd_drawh (ork [(0, 1), (1, 1), (2, 2), (3, 2), (4, 1), (5, 1), (6, 2)] .nil) (fun _ => true) mixed (by kernel_rfl) ?_)))))
      refine dr_v rfl (v_ld rfl ld27) ?_
      refine dr_v rfl (v_ld rfl ld34) ?_
      refine dp_v rfl (v_move rfl) (dp_v rfl (v_idx i (congrArg some hlv) rfl sl34 rfl hlt) (dr_v rfl (v_ld rfl ld3) ?_))
      refine dr_clr rfl rfl rfl en60 rfl (hin) ?_
      refine dp_v rfl (v_assign rfl) (dr_nil (nx_kp [2, 4, 8, 9, 10, 13, 14] rfl (nx_then (cd_seq (cd_drawh (ork [(0, 2), (1, 2), (2, 2), (3, 1), (4, 2), (5, 2), (6, 1), (7, 1), (8, 2), (9, 1), (10, 2)] .nil) (fun _ => true) mixed (by kernel_rfl) ?_)))))
      refine dp_v rfl (v_move rfl) (dp_v rfl (v_nilCheck rfl) (dp_v rfl (v_fieldAddr rfl fa117_0 rfl) (dr_v rfl (v_ld rfl ld34) ?_)))
      refine dp_v rfl (v_move rfl) (dp_v rfl (v_idx i (congrArg some hlv) rfl sl34 rfl hlt) (dr_v rfl (v_ld rfl ld3) ?_))
      refine dr_clr rfl rfl rfl en61 rfl (word_ct (l := L.o) (s := μ.o) ok (by omega) (by omega)) ?_
      refine dp_v rfl (v_nilCheck rfl) (dr_v rfl (v_ld rfl ld3) ?_)
      refine dp_v rfl (v_assign rfl) (dr_nil (nx_kp [2, 4, 8, 9, 10, 13, 14, 15] rfl (nx_then (cd_seq (cd_region (st_v (v_assign rfl) (st_nil (nx_then (cd_seq (cd_seq (cd_region (st_v (v_ld rfl ld27) ?_))))))))))))
      refine st_v (v_nilCheck rfl) (st_v (v_fieldAddr rfl fa100_0 rfl) (st_v (v_ld rfl ld22) ?_))
      refine st_v (v_move rfl) (st_v (v_ixo (m.head l[i] - 1).toNat (congrArg some hsv) rfl sl22 (by omega) ob.i) (st_v (v_ld rfl ld73) ?_))
      refine st_v (v_len (congrArg some hue) Try.underlying73) (st_v (v_move rfl) (st_nil (nx_kp [2, 4, 8, 9, 10, 13, 14, 15, 16, 72, 73, 74] rfl (nx_then (cd_use (hrow_o_c (L := L) (μ := μ) (S := S) (m := m) (b2 := b2) (b4 := b4) (b7 := b7) (b8 := b8) (b10 := b10) (mp := mp) (w0 := w0) (lv := lv) (M := M) (hr := pt b10 (cl [sv, fv, rv] 42) :: vec sv 3 1 i (ints ((m.pic roots).shapes.take i)) :: vec fv 34 1 i us :: Res.star (rowsI us ((m.pic roots).fields.take i)) :: hr) I h hlt ht hmet hu hMpre hM0 (.int .i64 (m.head l[i] - 1)) fun lv' rv' => ?_) (by repeat (first | exact trivial | refine ⟨rfl, ?_⟩ | refine ⟨congrArg some (congrArg (fun x => Value.slice x.1 x.2 x.3) rfl), ?_⟩)) (by unfold pcSH; simp only [List.cons_append, List.nil_append]; exact (by repeat (first | exact Sub.refl _ | exact Sub.nil _ | refine Sub.sel (by repeat (first | exact Sel.here | apply Sel.there)) ?_ | apply Sub.cons))))))))
      unfold pcSH
      simp only [List.cons_append, List.nil_append]
      refine xt_vform (v := rv') (n := (m.row l[i]).length) (l := ints (m.gr.prow M l[i])) (by repeat (first | exact Sel.here | apply Sel.there)) fun hvf => ?_
      have hone := VForm.one hvf
      refine xt_then (cd_draw (ork [(0, 2), (1, 1), (2, 2), (5, 2), (6, 1), (7, 2)] (.two 3 (.two 4 (ork [(10, 2), (8, 0), (9, 0), (11, 0), (12, 2), (13, 0)] .nil) 8 (ork [(4, 0), (10, 2), (9, 0), (11, 0), (12, 2), (13, 0)] .nil)) 8 (ork [(3, 0), (4, 0), (10, 2), (9, 0), (11, 0), (12, 2), (13, 0)] .nil))) (fun i => !(Nat.beq i 9 || Nat.beq i 11 || Nat.beq i 13)) [pt b10 (cl [sv, fv, rv] 42)] mixed (by kernel_rfl) ?_)
      refine dp_v rfl (v_fieldAddr rfl fa42_0 rfl) (dr_v rfl (v_ld rfl ld34) ?_)
      refine dp_v rfl (v_move rfl) (dp_v rfl (v_fieldAddr rfl fa42_1 rfl) (dr_v rfl (v_ld rfl ld40) ?_))
      refine dp_v rfl (v_move rfl) (dr_cutK (α := Value × Value) (fun x => [(2, .pointer (some ⟨b2, 0, none⟩)), (4, .pointer (some ⟨b4, 0, none⟩)), (8, .pointer (some ⟨b8, 0, none⟩)), (9, .func (.func 58) #[] #[.pointer (some ⟨b2, 0, none⟩), .pointer (some ⟨b7, 0, none⟩), .pointer (some ⟨b8, 0, none⟩)]), (10, .pointer (some ⟨b10, 0, none⟩)), (13, .int .i64 (i : Nat))]) (fun x => pt b10 (cl [x.1, x.2, rv] 42) :: vec x.1 3 1 (i + 1) (ints ((m.pic roots).shapes.take i) ++ [.int .i64 (m.head l[i] - 1)]) :: vec x.2 34 1 (i + 1) (us ++ [rv']) :: vec rv' 3 1 (m.row l[i]).length (ints (m.gr.prow M l[i])) :: Res.star (rowsI us ((m.pic roots).fields.take i)) :: (pcSH L μ b2 b7 b8 mp lv' ((m.gr.succ l[i]).foldl pmeet l) ++ ([sb L.y μ.y, wb L.y μ.y, tb L.y μ.y, sb L.n μ.n, wb L.n μ.n, tb L.n μ.n, wb L.o μ.o, S] ++ hr))) (fun x => ?_) (fun hcont => ?_))
      · skip
        refine nx_xt ?_
        obtain ⟨sv', fv'⟩ := x
        dsimp only
        unfold pcSH
        simp only [List.cons_append, List.nil_append]
        refine xt_normal_block (xt_then (cd_region (st_v (v_move rfl) (st_v (v_add rfl rfl (by unfold I64 at *; omega)) (st_v (v_assign rfl) (st_nil (nx_kp [2, 4, 8, 9, 10, 13] rfl (nx_xt (xt_restar (k' := rowsI (us ++ [rv']) ((m.pic roots).fields.take (i + 1))) (r := vec rv' 3 1 (m.row l[i]).length (ints (m.gr.prow M l[i]))) (k := rowsI us ((m.pic roots).fields.take i)) (by repeat (first | exact Sel.here | apply Sel.there)) (by repeat (first | exact Sel.here | apply Sel.there)) (by rw [hf1, rowsI_snoc (by rw [List.length_take]; omega), hAl]; exact (List.perm_append_singleton _ _).symm) ?_)))))))))
        rw [show ints ((m.pic roots).shapes.take i) ++ [.int .i64 (m.head l[i] - 1)] = ints ((m.pic roots).shapes.take (i + 1)) by rw [hs1]; simp [ints]]
        refine xt_ag (i + 1, (m.gr.succ l[i]).foldl pmeet l, lv', us ++ [rv'], sv', fv') ⟨by show i + 1 ≤ _; rw [hex, List.length_append]; omega, hmet2, hcl2, by simp [hul], snoc_all (P := fun (u : Value) (x : List Int) => VForm u x.length (ints x)) hul hform hfi (by rw [hAl]; exact hvf)⟩ (by show _ - _ < _ - _; omega) (by repeat (first | exact trivial | refine ⟨rfl, ?_⟩)) (by dsimp only; (try unfold pcSH); (try simp only [List.cons_append, List.nil_append]); exact (by repeat (first | exact Sub.refl _ | exact Sub.nil _ | refine Sub.sel (by repeat (first | exact Sel.here | apply Sel.there)) ?_ | apply Sub.cons)))
      · skip
        unfold pcSH at hcont
        simp only [List.cons_append, List.nil_append] at hcont
        refine dr_two rfl rfl ?_ ?_
        · skip
          refine st_buildSlice (cells := [.int .i64 (m.head l[i] - 1)]) rfl Try.underlying34 inf3 rfl rfl (by kernel_rfl) (ltn rfl) fun b104 => dr_nx ?_
          refine dr_two rfl rfl ?_ ?_
          · skip
            refine st_append (news := [.int .i64 (m.head l[i] - 1)]) rfl rfl Try.underlying34 inf3 rfl (ltn rfl) (by repeat (first | exact Sel.here | apply Sel.there)) rfl (fun j u hu => by repeat (first | exact at_here (rd_cl (by simpa using hu)) | apply at_there)) (ones rfl) (by omega) (by omega) (ltn rfl) fun sv' hsv' hv1 => dr_nx ?_
            refine dp_v rfl (v_fieldAddr rfl fa42_0 rfl) (dr_eff rfl (st_buildSlice (cells := [rv']) rfl Try.underlying40 inf34 rfl rfl (fill_one hone _ (by simp)) (ltn rfl) fun b109 => dr_nx ?_))
            refine dr_eff rfl (st_append (news := [rv']) rfl rfl Try.underlying40 inf34 rfl (ltn rfl) (by repeat (first | exact Sel.here | apply Sel.there)) rfl (fun j u hu => by repeat (first | exact at_here (rd_cl (by simpa using hu)) | apply at_there)) (fun x hx => by simp at hx; subst hx; exact hone) (by omega) (by omega) (ltn rfl) fun fv' hfv' hv2 => dr_nx ?_)
            refine dr_eff rfl (st_sto rfl rfl sz34 (dr_nx ?_))
            refine dp_v rfl (v_fieldAddr rfl fa42_1 rfl) (dr_eff rfl (st_sto rfl rfl sz40 (dr_nx ?_)))
            exact dr_nil (hcont (sv', fv') _ _ ⟨rfl, rfl, rfl, rfl, rfl, rfl, trivial⟩ (by repeat (first | exact Sub.refl _ | exact Sub.nil _ | refine Sub.sel (by repeat (first | exact Sel.here | apply Sel.there)) ?_ | apply Sub.cons)))
          · skip
            refine st_buildSlice (cells := [rv']) rfl Try.underlying40 inf34 rfl rfl (fill_one hone _ (by simp)) (ltn rfl) fun b109 => dr_nx ?_
            refine dr_eff rfl (st_append (news := [.int .i64 (m.head l[i] - 1)]) rfl rfl Try.underlying34 inf3 rfl (ltn rfl) (by repeat (first | exact Sel.here | apply Sel.there)) rfl (fun j u hu => by repeat (first | exact at_here (rd_cl (by simpa using hu)) | apply at_there)) (ones rfl) (by omega) (by omega) (ltn rfl) fun sv' hsv' hv1 => dr_nx ?_)
            refine dp_v rfl (v_fieldAddr rfl fa42_0 rfl) (dr_eff rfl (st_append (news := [rv']) rfl rfl Try.underlying40 inf34 rfl (ltn rfl) (by repeat (first | exact Sel.here | apply Sel.there)) rfl (fun j u hu => by repeat (first | exact at_here (rd_cl (by simpa using hu)) | apply at_there)) (fun x hx => by simp at hx; subst hx; exact hone) (by omega) (by omega) (ltn rfl) fun fv' hfv' hv2 => dr_nx ?_))
            refine dr_eff rfl (st_sto rfl rfl sz34 (dr_nx ?_))
            refine dp_v rfl (v_fieldAddr rfl fa42_1 rfl) (dr_eff rfl (st_sto rfl rfl sz40 (dr_nx ?_)))
            exact dr_nil (hcont (sv', fv') _ _ ⟨rfl, rfl, rfl, rfl, rfl, rfl, trivial⟩ (by repeat (first | exact Sub.refl _ | exact Sub.nil _ | refine Sub.sel (by repeat (first | exact Sel.here | apply Sel.there)) ?_ | apply Sub.cons)))
        · skip
          refine st_buildSlice (cells := [rv']) rfl Try.underlying40 inf34 rfl rfl (fill_one hone _ (by simp)) (ltn rfl) fun b109 => dr_nx ?_
          refine dr_eff rfl (st_buildSlice (cells := [.int .i64 (m.head l[i] - 1)]) rfl Try.underlying34 inf3 rfl rfl (by kernel_rfl) (ltn rfl) fun b104 => dr_nx ?_)
          refine dr_eff rfl (st_append (news := [.int .i64 (m.head l[i] - 1)]) rfl rfl Try.underlying34 inf3 rfl (ltn rfl) (by repeat (first | exact Sel.here | apply Sel.there)) rfl (fun j u hu => by repeat (first | exact at_here (rd_cl (by simpa using hu)) | apply at_there)) (ones rfl) (by omega) (by omega) (ltn rfl) fun sv' hsv' hv1 => dr_nx ?_)
          refine dp_v rfl (v_fieldAddr rfl fa42_0 rfl) (dr_eff rfl (st_append (news := [rv']) rfl rfl Try.underlying40 inf34 rfl (ltn rfl) (by repeat (first | exact Sel.here | apply Sel.there)) rfl (fun j u hu => by repeat (first | exact at_here (rd_cl (by simpa using hu)) | apply at_there)) (fun x hx => by simp at hx; subst hx; exact hone) (by omega) (by omega) (ltn rfl) fun fv' hfv' hv2 => dr_nx ?_))
          refine dr_eff rfl (st_sto rfl rfl sz34 (dr_nx ?_))
          refine dp_v rfl (v_fieldAddr rfl fa42_1 rfl) (dr_eff rfl (st_sto rfl rfl sz40 (dr_nx ?_)))
          exact dr_nil (hcont (sv', fv') _ _ ⟨rfl, rfl, rfl, rfl, rfl, rfl, trivial⟩ (by repeat (first | exact Sub.refl _ | exact Sub.nil _ | refine Sub.sel (by repeat (first | exact Sel.here | apply Sel.there)) ?_ | apply Sub.cons)))
  · skip
    have hge2 : ¬ i < l.length := by simpa using hc3
    have hlM : l = M := by rw [← hcl]; exact (Gr.close_end _ (by omega)).symm
    have hge : i = l.length := by omega
    have e1 : (m.pic roots).shapes.take i = (m.pic roots).shapes := List.take_of_length_le (by rw [p1, List.length_map, ← hlM]; omega)
    have e2 : (m.pic roots).fields.take i = (m.pic roots).fields := List.take_of_length_le (by rw [p2, List.length_map, ← hlM]; omega)
    rw [e1, e2, hge]
    have hc := hend us sv fv lv (by rw [← hlM]; omega) hform
    unfold pcSH at hc
    simp only [List.cons_append, List.nil_append] at hc
    rw [← hlM] at hc
    refine cd_exit (xt_exit_then (xt_exit_then (xt_exit_block ?_)))
    exact xt_use hc
end
end Go.Proofs.Ytmhmpjgkkpbnnaa
namespace Go.Proofs.Ytmhmpjgkkpbnnaa
open Go.Ck Fx Go.Hm Go.Hm.AM
attribute [local irreducible] St Cd Xt Nx DrL LsW
section
variable {L : MemL} {μ : Mem} {S R : Res} {m : AM} {ly ln lf : List Int} {φ : Int → Option Nat} {A : Store} {v u : Value} {roots l : List Int} {t : Int} {w0 : World} {hr : SH} {Q : Exit → Act → World → Prop} {b2 b4 b7 b8 b10 mp : Nat} {lv : Value}
set_option maxHeartbeats 2000000 in
set_option maxRecDepth 100000 in
/-- The roots of a picture. -/
theorem hroots_c (I : MI L μ S m) (h : AM.Good m ly ln lf φ A) (hv : RowI R v roots) (hrl : roots.length ≤ 1000000) (hro : ∀ r ∈ roots, r = 0 ∨ r ∈ ly ∨ r ∈ ln)
    (hend : ∀ lv rv, Xt ⟨Try.prog, none, 114, [], w0⟩ .normal Q [(2, .pointer (some ⟨b2, 0, none⟩)), (4, .pointer (some ⟨b4, 0, none⟩)), (8, .pointer (some ⟨b8, 0, none⟩)), (9, .func (.func 58) #[] #[.pointer (some ⟨b2, 0, none⟩), .pointer (some ⟨b7, 0, none⟩), .pointer (some ⟨b8, 0, none⟩)]), (10, .pointer (some ⟨b10, 0, none⟩))] (pt b10 (cl [.slice none 0 0, .slice none 0 0, rv] 42) :: vec rv 3 1 roots.length (ints (roots.map fun r => 1 + idx (m.gr.met m.T roots) r)) :: (pcSH L μ b2 b7 b8 mp lv (roots.foldl pmeet []) ++ ([sb L.y μ.y, wb L.y μ.y, tb L.y μ.y, sb L.n μ.n, wb L.n μ.n, tb L.n μ.n, wb L.o μ.o, S] ++ R :: hr)))) :
    Cd ⟨Try.prog, none, 114, [], w0⟩ (cdr (cdl (cdr (cdr (cdr (cdr (cdr (cdr (fbody Try.f19))))))))) Q [(2, .pointer (some ⟨b2, 0, none⟩)), (4, .pointer (some ⟨b4, 0, none⟩)), (8, .pointer (some ⟨b8, 0, none⟩)), (9, .func (.func 58) #[] #[.pointer (some ⟨b2, 0, none⟩), .pointer (some ⟨b7, 0, none⟩), .pointer (some ⟨b8, 0, none⟩)]), (10, .pointer (some ⟨b10, 0, none⟩)), (29, v), (30, .int .i64 roots.length), (31, .int .i64 0)] (pt b10 (cl [.slice none 0 0, .slice none 0 0, .slice none 0 0] 42) :: (pcSH L μ b2 b7 b8 mp (.slice none 0 0) [] ++ ([sb L.y μ.y, wb L.y μ.y, tb L.y μ.y, sb L.n μ.n, wb L.n μ.n, tb L.n μ.n, wb L.o μ.o, S] ++ R :: hr))) := by
  have hT := h.g.T_le
  have hobj : ∀ r ∈ roots, r = 0 ∨ AM.Obj ly ln lf r := fun r hr' => (hro r hr').imp id fun g => g.imp id .inl
  have hp : ∀ i, PM (AM.Obj ly ln lf) ((roots.take i).foldl pmeet []) := fun i => PM.meets _ PM.nil fun x hx => hobj x (List.mem_of_mem_take hx)
  have hpa : PM (AM.Obj ly ln lf) (roots.foldl pmeet []) := PM.meets _ PM.nil hobj
  obtain ⟨hMp, hMk⟩ := met_pm h hpa
  have hM0 := obj_ne h hMp
  refine cd_vecnil 3 1 ?_
  obtain ⟨ra, rcp, hv1, _⟩ := id hv
  refine cd_block (cd_loop (σ := Nat × Value × Value) (fun q => [(2, .pointer (some ⟨b2, 0, none⟩)), (4, .pointer (some ⟨b4, 0, none⟩)), (8, .pointer (some ⟨b8, 0, none⟩)), (9, .func (.func 58) #[] #[.pointer (some ⟨b2, 0, none⟩), .pointer (some ⟨b7, 0, none⟩), .pointer (some ⟨b8, 0, none⟩)]), (10, .pointer (some ⟨b10, 0, none⟩)), (29, v), (30, .int .i64 roots.length), (31, .int .i64 (q.1 : Nat))]) (fun q => pt b10 (cl [.slice none 0 0, .slice none 0 0, q.2.2] 42) :: vec q.2.2 3 1 q.1 (ints ((roots.map fun r => 1 + idx (m.gr.met m.T roots) r).take q.1)) :: (pcSH L μ b2 b7 b8 mp q.2.1 ((roots.take q.1).foldl pmeet []) ++ ([sb L.y μ.y, wb L.y μ.y, tb L.y μ.y, sb L.n μ.n, wb L.n μ.n, tb L.n μ.n, wb L.o μ.o, S] ++ R :: hr))) (fun q => q.1 ≤ roots.length) (fun q => roots.length - q.1) (0, .slice none 0 0, .slice none 0 0) (Nat.zero_le _) ⟨rfl, rfl, rfl, rfl, rfl, rfl, rfl, rfl, trivial⟩ (by unfold pcSH; simp only [List.cons_append, List.nil_append]; exact (by repeat (first | exact Sub.refl _ | exact Sub.nil _ | refine Sub.sel (by repeat (first | exact Sel.here | apply Sel.there)) ?_ | apply Sub.cons))) ?_)
  rintro ⟨i, lv, rv⟩ hi
  dsimp only at hi ⊢
  have hml := h.g.pm_len (hp i)
  unfold pcSH
  simp only [List.cons_append, List.nil_append]
  refine cd_seq (cd_region (st_v (v_lss rfl rfl) (st_nil (nx_then (cd_seq (cd_cond rfl (fun hc => ?_) (fun hc => ?_)))))))
  · skip
    have hlt : i < roots.length := by simpa using hc
    obtain ⟨b, o, cp', hv2, hrd⟩ := hv.at hlt
    have hri := hro _ (List.getElem_mem hlt)
    have hse := seen_root h hri
    have htk : (roots.take (i + 1)).foldl pmeet [] = pmeet ((roots.take i).foldl pmeet []) roots[i] := by rw [List.take_succ_eq_append_getElem hlt, pmeets_snoc]
    have hpre : ∃ k, roots.foldl pmeet [] = (roots.take (i + 1)).foldl pmeet [] ++ k := by
      conv => enter [1, k]; lhs; rw [← List.take_append_drop (i + 1) roots, List.foldl_append]
      exact pmeets_pre _ _
    have hidx : idx (pmeet ((roots.take i).foldl pmeet []) roots[i]) roots[i] = idx (m.gr.met m.T roots) roots[i] := idx_pre (pre_trans (by rw [← htk]; exact hpre) hMk) pmeet_has hM0
    have hix := idx_lt (l := m.gr.met m.T roots) (t := roots[i])
    have hta : (roots.map fun r => 1 + idx (m.gr.met m.T roots) r).take (i + 1) = (roots.map fun r => 1 + idx (m.gr.met m.T roots) r).take i ++ [1 + idx (m.gr.met m.T roots) roots[i]] := take_map_succ hlt
    have hMl := h.g.pm_len hMp
    refine cd_skip (xt_then (cd_seq (cd_block (cd_seq (cd_region (st_v (v_ixo i (congrArg some hv2) rfl sl34 rfl hlt) (st_v (v_ld rfl ld3) ?_)))))))
    refine st_v (v_assign rfl) (st_nil (nx_kp [2, 4, 8, 9, 10, 12, 29, 30, 31] rfl (nx_then (cd_draw (ork [(0, 2), (1, 1), (2, 2), (3, 2), (4, 0), (5, 0), (6, 0), (7, 2), (8, 0)] .nil) (fun i => !(Nat.beq i 6 || Nat.beq i 8)) [pt b10 (cl [.slice none 0 0, .slice none 0 0, rv] 42)] mixed (by kernel_rfl) ?_))))
    refine dp_v rfl (v_fieldAddr rfl fa42_2 rfl) (dr_v rfl (v_ld rfl ld34) ?_)
    refine dp_v rfl (v_move rfl) (dp_v rfl (v_move rfl) (dr_eff rfl (st_cl rfl rfl en58 rfl (hpmeet_ct (b1 := b2) (b2 := b7) (b3 := b8) (mp := mp) (lv := lv) I h (hp i) (hobj _ (List.getElem_mem hlt))) ?_)))
    rintro v' h' ⟨rfl, lv', rfl⟩
    rw [hse, hidx]
    unfold pcSH
    simp only [List.cons_append, List.nil_append]
    refine dr_nx ?_
    refine dr_eff rfl (st_buildSlice (cells := [.int .i64 (1 + idx (m.gr.met m.T roots) roots[i])]) rfl Try.underlying34 inf3 rfl rfl (by kernel_rfl) (ltn rfl) fun b40 => dr_nx ?_)
    refine dr_eff rfl (st_append (news := [.int .i64 (1 + idx (m.gr.met m.T roots) roots[i])]) rfl rfl Try.underlying34 inf3 rfl (ltn rfl) (by repeat (first | exact Sel.here | apply Sel.there)) rfl (fun j u hu => by repeat (first | exact at_here (rd_cl (by simpa using hu)) | apply at_there)) (ones rfl) (by omega) (by omega) (ltn rfl) fun rv' hrv' hv1' => dr_nx ?_)
    refine dp_v rfl (v_fieldAddr rfl fa42_2 rfl) (dr_eff rfl (st_sto rfl rfl sz34 (dr_nx ?_)))
    refine dr_nil (nx_kp [2, 4, 8, 9, 10, 29, 30, 31] rfl (nx_xt (xt_normal_block (xt_then (cd_region (st_v (v_add rfl rfl (by unfold I64 at *; omega)) (st_v (v_move rfl) (st_nil (nx_kp [2, 4, 8, 9, 10, 29, 30, 31] rfl (nx_xt ?_))))))))))
    rw [show ints ((roots.map fun r => 1 + idx (m.gr.met m.T roots) r).take i) ++ [.int .i64 (1 + idx (m.gr.met m.T roots) roots[i])] = ints ((roots.map fun r => 1 + idx (m.gr.met m.T roots) r).take (i + 1)) by rw [hta]; simp [ints], ← htk]
    refine xt_ag (i + 1, lv', rv') hlt (by show _ - _ < _ - _; omega)
  · skip
    have hge : i = roots.length := by
      have : roots.length ≤ i := by simpa using hc
      omega
    have e2 : (roots.take i).foldl pmeet [] = roots.foldl pmeet [] := by rw [List.take_of_length_le (by omega)]
    rw [e2, hge, List.take_of_length_le (by simp)]
    have hc := hend lv rv
    unfold pcSH at hc
    simp only [List.cons_append, List.nil_append] at hc
    refine cd_exit (xt_exit_then (xt_exit_then (xt_exit_block ?_)))
    exact xt_use hc
set_option maxHeartbeats 2000000 in
set_option maxRecDepth 100000 in
theorem hpicture_ct (I : MI L μ S m) (h : AM.Good m ly ln lf φ A) (hv : RowI R v roots) (hrl : roots.length ≤ 1000000) :
    Ct Try.prog 19 #[.pointer (some ⟨L.mb, 0, none⟩), v] (memSH L μ S ++ [R]) fun u h' => ∃ sv fv rv us, u = .tuple #[.agg #[sv, fv, rv], .int .i64 (m.pictured roots).2] ∧ PF sv fv rv us (m.pictured roots).1 ∧ h' = pR sv fv rv us (m.pictured roots).1 :: (memSH L μ S ++ [R]) := by
  have hT := h.g.T_le
  obtain ⟨ra, rcp, hv1, _⟩ := id hv
  have hrt := I.r.rooted h.g roots
  unfold AM.pictured memSH
  refine ct_of (n := 114) Try.func19 rfl rfl (len rfl) fun hr w0 => ?_
  simp only [List.cons_append, List.nil_append]
  refine cd_seq (cd_region (st_bx rfl rfl fun b2 => ?_))
  refine st_alc al42 fun b4 => ?_
  refine st_v (v_assign rfl) (st_nil (nx_kp [1, 2, 4, 5] rfl (nx_then (cd_seq (cd_seq (cd_region (st_v (v_ld rfl ld27) ?_)))))))
  refine st_v (v_move rfl) (st_clr rfl rfl en57 rfl (rooted_ct (L := L) (μ := μ) (I.r.oky h.g) (I.r.okn h.g) I.yn hv hrl) ?_)
  rw [hrt]
  refine st_v (v_assign rfl) (st_nil (nx_kp [1, 2, 4, 5, 6] rfl (nx_then (cd_seq (cd_region (st_v (v_move rfl) (st_v (v_neq rfl rfl) (st_nil (nx_kp [1, 2, 4, 5, 6, 24] rfl (nx_then (cd_cond rfl (fun hc => ?_) (fun hc => ?_))))))))))))
  · skip
    rw [if_pos (show m.rooted roots ≠ 0 by simpa using hc)]
    refine cd_vecnil 3 1 ?_
    refine cd_vecnil 3 1 ?_
    refine cd_vecnil 34 1 ?_
    refine cd_star0 (cd_pack [vec (.slice none 0 0) 3 1 0 [], vec (.slice none 0 0) 3 1 0 [], vec (.slice none 0 0) 34 1 0 [], Res.star (rowsI [] [])] ?_)
    refine cd_seq (cd_region (st_v (v_build (cells := [.slice none 0 0, .slice none 0 0, .slice none 0 0]) rfl (fun _ => by kernel_rfl)) ?_))
    refine st_v (v_move rfl) (st_stoW rfl rfl sz42 rfl rfl ?_)
    refine st_v (v_assign rfl) (st_nil (nx_kp [1, 2, 4, 5] rfl (nx_then (cd_ret (xt_ret_then ?_)))))
    exact xt_retV (.cellN rfl ld42 rfl (by repeat (first | exact Sel.here | apply Sel.there)) (.tmp rfl .nil)) ⟨.slice none 0 0, .slice none 0 0, .slice none 0 0, [], rfl, ⟨.inl ⟨rfl, rfl, rfl⟩, .inl ⟨rfl, rfl, rfl⟩, .inl ⟨rfl, rfl, rfl⟩, rfl, fun j u l hu => by simp at hu⟩, rfl⟩ (by repeat (first | exact Sub.refl _ | exact Sub.nil _ | refine Sub.sel (by repeat (first | exact Sel.here | apply Sel.there)) ?_ | apply Sub.cons))
  · skip
    have hro : m.rooted roots = 0 := by simpa using hc
    rw [if_neg (show ¬ m.rooted roots ≠ 0 by rw [hro]; simp)]
    refine cd_skip (xt_then (cd_seq (cd_region ?_)))
    have hrr := h.rooted hro
    have hpa : PM (AM.Obj ly ln lf) (roots.foldl pmeet []) := PM.meets _ PM.nil (h.root_obj hro)
    refine st_makeMap (ltn rfl) fun mp => ?_
    refine st_alc al97 fun b7 => ?_
    refine st_sto rfl rfl sz97 ?_
    refine st_nil (nx_kp [1, 2, 4, 5, 7] rfl (nx_then (cd_seq (cd_region (st_alc al34 fun b8 => ?_)))))
    refine st_nil (nx_then (cd_seq (cd_region (st_v (v_makeFunc rfl rfl) (st_v (v_assign rfl) (st_nil (nx_kp [1, 2, 4, 5, 8, 9] rfl (nx_then (cd_seq (cd_region (st_alc al42 fun b10 => ?_)))))))))))
    refine st_nil (nx_then (cd_seq (cd_seq (cd_region (st_v (v_move rfl) (st_v (v_len (congrArg some hv1) Try.underlying34) (st_v (v_move rfl) (st_nil (nx_kp [2, 4, 5, 8, 9, 10, 29, 30, 31] rfl (nx_then (cd_vecnil 3 1 ?_)))))))))))
    refine cd_use (hroots_c (L := L) (μ := μ) (S := S) (m := m) (R := R) (v := v) (b2 := b2) (b4 := b4) (b7 := b7) (b8 := b8) (b10 := b10) (mp := mp) (w0 := w0) (roots := roots) (hr := pt b4 (cl [.slice none 0 0, .slice none 0 0, .slice none 0 0] 42) :: knR L μ :: hr) I h hv hrl hrr fun lv rv => ?_) (by repeat (first | exact trivial | refine ⟨rfl, ?_⟩)) (by unfold pcSH; simp only [List.cons_append, List.nil_append]; exact (by repeat (first | exact Sub.refl _ | exact Sub.nil _ | refine Sub.sel (by repeat (first | exact Sel.here | apply Sel.there)) ?_ | apply Sub.cons)))
    unfold pcSH
    simp only [List.cons_append, List.nil_append]
    refine xt_then (cd_seq (cd_seq (cd_region (st_v (v_assign rfl) (st_nil (nx_then (cd_use (hobjs_c (L := L) (μ := μ) (S := S) (m := m) (b2 := b2) (b4 := b4) (b7 := b7) (b8 := b8) (b10 := b10) (mp := mp) (w0 := w0) (roots := roots) (lv := lv) (rv := rv) (hr := vec rv 3 1 roots.length (ints (roots.map fun r => 1 + idx (m.gr.met m.T roots) r)) :: pt b4 (cl [.slice none 0 0, .slice none 0 0, .slice none 0 0] 42) :: knR L μ :: R :: hr) I h hpa fun us sv fv lw hul hform => ?_) (by repeat (first | exact trivial | refine ⟨rfl, ?_⟩)) (by unfold pcSH; simp only [List.cons_append, List.nil_append]; exact (by repeat (first | exact Sub.refl _ | exact Sub.nil _ | refine Sub.sel (by repeat (first | exact Sel.here | apply Sel.there)) ?_ | apply Sub.cons))))))))))
    unfold pcSH
    simp only [List.cons_append, List.nil_append]
    obtain ⟨p1, p2, p3⟩ := pic_parts m roots
    have e1 : (m.pic roots).shapes.length = (m.gr.met m.T roots).length := by rw [p1, List.length_map]
    have e2 : (m.pic roots).fields.length = (m.gr.met m.T roots).length := by rw [p2, List.length_map]
    have e3 : (m.pic roots).roots.length = roots.length := by rw [p3, List.length_map]
    refine xt_vform (v := sv) (n := (m.gr.met m.T roots).length) (l := ints (m.pic roots).shapes) (by repeat (first | exact Sel.here | apply Sel.there)) fun f1 => ?_
    refine xt_vform (v := fv) (n := (m.gr.met m.T roots).length) (l := us) (by repeat (first | exact Sel.here | apply Sel.there)) fun f2 => ?_
    refine xt_vform (v := rv) (n := roots.length) (l := ints (roots.map fun r => 1 + idx (m.gr.met m.T roots) r)) (by repeat (first | exact Sel.here | apply Sel.there)) fun f3 => ?_
    refine xt_then (cd_seq (cd_region (st_v (v_loadW rfl ld42 rfl (by repeat (first | exact Sel.here | apply Sel.there))) ?_)))
    have o1 := VForm.one f1; have o2 := VForm.one f2; have o3 := VForm.one f3
    refine st_stoW rfl rfl sz42 rfl (by simp only [List.all_cons, List.all_nil, o1, o2, o3]; rfl) ?_
    refine st_v (v_assign rfl) (st_nil (nx_kp [4, 5] rfl (nx_then (cd_ret (xt_pack [vec sv 3 1 (m.pic roots).shapes.length (ints (m.pic roots).shapes), vec rv 3 1 (m.pic roots).roots.length (ints (m.pic roots).roots), vec fv 34 1 (m.pic roots).fields.length us, Res.star (rowsI us (m.pic roots).fields)] ?_ (by rw [e1, e2, e3, p3]; repeat (first | exact Pk.nil | (apply Pk.cons; (repeat (first | exact Sel.here | apply Sel.there))))))))))
    exact xt_retV (.cellN rfl ld42 rfl (by repeat (first | exact Sel.here | apply Sel.there)) (.tmp rfl .nil)) ⟨sv, fv, rv, us, rfl, ⟨by rw [e1]; exact f1, by rw [e3, p3]; exact f3, by rw [e2]; exact f2, by rw [e2]; exact hul, hform⟩, rfl⟩ (by repeat (first | exact Sub.refl _ | exact Sub.nil _ | refine Sub.sel (by repeat (first | exact Sel.here | apply Sel.there)) ?_ | apply Sub.cons))
end
end Go.Proofs.Ytmhmpjgkkpbnnaa
