/-
  A memory that is the plain machine; Minor and Flip. Conditions: what the heap holds, and that the machine is in order.
  The methods of a memory that is the plain machine: Alloc, Shape, Get, Set, Step, Busy, Room, New. Conditions: what the heap holds, and that the machine is in order.
  Check, of a memory that is in order: rows of truths, one space after the other. Conditions: what the heap holds, and that the machine is in order.
  Check, of a memory that is in order: the objects of a space. Conditions: what the heap holds, and that the machine is in order.
  Check, of a memory that is in order: the spaces, and the whole. Conditions: what the heap holds, and that the machine is in order.
  Check, of a memory that is in order. Conditions: what the heap holds, and that the machine is in order.
  New; the chapter's example: its shapes, and what happens to its machine. Conditions: what the heap holds.
-/
import Derived.Test.YtmhmpjgkkpbnnaaM8
import Derived.Test.YtmhmpjgkkpbnnaaM2
namespace Go.Proofs.Ytmhmpjgkkpbnnaa
open Go.Ck Fx Go.Hm Go.Hm.AM
attribute [local irreducible] St Cd Xt Nx DrL LsW

/-- Where a memory lies that is the machine. -/
structure MI (L : MemL) (μ : Mem) (S : Res) (m : AM) : Prop where
  r : Rel false μ m
  yn : L.y.sb ≠ L.n.sb
  yo : L.y.sb ≠ L.o.sb
  no : L.n.sb ≠ L.o.sb
  shp : Shp S L.vs m.sh
section
variable {L : MemL} {μ : Mem} {S R : Res} {m : AM} {ly ln lf : List Int} {φ : Int → Option Nat} {A : Store} {v : Value} {roots : List Int}
theorem MI.shp' (I : MI L μ S m) : Shp S L.vs μ.sh := by rw [I.r.sh]; exact I.shp
theorem MI.le (I : MI L μ S m) (h : AM.Good m ly ln lf φ A) : 0 ≤ μ.le ∧ μ.le ≤ 1000000 := by
  have := h.g.oldle; have := h.g.sz.H1; rw [I.r.le]; omega
theorem nodup_map_inj {α β : Type} {f : α → β} : ∀ {l : List α}, l.Nodup → (∀ x ∈ l, ∀ y ∈ l, f x = f y → x = y) → (l.map f).Nodup
  | [], _, _ => List.nodup_nil
  | a :: l, hn, hi => by
    rw [List.nodup_cons] at hn
    rw [List.map_cons, List.nodup_cons]
    refine ⟨fun hm => ?_, nodup_map_inj hn.2 fun x hx y hy => hi x (List.mem_cons_of_mem _ hx) y (List.mem_cons_of_mem _ hy)⟩
    obtain ⟨b, hb, he⟩ := List.mem_map.1 hm
    have := hi b (List.mem_cons_of_mem _ hb) a (List.mem_cons_self ..) he
    subst this; exact hn.1 hb
theorem rem_len (h : AM.Good m ly ln lf φ A) : m.rem.length ≤ 1000000 := by
  have h1 : m.remP.Nodup := by
    unfold remP
    refine nodup_map_inj h.rn fun x hx z hz he => ?_
    obtain ⟨x1, j, x2, x3⟩ := h.rm x hx
    obtain ⟨y1, k, y2, y3⟩ := h.rm z hz
    have hj := (List.getElem?_eq_some_iff.1 x3).1
    have hk := (List.getElem?_eq_some_iff.1 y3).1
    have := h.g.same (.inr (.inl x1)) (.inr (.inl y1)) (p := x.1 + 1 + x.2) (by omega) (by unfold AM.size; omega) (by omega) (by unfold AM.size; omega)
    exact Prod.ext this (by omega)
  have h2 := nodup_le m.H.toNat m.base m.remP h1 fun p hp => by
    obtain ⟨t, ht, hp'⟩ := h.remP_mem hp
    have := pl_bd hp'; have := h.g.obd ht; have := h.g.oldle; omega
  have := h.g.sz.H1
  have h3 : m.remP.length = m.rem.length := by simp [remP]
  omega
theorem MI.kn (I : MI L μ S m) (h : AM.Good m ly ln lf φ A) : μ.kn.length ≤ 1000000 ∧ ∀ k ∈ μ.kn, (μ.n.fr : Int) ≤ k.1 ∧ 0 ≤ k.2 ∧ k.1 + 1 + k.2 < (μ.n.fr : Int) + μ.n.ws.length := by
  rw [I.r.kn]
  refine ⟨rem_len h, fun k hk => ?_⟩
  obtain ⟨h1, j, h2, h3⟩ := h.rm k hk
  have hj := (List.getElem?_eq_some_iff.1 h3).1
  have := h.g.obd h1; have := h.g.oldle; have := I.r.n.fr; have := I.r.n.ln
  unfold AM.size at *
  exact ⟨by omega, by omega, by omega⟩
theorem fwdRow_o (b : Bool) : ∀ (k i : Nat) (μ : Mem) (l : List Int), (Mem.fwdRow b k i μ l).1.o = μ.o
  | 0, _, _, _ => rfl
  | k + 1, i, μ, l => by rw [Mem.fwdRow, fwdRow_o b k, fwd_o]
theorem fwdNs_o (b : Bool) : ∀ (ks : List Nat) (μ : Mem), (Mem.fwdNs b ks μ).o = μ.o
  | [], _ => rfl
  | k :: ks, μ => by rw [Mem.fwdNs, fwdNs_o b ks]; exact fwd_o ..
theorem look_o : ∀ (k a : Nat) (μ : Mem), (Mem.look k a μ).o = μ.o
  | 0, _, _ => rfl
  | k + 1, a, μ => by
    rw [Mem.look]
    split
    · rw [look_o k]; exact fwdNs_o ..
    · rfl
theorem minor_o (μ : Mem) (roots : List Int) : (μ.minor roots).1.o = μ.o := by
  show (Mem.look μ.n.ws.length μ.n.us (Mem.fwdNs false μ.kidxs (μ.minor1 roots).1)).o = μ.o
  rw [look_o, fwdNs_o]; exact fwdRow_o ..
set_option maxHeartbeats 2000000 in
set_option maxRecDepth 100000 in
theorem minor_c (I : MI L μ S m) (h : AM.Good m ly ln lf φ A) (hv : RowI R v roots) (hrl : roots.length ≤ 1000000) : Ct Try.prog 34 #[.pointer (some ⟨L.mb, 0, none⟩), v] (memSH L μ S ++ [R]) fun u h' => ∃ sl L' μ', u = .tuple #[sl, .int .i64 (m.minor roots).2.1] ∧
    MI L' μ' S (m.minor roots).2.2 ∧ L'.mb = L.mb ∧ h' = vec sl 3 1 (m.minor roots).1.length (ints (m.minor roots).1) :: (memSH L' μ' S ++ [R]) := by
  have oy := I.r.oky h.g; have on := I.r.okn h.g; have hS := I.shp'; have hl := I.r.shl h.g; have hle := I.le h
  have h1y := oy.us; have h2y := oy.fr; have h3y := oy.ws; have h1n := on.us; have h2n := on.fr; have h3n := on.ws
  have hro := I.r.rooted h.g roots
  obtain ⟨hk1, hk2⟩ := I.kn h
  unfold memSH
  refine ct_of (n := 32) Try.func34 rfl rfl (len rfl) fun hr w0 => ?_
  simp only [List.cons_append, List.nil_append]
  refine cd_seq (cd_region (st_v (v_assign rfl) (st_v (v_assign rfl) (st_nil (nx_then (cd_seq (cd_seq (cd_region (st_v (v_move rfl) (st_v (v_move rfl) (st_clr rfl rfl en57 rfl (rooted_ct (L := L) (μ := μ) oy on I.yn hv hrl) ?_)))))))))))
  rw [hro]
  refine st_v (v_assign rfl) (st_nil (nx_kp [0, 1, 4, 5, 6] rfl (nx_then (cd_seq (cd_region (st_v (v_move rfl) (st_v (v_neq rfl rfl) (st_nil (nx_kp [0, 1, 4, 5, 6, 11] rfl (nx_then (cd_cond rfl (fun c1 => ?_) (fun c1 => ?_))))))))))))
  · skip
    have hne : m.minorErr roots = m.rooted roots ∧ m.minorErr roots ≠ 0 := by
      have h0 : m.rooted roots ≠ 0 := by simpa using c1
      unfold minorErr; rw [if_pos h0]; exact ⟨rfl, h0⟩
    refine cd_seq (cd_region (st_v (v_move rfl) (st_v (v_assign rfl) (st_v (v_assign rfl) (st_nil (nx_kp [0, 1, 4, 5] rfl (nx_then (cd_ret (xt_ret_then (xt_vecnil 3 1 ?_))))))))))
    rw [← hne.1, minor_no hne.2]
    refine xt_ret rfl ⟨.slice none 0 0, L, μ, rfl, I, rfl, rfl⟩ ?_
    simp only [List.cons_append, List.nil_append]
    exact (by repeat (first | exact Sub.refl _ | exact Sub.nil _ | refine Sub.sel (by repeat (first | exact Sel.here | apply Sel.there)) ?_ | apply Sub.cons))
  · skip
    have h0 : m.rooted roots = 0 := by simpa using c1
    have hr := h.rooted h0
    have hnd := I.r.needed h hr
    refine cd_skip (xt_then (cd_seq (cd_seq (cd_drawh (ork [(0, 2), (1, 2), (2, 1), (3, 2), (4, 2), (5, 2), (6, 1), (7, 2), (8, 2), (9, 1), (10, 2), (11, 2), (12, 2), (13, 1), (14, 2), (15, 2)] .nil) (fun _ => true) mixed (by kernel_rfl) ?_))))
    refine dp_v rfl (v_move rfl) (dp_v rfl (v_move rfl) (dr_clr rfl rfl rfl en85 rfl (needed_ct (L := L) (μ := μ) (S := S) oy on hS hl (I.r.spy h.g) hv hrl hk1 hk2) ?_))
    rw [hnd]
    refine dp_v rfl (v_move rfl) (dp_v rfl (v_nilCheck rfl) (dp_v rfl (v_fieldAddr rfl fa100_2 rfl) (dr_v rfl (v_ld rfl ld95) ?_)))
    refine dp_v rfl (v_nilCheck rfl) (dp_v rfl (v_fieldAddr rfl fa117_0 rfl) (dr_clr rfl rfl rfl en83 rfl (room_ct (l := L.n) (s := μ.n) on) ?_))
    refine dp_v rfl (v_move rfl) (dp_v rfl (v_nilCheck rfl) (dp_v rfl (v_fieldAddr rfl fa100_8 rfl) (dr_v rfl (v_ld rfl ld3) ?_)))
    refine dp_v rfl (v_sub rfl rfl (by unfold I64 at *; omega)) (dp_v rfl (v_gtr rfl rfl) (dr_nil (nx_kp [0, 1, 4, 5, 28] rfl (nx_then ?_))))
    have e1 := I.r.n.us; have e2 := I.r.n.ln; have e3 := I.r.le
    refine cd_cond rfl (fun c2 => ?_) (fun c2 => ?_)
    · skip
      have hc2 : (μ.n.ws.length : Int) - μ.n.us - μ.le < m.needed roots := by simpa using c2
      have hne : m.minorErr roots = 14 := by
        unfold minorErr; rw [if_neg (by rw [h0]; simp), if_pos (by omega)]
      refine cd_seq (cd_region (st_v (v_assign rfl) (st_v (v_assign rfl) (st_nil (nx_kp [0, 1, 4, 5] rfl (nx_then (cd_ret (xt_ret_then (xt_vecnil 3 1 ?_)))))))))
      rw [minor_no (show m.minorErr roots ≠ 0 by rw [hne]; decide), hne]
      refine xt_ret rfl ⟨.slice none 0 0, L, μ, rfl, I, rfl, rfl⟩ ?_
      simp only [List.cons_append, List.nil_append]
      exact (by repeat (first | exact Sub.refl _ | exact Sub.nil _ | refine Sub.sel (by repeat (first | exact Sel.here | apply Sel.there)) ?_ | apply Sub.cons))
    · skip
      have hc2 : ¬ (μ.n.ws.length : Int) - μ.n.us - μ.le < m.needed roots := by simpa using c2
      have hne : m.minorErr roots = 0 := by
        unfold minorErr; rw [if_neg (by rw [h0]; simp), if_neg (by omega)]
      obtain ⟨q1, q2, q3, q4, q5⟩ := I.r.minorRun h hr (minorErr_ok hne).2
      have hmr : m.minor roots = ((m.minorRun roots).1, 0, (m.minorRun roots).2) := by unfold AM.minor; rw [if_neg (by rw [hne]; simp)]
      obtain ⟨ln2, φ2, g2, ⟨g3, _⟩, g4, _⟩ := h.minor hne
      rw [hmr] at g3 g4
      have hypos : 0 < μ.y.st.length := by have := I.r.y.st; have := I.r.y.ln; have := h.g.sz.Y0; omega
      refine cd_skip (xt_then (cd_seq (cd_region (st_v (v_move rfl) (st_v (v_move rfl) (st_cl rfl rfl en86 rfl (minor_ct (L := L) (μ := μ) (S := S) (R := R) oy on hS hl (I.r.spy h.g) hle hv hrl hk1 hk2 q4 q5 hypos q3) ?_))))))
      rintro u h' ⟨vk, rfl⟩
      unfold minSH
      simp only [List.cons_append, List.nil_append]
      refine st_v (v_assign rfl) (st_v (v_assign rfl) (st_nil (nx_kp [4, 5] rfl (nx_then (cd_ret (xt_ret rfl ⟨u, { L with vk := vk }, (μ.minor roots).1, by rw [hmr]; rfl, by rw [hmr]; exact ⟨q1, I.yn, I.yo, I.no, by rw [g4]; exact I.shp⟩, rfl, rfl⟩ ?_))))))
      have g3' : (m.minorRun roots).1.length = roots.length := g3
      rw [hmr, minor_o]
      simp only
      rw [q2, ← g3']
      simp only [List.cons_append, List.nil_append]
      exact (by repeat (first | exact Sub.refl _ | exact Sub.nil _ | refine Sub.sel (by repeat (first | exact Sel.here | apply Sel.there)) ?_ | apply Sub.cons))
/-- What stays while words are forwarded out of the former half. -/
structure OPre (μ0 μ : Mem) (sh : List (List Bool)) : Prop where
  o : μ.o = μ0.o
  y : μ.y = μ0.y
  n : μ.n.Ok
  sh : μ.sh = sh
  le : 0 ≤ μ.le ∧ μ.le ≤ 1000000
  kn : μ.kn = μ0.kn
theorem OPre.fwd {μ0 μ : Mem} {sh : List (List Bool)} {t : Int} (h : OPre μ0 μ sh) (oo : μ0.o.Ok) (po : SpOk sh μ0.o) (hr : μ.roomFor true t) : OPre μ0 (μ.fwd μ.o true t).2 sh := by
  have hs : (μ.src true).Ok := by show μ.o.Ok; rw [h.o]; exact oo
  have hp : SpOk μ.sh (μ.src true) := by show SpOk _ μ.o; rw [h.o, h.sh]; exact po
  refine ⟨by rw [fwd_o]; exact h.o, by rw [fwd_y]; exact h.y, fwd_nok h.n hs hp hr, by rw [fwd_sh]; exact h.sh, ?_, by rw [fwd_kn]; exact h.kn⟩
  have hle := h.le
  unfold Mem.fwd
  split
  · rename_i hb
    split
    · exact hle
    · rename_i hm
      have h2 := (hr hb hm).2 rfl
      have e : μ.src true = μ.o := rfl
      rw [e] at h2
      exact ⟨by show 0 ≤ μ.le - _; omega, by show μ.le - _ ≤ 1000000; omega⟩
  · exact hle
theorem flip_end {μ1 : Mem} (r1 : Rel false μ1 (m.minor roots).2.2) (h : AM.Good m ly ln lf φ A) (hbz : m.busy = false) (he : m.minorErr roots = 0) :
    Rel false (Mem.fwdRow true (m.minor roots).1.length 0 (Mem.turn μ1) (m.minor roots).1).1 (m.flip roots).2.2 ∧ (Mem.fwdRow true (m.minor roots).1.length 0 (Mem.turn μ1) (m.minor roots).1).2 = (m.flip roots).1 ∧
      Mem.fwdRowOk true (m.minor roots).1.length 0 (Mem.turn μ1) (m.minor roots).1 ∧ (m.flip roots).2.1 = 0 ∧ (m.flip roots).2.2.sh = m.sh ∧ (m.flip roots).1.length = (m.minor roots).1.length ∧ SpOk m.sh μ1.n ∧ (Mem.turn μ1).o.Ok ∧ (Mem.turn μ1).n.Ok ∧ 0 ≤ (Mem.turn μ1).le ∧ (Mem.turn μ1).le ≤ 1000000 := by
  obtain ⟨ln1, φ1, g1, ⟨g2, g3⟩, s1, s2, s3, s4, s5, s6, s7, s8⟩ := h.minor he
  have hlf : lf = [] := h.g.nb hbz
  subst hlf
  have hrem := minor_rem he
  have hT := g1.turn hrem
  have rT := r1.turn g1 (s5.trans hbz)
  have hg := hT.g
  obtain ⟨q1, q2, q3⟩ := rT.fwdRow (A := A) (φ := φ1) (m.minor roots).1 [] ⟨hg, hT.s⟩ (fun hq => by cases hq) (fun _ => rfl) (fun v hv ho => by
    obtain ⟨i, hi, rfl⟩ := List.getElem_of_mem hv
    have hF : (m.minor roots).2.2.turn.isF (m.minor roots).1[i] = true := ho
    rcases (g3 i (by omega) hi).1 with g | g
    · rw [hg.isFn (.inl g)] at hF; cases hF
    · simpa using g)
  have hfe : m.flip roots = ((AM.fwdL false (m.minor roots).1 (m.minor roots).2.2.turn).1, 0, (AM.fwdL false (m.minor roots).1 (m.minor roots).2.2.turn).2) := by
    unfold AM.flip
    rw [if_neg (by rw [hbz]; simp)]
    simp only
    rw [if_neg (by rw [minor_err he]; simp)]
  obtain ⟨lnf, lff, φf, gf, ⟨gf1, _⟩, gf2, gf3, _⟩ := h.flip hbz he
  have hsp := r1.spn g1.g
  rw [r1.sh, s1] at hsp
  have hle : 0 ≤ (Mem.turn μ1).le ∧ (Mem.turn μ1).le ≤ 1000000 := by
    have := hg.oldle; have := hg.sz.H1; have e := rT.le; omega
  refine ⟨?_, ?_, ?_, gf2, gf3, gf1.trans g2.symm, hsp, rT.oko hg, rT.okn hg, hle.1, hle.2⟩
  · rw [hfe]; exact q2
  · rw [hfe]; exact q1
  · exact q3
set_option maxHeartbeats 4000000 in
set_option maxRecDepth 100000 in
theorem flip_c (I : MI L μ S m) (h : AM.Good m ly ln lf φ A) (hv : RowI R v roots) (hrl : roots.length ≤ 1000000) : Ct Try.prog 43 #[.pointer (some ⟨L.mb, 0, none⟩), v] (memSH L μ S ++ [R]) fun u h' => ∃ sl L' μ', u = .tuple #[sl, .int .i64 (m.flip roots).2.1] ∧
    MI L' μ' S (m.flip roots).2.2 ∧ L'.mb = L.mb ∧ h' = vec sl 3 1 (m.flip roots).1.length (ints (m.flip roots).1) :: (memSH L' μ' S ++ [R]) := by
  have hmc := minor_c I h hv hrl
  have hle0 := I.le h
  unfold memSH at hmc ⊢
  refine ct_of (n := 86) Try.func43 rfl rfl (len rfl) fun hr w0 => ?_
  simp only [List.cons_append, List.nil_append] at hmc ⊢
  refine cd_seq (cd_region (st_v (v_assign rfl) (st_v (v_assign rfl) (st_nil (nx_then (cd_seq (cd_seq (cd_region (st_v (v_move rfl) (st_clr rfl rfl en67 rfl (made_ct (L := L) (μ := μ)) ?_))))))))))
  refine st_v (v_not rfl) (st_v (v_move rfl) (st_vg rfl rfl (v_move rfl) (st_vg rfl rfl (v_nilCheck rfl) (st_vg rfl rfl (v_fieldAddr rfl fa100_5 rfl) (st_vg rfl rfl (v_ld rfl ld4) ?_)))))
  refine st_v (v_pick_false rfl rfl) (st_nil (nx_kp [0, 1, 4, 5, 17] rfl (nx_then ?_)))
  rw [I.r.bu]
  refine cd_cond rfl (fun c1 => ?_) (fun c1 => ?_)
  · skip
    have hb : m.busy = true := by simpa using c1
    have he : m.flip roots = ([], 12, m) := by unfold AM.flip; rw [if_pos hb]
    refine cd_seq (cd_region (st_v (v_assign rfl) (st_v (v_assign rfl) (st_nil (nx_kp [0, 1, 4, 5] rfl (nx_then (cd_ret (xt_ret_then (xt_vecnil 3 1 ?_)))))))))
    rw [he]
    refine xt_ret rfl ⟨.slice none 0 0, L, μ, rfl, I, rfl, rfl⟩ ?_
    simp only [List.cons_append, List.nil_append]
    exact (by repeat (first | exact Sub.refl _ | exact Sub.nil _ | refine Sub.sel (by repeat (first | exact Sel.here | apply Sel.there)) ?_ | apply Sub.cons))
  · skip
    have hb : m.busy = false := by simpa using c1
    rw [← I.r.bu]
    refine cd_skip (xt_then (cd_seq (cd_region (st_v (v_move rfl) (st_v (v_move rfl) (st_cl rfl rfl en34 rfl (hmc) ?_))))))
    rintro v' h' ⟨sl, L1, μ1, rfl, I1, hL1, rfl⟩
    simp only [List.cons_append, List.nil_append]
    rw [← hL1]
    refine st_v (v_move rfl) (st_v (v_extract rfl rfl) (st_v (v_extract rfl rfl) (st_v (v_assign rfl) (st_v (v_assign rfl) (st_nil (nx_kp [0, 4, 5, 6, 7] rfl (nx_then (cd_seq (cd_seq (cd_region (st_v (v_move rfl) (st_v (v_neq rfl rfl) (st_nil (nx_kp [0, 4, 5, 6, 7, 25] rfl (nx_then (cd_cond rfl (fun c2 => ?_) (fun c2 => ?_)))))))))))))))))
    · skip
      have hne : m.minorErr roots ≠ 0 := by
        intro h0
        rw [minor_err h0] at c2; simp at c2
      have hno := minor_no hne
      have hfe : m.flip roots = ([], m.minorErr roots, m) := by
        unfold AM.flip
        rw [if_neg (by rw [hb]; simp)]
        simp only
        rw [hno, if_pos hne]
      refine cd_seq (cd_region (st_v (v_move rfl) (st_v (v_assign rfl) (st_v (v_assign rfl) (st_nil (nx_kp [0, 4, 5, 6] rfl (nx_then (cd_ret (xt_ret_then ?_)))))))))
      rw [hfe]
      rw [hno] at I1 ⊢
      refine xt_vecnil 3 1 (xt_ret rfl ⟨.slice none 0 0, L1, μ1, rfl, I1, rfl, rfl⟩ ?_)
      simp only [List.cons_append, List.nil_append]
      exact (by repeat (first | exact Sub.refl _ | exact Sub.nil _ | refine Sub.sel (by repeat (first | exact Sel.here | apply Sel.there)) ?_ | apply Sub.cons))
    · skip
      have hne : m.minorErr roots = 0 := by
        by_cases h0 : m.minorErr roots = 0
        · exact h0
        · rw [minor_no h0] at c2; simp at c2; exact absurd c2 h0
      obtain ⟨ln1, φ1, g1, ⟨g2, _⟩, gs, gY, gH, _, gb, _⟩ := h.minor hne
      have oy := I1.r.oky g1.g; have on := I1.r.okn g1.g; have oo := I1.r.oko g1.g
      have h1y := oy.us; have h2y := oy.fr; have h3y := oy.ws; have h1n := on.us; have h2n := on.fr; have h3n := on.ws; have h2o := oo.fr; have h3o := oo.ws
      refine cd_skip (xt_then (cd_seq (cd_drawh (ork [(0, 2), (1, 2), (2, 2), (3, 2), (4, 2), (5, 1), (6, 2), (7, 2), (8, 2), (9, 1), (10, 2), (11, 2), (12, 0), (13, 2), (14, 2), (15, 0)] .nil) (fun i => !(Nat.beq i 12 || Nat.beq i 15)) mixed (by kernel_rfl) ?_)))
      refine dp_v rfl (v_move rfl) (dp_v rfl (v_move rfl) (dp_v rfl (v_move rfl) (dp_v rfl (v_nilCheck rfl) (dp_v rfl (v_fieldAddr rfl fa100_3 rfl) (dr_v rfl (v_ld rfl ld95) ?_)))))
      refine dp_v rfl (v_move rfl) (dp_v rfl (v_nilCheck rfl) (dp_v rfl (v_fieldAddr rfl fa100_2 rfl) (dr_v rfl (v_ld rfl ld95) ?_)))
      refine dp_v rfl (v_nilCheck rfl) (dp_v rfl (v_fieldAddr rfl fa100_2 rfl) (dr_eff rfl (st_sto rfl rfl sz95 (dr_nx ?_))))
      refine dp_v rfl (v_nilCheck rfl) (dp_v rfl (v_fieldAddr rfl fa100_3 rfl) (dr_eff rfl (st_sto rfl rfl sz95 (dr_nx ?_))))
      refine dr_nil (nx_kp [0, 4, 5, 6] rfl (nx_then (cd_seq (cd_drawh (ork [(0, 2), (1, 2), (2, 2), (3, 2), (4, 2), (5, 2), (6, 2), (7, 1), (8, 2), (9, 2), (10, 2), (11, 1), (12, 2), (13, 2), (14, 2), (15, 1), (16, 2), (17, 2), (18, 2), (19, 1), (21, 2), (22, 2)] (.two 20 (ork [(23, 0), (24, 2), (25, 2), (26, 0), (27, 2), (28, 2), (29, 0), (30, 2), (31, 2), (32, 0)] .nil) 23 (ork [(24, 2), (25, 2)] (.two 20 (ork [(26, 0), (27, 2), (28, 2), (29, 0), (30, 2), (31, 2), (32, 0)] .nil) 26 (ork [(27, 2), (28, 2)] (.two 20 (ork [(29, 0), (30, 2), (31, 2), (32, 0)] .nil) 29 (ork [(20, 0), (30, 2), (31, 2), (32, 0)] .nil))))))) (fun i => !(Nat.beq i 23 || Nat.beq i 26 || Nat.beq i 29 || Nat.beq i 32)) mixed (by kernel_rfl) ?_))))
      refine dp_v rfl (v_move rfl) (dp_v rfl (v_move rfl) (dp_v rfl (v_move rfl) (dp_v rfl (v_move rfl) (dp_v rfl (v_move rfl) (dp_v rfl (v_nilCheck rfl) (dp_v rfl (v_fieldAddr rfl fa100_2 rfl) (dr_v rfl (v_ld rfl ld95) ?_)))))))
      refine dp_v rfl (v_nilCheck rfl) (dp_v rfl (v_fieldAddr rfl fa117_0 rfl) (dp_v rfl (v_fieldAddr rfl fa115_1 rfl) (dr_v rfl (v_ld rfl ld3) ?_)))
      refine dp_v rfl (v_move rfl) (dp_v rfl (v_nilCheck rfl) (dp_v rfl (v_fieldAddr rfl fa100_3 rfl) (dr_v rfl (v_ld rfl ld95) ?_)))
      refine dp_v rfl (v_nilCheck rfl) (dp_v rfl (v_fieldAddr rfl fa117_0 rfl) (dp_v rfl (v_fieldAddr rfl fa115_2 rfl) (dr_v rfl (v_ld rfl ld3) ?_)))
      refine dp_v rfl (v_nilCheck rfl) (dp_v rfl (v_fieldAddr rfl fa100_5 rfl) (dr_cutK (α := Nat) (fun _ => [(0, .pointer (some ⟨L1.mb, 0, none⟩)), (6, sl)]) (fun mp => vec sl 3 1 (m.minor roots).1.length (ints (m.minor roots).1) :: (memSH { L1 with n := L1.o, o := L1.n, mvb := mp } (Mem.turn μ1) S ++ R :: hr)) (fun mp => ?_) (fun hcont => ?_)))
      · skip
        refine nx_then ?_
        obtain ⟨z1, z2, z3, z4, z5, z6, z7, z8, z9, z10, z11⟩ := flip_end I1.r h hb hne
        have hs2 : Shp S L1.vs m.sh := by rw [← gs]; exact I1.shp
        have hsl2 : ShOk m.sh := by rw [← gs, ← I1.r.sh]; exact I1.r.shl g1.g
        rw [z4]
        generalize hl0 : (m.minor roots).1 = l0 at *
        refine cd_vform (v := sl) (E := 3) (sz := 1) (n := l0.length) (l := ints l0) (by repeat (first | exact Sel.here | apply Sel.there)) fun huf => ?_
        obtain ⟨ua, ucp, hus⟩ : ∃ a cp, sl = .slice a l0.length cp := by
          rcases huf with ⟨h1, h2, _⟩ | ⟨b, cp, h1⟩
          · exact ⟨none, 0, by rw [h1, h2]⟩
          · exact ⟨_, cp, h1⟩
        have hl1 : l0.length ≤ 1000000 := by rw [g2]; exact hrl
        unfold memSH
        simp only [List.cons_append, List.nil_append]
        refine cd_seq (cd_seq (cd_region (st_v (v_move rfl) (st_v (v_len (congrArg some hus) Try.underlying34) (st_v (v_move rfl) (st_nil (nx_kp [0, 6, 71, 72] rfl (nx_then (cd_block (cd_lp (σ := Nat × Mem × List Int) (fun q => [(0, .pointer (some ⟨L1.mb, 0, none⟩)), (6, sl), (71, .int .i64 l0.length), (72, .int .i64 (q.1 : Nat))]) (fun q => (fwSHO { L1 with n := L1.o, o := L1.n, mvb := mp } q.2.1 S ++ (vec sl 3 1 l0.length (ints q.2.2) :: sb L1.y μ1.y :: wb L1.y μ1.y :: tb L1.y μ1.y :: knR L1 μ1 :: R :: hr))) (fun q => q.1 ≤ l0.length ∧ q.2.2.length = l0.length ∧ OPre (Mem.turn μ1) q.2.1 m.sh ∧ Mem.fwdRowOk true (l0.length - q.1) q.1 q.2.1 q.2.2 ∧ Mem.fwdRow true (l0.length - q.1) q.1 q.2.1 q.2.2 = Mem.fwdRow true l0.length 0 (Mem.turn μ1) l0) (fun q => l0.length - q.1) (0, Mem.turn μ1, l0) ⟨Nat.zero_le _, rfl, ⟨rfl, rfl, z9, I1.r.sh.trans gs, ⟨z10, z11⟩, rfl⟩, z3, rfl⟩ ?_))))))))))
        rintro ⟨i, ν, l⟩ ⟨hi, hll, hO, hok, hrun⟩
        dsimp only at hi hll hO hok hrun ⊢
        have hOo := hO.o
        unfold fwSHO
        simp only [List.cons_append, List.nil_append]
        refine cd_seq (cd_region (st_v (v_lss rfl rfl) (st_nil (nx_then (cd_seq (cd_cond rfl (fun hc => ?_) (fun hc => ?_)))))))
        · skip
          have hlt : i < l0.length := by simpa using hc
          have hil : i < l.length := by omega
          rw [show l0.length - i = (l0.length - (i + 1)) + 1 by omega] at hok hrun
          obtain ⟨hrm, hok'⟩ := hok
          refine cd_open (v := sl) (E := 3) (sz := 1) (n := l0.length) (l := ints l) (by repeat (first | exact Sel.here | apply Sel.there)) (fun _ h0 _ => by omega) fun rb rcp rj ho => ?_
          refine cd_skip (xt_then (cd_seq (cd_block (cd_seq (cd_region (st_v (v_move rfl) (st_v (v_assign rfl) (st_nil (nx_kp [0, 6, 8, 71, 72] rfl (nx_then (cd_drawh (ork [(0, 2), (1, 2), (2, 2), (3, 2), (4, 1), (5, 2), (6, 2), (7, 2), (8, 0)] .nil) (fun i => !(Nat.beq i 8)) mixed (by kernel_rfl) ?_)))))))))))
          refine dp_v rfl (v_move rfl) (dp_v rfl (v_move rfl) (dp_v rfl (v_nilCheck rfl) (dp_v rfl (v_fieldAddr rfl fa100_3 rfl) (dr_v rfl (v_ld rfl ld95) ?_))))
          refine dp_v rfl (v_move rfl) (dp_v rfl (v_move rfl) (dp_v rfl (v_idx i (congrArg some ho.1) rfl sl34 rfl hlt) ?_))
          have hls : (ints l ++ rj)[i]? = some (.int .i64 (l.getD i 0)) := by
            rw [List.getElem?_append_left (by rw [ints_length]; exact hil), getD_lt hil]; simp [ints, hil]
          have hOf := hO.fwd z8 z7 hrm
          refine dr_eff rfl (st_cl rfl rfl en81 rfl (fwdO_ct (L := { L1 with n := L1.o, o := L1.n, mvb := mp }) (μ := ν) (S := S) (t := l.getD i 0) (b := rb) (off := i) (T := 3) hls (by rw [hOo]; exact z8) hO.n (by rw [hO.sh]; exact hs2) (by rw [hO.sh]; exact hsl2) (by rw [hO.sh, hOo]; exact z7) hO.le (fun h1 h2 => (hrm h1 h2).1)) ?_)
          rintro v' h' ⟨rfl, rfl⟩
          unfold fwSHO
          simp only [List.cons_append, List.nil_append]
          rw [set_ints hil]
          refine dr_nx ?_
          refine dr_nil (nx_kp [0, 6, 71, 72] rfl (nx_xt (xt_normal_block (xt_then (cd_region (st_v (v_add rfl rfl (by unfold I64 at *; omega)) (st_v (v_move rfl) (st_nil (nx_kp [0, 6, 71, 72] rfl (nx_xt (xt_shut (E := 3) (l' := ints (l.set i (ν.fwd ν.o true (l.getD i 0)).1)) ho (by simp [ints]) (by repeat (first | exact Sel.here | apply Sel.there)) ?_)))))))))))
          exact xt_ag (i + 1, (ν.fwd ν.o true (l.getD i 0)).2, l.set i (ν.fwd ν.o true (l.getD i 0)).1) ⟨hlt, by simp [hll], hOf, hok', hrun⟩ (by show _ - _ < _ - _; omega)
        · skip
          have hfin : Mem.fwdRow true l0.length 0 (Mem.turn μ1) l0 = (ν, l) := by
            have h0 : l0.length ≤ i := by simpa using hc
            rw [← hrun, show l0.length - i = 0 by omega]; rfl
          rw [hfin] at z1 z2
          have hye : ν.y = μ1.y := hO.y
          have hke : ν.kn = μ1.kn := hO.kn
          refine cd_exit (xt_exit_then (xt_exit_then (xt_exit_block (xt_then (cd_seq (cd_region (st_v (v_move rfl) (st_v (v_assign rfl) (st_v (v_assign rfl) (st_nil (nx_kp [4, 5] rfl (nx_then (cd_ret (xt_ret rfl ⟨sl, { L1 with n := L1.o, o := L1.n, mvb := mp }, ν, rfl, ⟨z1, I1.yo, I1.yn, fun e => I1.no e.symm, by rw [z5]; exact hs2⟩, rfl, rfl⟩ ?_))))))))))))))
          rw [← z2] at z6 ⊢
          simp only at z6 ⊢
          rw [z6, hye]
          have hkr : knR { L1 with n := L1.o, o := L1.n, mvb := mp } ν = knR L1 μ1 := by unfold knR; rw [hke]
          rw [hkr]
          simp only [List.cons_append, List.nil_append]
          exact (by repeat (first | exact Sub.refl _ | exact Sub.nil _ | refine Sub.sel (by repeat (first | exact Sel.here | apply Sel.there)) ?_ | apply Sub.cons))
      · skip
        unfold memSH at hcont
        simp only [List.cons_append, List.nil_append] at hcont
        refine dr_two rfl rfl ?_ ?_
        · skip
          refine st_makeMap (ltn rfl) fun mp => dr_nx ?_
          refine dr_eff rfl (st_sto rfl rfl sz4 (dr_nx ?_))
          refine dp_v rfl (v_nilCheck rfl) (dp_v rfl (v_fieldAddr rfl fa100_6 rfl) (dr_eff rfl (st_sto rfl rfl sz3 (dr_nx ?_))))
          refine dp_v rfl (v_nilCheck rfl) (dp_v rfl (v_fieldAddr rfl fa100_8 rfl) (dr_eff rfl (st_sto rfl rfl sz3 (dr_nx ?_))))
          refine dp_v rfl (v_nilCheck rfl) (dp_v rfl (v_fieldAddr rfl fa100_7 rfl) (dr_eff rfl (st_sto rfl rfl sz97 (dr_nx ?_))))
          exact dr_nil (hcont mp _ _ ⟨rfl, rfl, trivial⟩ (by repeat (first | exact Sub.refl _ | exact Sub.nil _ | refine Sub.sel (by repeat (first | exact Sel.here | apply Sel.there)) ?_ | apply Sub.cons)))
        · skip
          refine st_sto rfl rfl sz4 (dr_nx ?_)
          refine dp_v rfl (v_nilCheck rfl) (dp_v rfl (v_fieldAddr rfl fa100_6 rfl) (dr_two rfl rfl ?_ ?_))
          · skip
            refine st_makeMap (ltn rfl) fun mp => dr_nx ?_
            refine dr_eff rfl (st_sto rfl rfl sz3 (dr_nx ?_))
            refine dp_v rfl (v_nilCheck rfl) (dp_v rfl (v_fieldAddr rfl fa100_8 rfl) (dr_eff rfl (st_sto rfl rfl sz3 (dr_nx ?_))))
            refine dp_v rfl (v_nilCheck rfl) (dp_v rfl (v_fieldAddr rfl fa100_7 rfl) (dr_eff rfl (st_sto rfl rfl sz97 (dr_nx ?_))))
            exact dr_nil (hcont mp _ _ ⟨rfl, rfl, trivial⟩ (by repeat (first | exact Sub.refl _ | exact Sub.nil _ | refine Sub.sel (by repeat (first | exact Sel.here | apply Sel.there)) ?_ | apply Sub.cons)))
          · skip
            refine st_sto rfl rfl sz3 (dr_nx ?_)
            refine dp_v rfl (v_nilCheck rfl) (dp_v rfl (v_fieldAddr rfl fa100_8 rfl) (dr_two rfl rfl ?_ ?_))
            · skip
              refine st_makeMap (ltn rfl) fun mp => dr_nx ?_
              refine dr_eff rfl (st_sto rfl rfl sz3 (dr_nx ?_))
              refine dp_v rfl (v_nilCheck rfl) (dp_v rfl (v_fieldAddr rfl fa100_7 rfl) (dr_eff rfl (st_sto rfl rfl sz97 (dr_nx ?_))))
              exact dr_nil (hcont mp _ _ ⟨rfl, rfl, trivial⟩ (by repeat (first | exact Sub.refl _ | exact Sub.nil _ | refine Sub.sel (by repeat (first | exact Sel.here | apply Sel.there)) ?_ | apply Sub.cons)))
            · skip
              refine st_sto rfl rfl sz3 (dr_nx ?_)
              refine dr_eff rfl (st_makeMap (ltn rfl) fun mp => dr_nx ?_)
              refine dp_v rfl (v_nilCheck rfl) (dp_v rfl (v_fieldAddr rfl fa100_7 rfl) (dr_eff rfl (st_sto rfl rfl sz97 (dr_nx ?_))))
              exact dr_nil (hcont mp _ _ ⟨rfl, rfl, trivial⟩ (by repeat (first | exact Sub.refl _ | exact Sub.nil _ | refine Sub.sel (by repeat (first | exact Sel.here | apply Sel.there)) ?_ | apply Sub.cons)))
end
end Go.Proofs.Ytmhmpjgkkpbnnaa
namespace Go.Ck
open Go
theorem Sub.append {a b : SH} (s : Sub a b) (k : SH) : Sub (a ++ k) (b ++ k) := by
  obtain ⟨x, p⟩ := s
  refine ⟨x, (p.append_right k).trans ?_⟩
  rw [List.append_assoc, List.append_assoc]
  exact (List.perm_append_comm).append_left a
/-- With more beside, and the result seen anew. -/
theorem Ct.conv {P : Program} {k : FuncId} {args : Array Value} {hf big x : SH} {R R' : Value → SH → Prop} (h : Ct P k args hf R) (pk : Pk big hf x) (hc : ∀ v h1, R v h1 → ∃ h', R' v h' ∧ Sub h' (h1 ++ x)) : Ct P k args big R' := fun hr w hh => by
  have hp : (big ++ hr).Perm (hf ++ (x ++ hr)) := (pk.perm.append_right hr).trans (by rw [List.append_assoc])
  refine (h (x ++ hr) w (hh.perm hp)).mono fun _ _ ⟨u, h1, he, hu, hH, hS⟩ => ?_
  obtain ⟨h', h2, h3⟩ := hc u h1 hu
  exact ⟨u, h', he, h2, (by rw [← List.append_assoc] at hH; exact hH.sub (h3.append hr)), hS⟩
end Go.Ck
namespace Go.Proofs.Ytmhmpjgkkpbnnaa
open Go.Ck Go.Hm Go.Hm.AM
section
variable {L : MemL} {μ : Mem} {S R : Res} {m : AM} {ly ln lf : List Int} {φ : Int → Option Nat} {A : Store} {v : Value} {roots : List Int}
theorem alloc_c (I : MI L μ S m) (h : AM.Good m ly ln lf φ A) (s : Int) : Ct Try.prog 33 #[.pointer (some ⟨L.mb, 0, none⟩), .int .i64 s] (memSH L μ S) fun u h' => ∃ μ', u = .tuple #[.int .i64 (m.alloc s).1, .int .i64 (m.alloc s).2.1] ∧ MI L μ' S (m.alloc s).2.2 ∧ h' = memSH L μ' S := by
  obtain ⟨a1, a2, a3⟩ := I.r.alloc h s
  refine Ct.conv (alloc_ct (S := S) (a := s) (I.r.oky h.g) I.shp' (I.r.shl h.g)) (x := [sb L.n μ.n, wb L.n μ.n, tb L.n μ.n, sb L.o μ.o, wb L.o μ.o, tb L.o μ.o, knR L μ, mpr L.mvb (mvv μ.mv)]) ?_ ?_
  · unfold memSH ySH
    repeat (first | exact Pk.nil | (apply Pk.cons; (repeat (first | exact Sel.here | apply Sel.there))))
  · rintro u h1 ⟨rfl, rfl⟩
    have hsh : (m.alloc s).2.2.sh = m.sh := by unfold AM.alloc; split; rfl; simp only; split <;> rfl
    refine ⟨_, ⟨(μ.alloc s).2.2, by rw [a1, a2], ⟨a3, I.yn, I.yo, I.no, by rw [hsh]; exact I.shp⟩, rfl⟩, ?_⟩
    have e : (μ.alloc s).2.2.n = μ.n ∧ (μ.alloc s).2.2.o = μ.o ∧ (μ.alloc s).2.2.kn = μ.kn ∧ (μ.alloc s).2.2.mv = μ.mv := by
      unfold Mem.alloc; split; exact ⟨rfl, rfl, rfl, rfl⟩; split; exact ⟨rfl, rfl, rfl, rfl⟩; exact ⟨rfl, rfl, rfl, rfl⟩
    obtain ⟨e1, e2, e3, e4⟩ := e
    unfold memSH ySH knR
    rw [e1, e2, e3, e4]
    simp only [List.cons_append, List.nil_append]
    repeat (first | exact Sub.refl _ | exact Sub.nil _ | refine Sub.sel (by repeat (first | exact Sel.here | apply Sel.there)) ?_ | apply Sub.cons)
theorem shape_c (I : MI L μ S m) (h : AM.Good m ly ln lf φ A) (t : Int) : Reads Try.prog 42 #[.pointer (some ⟨L.mb, 0, none⟩), .int .i64 t] (memSH L μ S) (.tuple #[.int .i64 (m.shapeOf t).1, .int .i64 (m.shapeOf t).2]) := by
  have := shape_ct (L := L) (μ := μ) (t := t) (I.r.oky h.g) (I.r.okn h.g) I.yn
  rw [I.r.shape h.g] at this
  refine this.more (x := [sb L.o μ.o, wb L.o μ.o, tb L.o μ.o, knR L μ, mpr L.mvb (mvv μ.mv), S]) ?_
  unfold memSH
  repeat (first | exact Pk.nil | (apply Pk.cons; (repeat (first | exact Sel.here | apply Sel.there))))
theorem busy_c (I : MI L μ S m) : Reads Try.prog 23 #[.pointer (some ⟨L.mb, 0, none⟩)] (memSH L μ S) (.bool m.busy) := by
  have := busy_ct (L := L) (μ := μ)
  rw [I.r.bu] at this
  refine this.more (x := [sb L.y μ.y, wb L.y μ.y, tb L.y μ.y, sb L.n μ.n, wb L.n μ.n, tb L.n μ.n, sb L.o μ.o, wb L.o μ.o, tb L.o μ.o, knR L μ, mpr L.mvb (mvv μ.mv), S]) ?_
  unfold memSH
  repeat (first | exact Pk.nil | (apply Pk.cons; (repeat (first | exact Sel.here | apply Sel.there))))
theorem room_c (I : MI L μ S m) : Reads Try.prog 24 #[.pointer (some ⟨L.mb, 0, none⟩)] (memSH L μ S) (.agg #[.int .i64 m.room.1, .int .i64 m.room.2.1, .int .i64 m.room.2.2]) := by
  have := room2_ct (L := L) (μ := μ)
  rw [I.r.y.us, I.r.n.us, I.r.le] at this
  refine this.more (x := [wb L.y μ.y, tb L.y μ.y, wb L.n μ.n, tb L.n μ.n, sb L.o μ.o, wb L.o μ.o, tb L.o μ.o, knR L μ, mpr L.mvb (mvv μ.mv), S]) ?_
  unfold memSH
  repeat (first | exact Pk.nil | (apply Pk.cons; (repeat (first | exact Sel.here | apply Sel.there))))
theorem set_sh (t k w : Int) : (m.set t k w).2.sh = m.sh := by unfold AM.set; split; rfl; split; rfl; simp only; split <;> rfl
theorem fwd_sh' (y : Bool) (w : Int) : (m.fwd y w).2.sh = m.sh := by unfold AM.fwd; split; split; rfl; rfl; rfl
theorem get_sh (t k : Int) : (m.get t k).2.2.sh = m.sh := by
  unfold AM.get; split; rfl; simp only; split; exact fwd_sh' ..; rfl
theorem step1_sh (m : AM) : m.step1.sh = m.sh := by unfold AM.step1; simp only; split; exact fwd_sh' ..; rfl
theorem steps_sh : ∀ (k : Nat) (m : AM), (AM.steps k m).sh = m.sh
  | 0, _ => rfl
  | k + 1, m => by
    unfold AM.steps; split
    · rw [steps_sh k]; exact step1_sh m
    · rfl
theorem step_sh (w : Int) : (m.step w).2.2.sh = m.sh := by
  unfold AM.step; split; rfl; split; rfl; simp only; split; exact steps_sh ..; exact steps_sh w.toNat m
theorem set_c (I : MI L μ S m) (h : AM.Good m ly ln lf φ A) (t k w : Int) : Ct Try.prog 40 #[.pointer (some ⟨L.mb, 0, none⟩), .int .i64 t, .int .i64 k, .int .i64 w] (memSH L μ S) fun u h' => ∃ L' μ', u = .int .i64 (m.set t k w).1 ∧ MI L' μ' S (m.set t k w).2 ∧ L'.mb = L.mb ∧ h' = memSH L' μ' S := by
  obtain ⟨a1, a2⟩ := I.r.set h t k w
  refine Ct.conv (set_ct (S := S) (t := t) (f := k) (val := w) (I.r.oky h.g) (I.r.okn h.g) I.yn I.shp' (I.r.shl h.g) (I.r.spy h.g) (I.r.spn h.g) (I.kn h).1) (x := [sb L.o μ.o, wb L.o μ.o, tb L.o μ.o, mpr L.mvb (mvv μ.mv)]) ?_ ?_
  · unfold memSH setSH
    repeat (first | exact Pk.nil | (apply Pk.cons; (repeat (first | exact Sel.here | apply Sel.there))))
  · rintro u h1 ⟨rfl, vk, rfl⟩
    refine ⟨_, ⟨{ L with vk := vk }, (μ.set t k w).2, by rw [a1], ⟨a2, I.yn, I.yo, I.no, by rw [set_sh]; exact I.shp⟩, rfl, rfl⟩, ?_⟩
    have e : (μ.set t k w).2.o = μ.o ∧ (μ.set t k w).2.mv = μ.mv := by
      have hp : ∀ μ : Mem, (μ.putw t k w).o = μ.o ∧ (μ.putw t k w).mv = μ.mv := fun μ => by unfold Mem.putw; split <;> exact ⟨rfl, rfl⟩
      unfold Mem.set; split; exact ⟨rfl, rfl⟩; split; exact ⟨rfl, rfl⟩; simp only; split; exact hp μ; exact hp μ
    obtain ⟨e1, e2⟩ := e
    unfold memSH setSH
    rw [e1, e2]
    simp only [List.cons_append, List.nil_append]
    repeat (first | exact Sub.refl _ | exact Sub.nil _ | refine Sub.sel (by repeat (first | exact Sel.here | apply Sel.there)) ?_ | apply Sub.cons)
theorem get_c (I : MI L μ S m) (h : AM.Good m ly ln lf φ A) (t k : Int) : Ct Try.prog 41 #[.pointer (some ⟨L.mb, 0, none⟩), .int .i64 t, .int .i64 k] (memSH L μ S) fun u h' => ∃ μ', u = .tuple #[.int .i64 (m.get t k).1, .int .i64 (m.get t k).2.1] ∧ MI L μ' S (m.get t k).2.2 ∧ h' = memSH L μ' S := by
  obtain ⟨a1, a2, a3⟩ := I.r.get h t k
  refine Ct.conv (get_ct (S := S) (t := t) (f := k) (I.r.oky h.g) (I.r.okn h.g) (I.r.oko h.g) I.yn I.shp' (I.r.shl h.g) (I.r.spy h.g) (I.r.spn h.g) (I.r.spo h.g) (I.le h) (fun _ g1 g2 => I.r.roomo h.g g1 g2)) (x := [knR L μ]) ?_ ?_
  · unfold memSH getSH
    repeat (first | exact Pk.nil | (apply Pk.cons; (repeat (first | exact Sel.here | apply Sel.there))))
  · rintro u h1 ⟨rfl, rfl⟩
    refine ⟨_, ⟨(μ.get t k).2.2, by rw [a1, a2], ⟨a3, I.yn, I.yo, I.no, by rw [get_sh]; exact I.shp⟩, rfl⟩, ?_⟩
    have e : (μ.get t k).2.2.kn = μ.kn := by
      have hp : ∀ (μ : Mem) (w : Int), (μ.putw t k w).kn = μ.kn := fun μ w => by unfold Mem.putw; split <;> rfl
      unfold Mem.get; split; rfl; split; rw [hp]; exact fwd_kn ..; rfl
    unfold memSH getSH knR
    rw [e]
    simp only [List.cons_append, List.nil_append]
    repeat (first | exact Sub.refl _ | exact Sub.nil _ | refine Sub.sel (by repeat (first | exact Sel.here | apply Sel.there)) ?_ | apply Sub.cons)
theorem steps_kn : ∀ (k : Nat) (μ : Mem), (Mem.steps k μ).kn = μ.kn ∧ (Mem.steps k μ).y = μ.y
  | 0, _ => ⟨rfl, rfl⟩
  | k + 1, μ => by
    have h1 : μ.step1.kn = μ.kn ∧ μ.step1.y = μ.y := by unfold Mem.step1; split; exact ⟨fwd_kn .., fwd_y ..⟩; exact ⟨rfl, rfl⟩
    unfold Mem.steps; split
    · exact ⟨rfl, rfl⟩
    · obtain ⟨a, b⟩ := steps_kn k μ.step1; exact ⟨a.trans h1.1, b.trans h1.2⟩
theorem step_c (I : MI L μ S m) (h : AM.Good m ly ln lf φ A) (w : Int) (hw : I64 w) : Ct Try.prog 31 #[.pointer (some ⟨L.mb, 0, none⟩), .int .i64 w] (memSH L μ S) fun u h' => ∃ L' μ', u = .tuple #[.int .i64 (m.step w).1, .int .i64 (m.step w).2.1] ∧ MI L' μ' S (m.step w).2.2 ∧ L'.mb = L.mb ∧ h' = memSH L' μ' S := by
  obtain ⟨a1, a2, a3⟩ := I.r.step h w
  refine Ct.conv (step_ct (S := S) (w := w) (fun ν => ∃ m' ln' φ', Rel false ν m' ∧ AM.Good m' ly ln' lf φ' A ∧ m'.busy = true ∧ m'.sh = m.sh ∧ (∃ k, ν = Mem.steps k μ)) (fun hb => ⟨m, ln, φ, I.r, h, by rw [← I.r.bu]; exact hb, rfl, 0, rfl⟩) (fun ν ⟨m', ln', φ', r', h', b', s', k, hk⟩ => ?_) hw) (x := [sb L.y μ.y, wb L.y μ.y, tb L.y μ.y, knR L μ]) ?_ ?_
  · have hse : ν.send = m'.old := by unfold Mem.send; have := r'.n.fr; have := r'.n.us; omega
    by_cases hs : m'.scan < m'.old
    · obtain ⟨h1, h2, h3⟩ := r'.scanned h' b' hs
      refine ⟨h1, by rw [r'.sh, s']; exact I.shp, fun _ => ?_⟩
      obtain ⟨ln1, φ1, g1, c1, c2, c3, c4, c5, c6, c7, _⟩ := h'.step1 b' hs
      refine ⟨m'.step1, ln1, φ1, h3, g1, c7, c3.trans s', k + 1, ?_⟩
      have : ∀ (k : Nat) (μ : Mem), (Mem.steps k μ).sc ≠ (Mem.steps k μ).send → (Mem.steps k μ).step1 = Mem.steps (k + 1) μ := by
        intro k
        induction k with
        | zero =>
          intro μ hne
          show μ.step1 = if (μ.sc == μ.send) = true then μ else μ.step1
          have hne' : μ.sc ≠ μ.send := hne
          rw [if_neg (by simpa using hne')]
        | succ k ih =>
          intro μ hne
          by_cases hq : μ.sc = μ.send
          · have e1 : Mem.steps (k + 1) μ = μ := steps_done hq _
            rw [e1] at hne; exact absurd hq hne
          · have e1 : ∀ j, Mem.steps (j + 1) μ = Mem.steps j μ.step1 := fun j => by
              show (if (μ.sc == μ.send) = true then _ else _) = _
              rw [if_neg (by simpa using hq)]
            rw [e1 k] at hne ⊢
            rw [e1 (k + 1)]
            exact ih μ.step1 hne
      rw [hk]
      rw [hk] at h2
      exact this k μ h2
    · have hb2 := h'.g.sc b'
      have heq : ν.sc = ν.send := by rw [r'.sc, hse]; omega
      have hle := (show 0 ≤ ν.le ∧ ν.le ≤ 1000000 by have := h'.g.oldle; have := h'.g.sz.H1; rw [r'.le]; omega)
      have e1 := r'.n.fr; have e2 := r'.n.us
      refine ⟨⟨r'.okn h'.g, r'.oko h'.g, r'.spo h'.g, r'.shl h'.g, ?_, by have := r'.sc; omega, by omega, fun hne => absurd heq hne, fun hne => absurd heq hne, hle, fun hne => absurd heq hne⟩, by rw [r'.sh, s']; exact I.shp, fun hne => absurd heq hne⟩
      obtain ⟨u, o1, _⟩ := r'.o
      have := o1.st; have := o1.ln; have := h'.g.sz.H0; omega
  · unfold memSH fwSHO
    repeat (first | exact Pk.nil | (apply Pk.cons; (repeat (first | exact Sel.here | apply Sel.there))))
  · rintro u h1 ⟨rfl, mvb, rfl⟩
    refine ⟨_, ⟨{ L with mvb := mvb }, (μ.step w).2.2, by rw [a1, a2], ⟨a3, I.yn, I.yo, I.no, by rw [step_sh]; exact I.shp⟩, rfl, rfl⟩, ?_⟩
    have e : (μ.step w).2.2.kn = μ.kn ∧ (μ.step w).2.2.y = μ.y := by
      have hp : ∀ μ : Mem, μ.stepEnd.kn = μ.kn ∧ μ.stepEnd.y = μ.y := fun μ => by unfold Mem.stepEnd; split <;> exact ⟨rfl, rfl⟩
      unfold Mem.step; split; exact ⟨rfl, rfl⟩; split; exact ⟨rfl, rfl⟩
      obtain ⟨c1, c2⟩ := steps_kn w.toNat μ
      obtain ⟨c3, c4⟩ := hp (Mem.steps w.toNat μ)
      exact ⟨c3.trans c1, c4.trans c2⟩
    unfold memSH fwSHO knR
    rw [e.1, e.2]
    simp only [List.cons_append, List.nil_append]
    repeat (first | exact Sub.refl _ | exact Sub.nil _ | refine Sub.sel (by repeat (first | exact Sel.here | apply Sel.there)) ?_ | apply Sub.cons)
theorem Rel.new {sh : List (List Bool)} {half young : Nat} (h1 : 1 ≤ half) (h3 : 1 ≤ young) : Rel false (Mem.new sh half young) (new' sh half young) := by
  have hn : ∀ (fr n : Nat) (lo used len : Int), (fr : Int) = lo → used = 0 → (n : Int) = len → SpR (Sp.new fr n) (fun _ => 0) (fun _ => 0) lo used len := fun fr n lo used len a b c =>
    ⟨a, by rw [b]; rfl, by simp [Sp.new, c], by simp [Sp.new], Nat.zero_le _, fun i hi => by simp [Sp.new, List.getD_eq_getElem?_getD, List.getElem?_replicate] at hi ⊢; rw [if_pos hi]; rfl, fun i hi => by have : i < 0 := hi; omega⟩
  refine ⟨rfl, hn _ _ _ _ _ rfl (by show (1 : Int) - 1 = 0; omega) rfl, hn _ _ _ _ _ (by show ((1 + young : Nat) : Int) = (young : Int) + 1; omega) (by show (young : Int) + 1 - ((young : Int) + 1) = 0; omega) rfl, ⟨0, hn _ _ _ _ _ (by show ((1 + young + half : Nat) : Int) = (young : Int) + half + 1; omega) rfl rfl, fun t _ _ hq => by have : (0 : Int) < 0 := hq; omega⟩, rfl, rfl, rfl, fun _ _ => rfl, rfl, fun _ => rfl⟩
end
end Go.Proofs.Ytmhmpjgkkpbnnaa
namespace Go.Proofs.Ytmhmpjgkkpbnnaa
open Go.Ck Fx Go.Hm Go.Hm.AM
attribute [local irreducible] St Cd Xt Nx DrL LsW

def bidx (l : List Bool) (x : Bool) : Int := match l.findIdx? (· == x) with | some i => (i : Int) | none => -1
theorem bidx_has (l : List Bool) (x : Bool) : decide (0 ≤ bidx l x) = l.contains x := by
  unfold bidx
  cases h : l.findIdx? (· == x) with
  | none =>
    rw [List.findIdx?_eq_none_iff] at h
    have : l.contains x = false := by
      rw [List.contains_eq_mem, decide_eq_false_iff_not]
      intro hm; have := h x hm; simp at this
    rw [this]; rfl
  | some i =>
    have := List.findIdx?_eq_some_iff_getElem.1 h
    obtain ⟨h1, h2, _⟩ := this
    have hm : x ∈ l := by have : l[i] = x := by simpa using h2
                          rw [← this]; exact List.getElem_mem h1
    simp [hm]
theorem bcomm (a b : Bool) : (a == b) = (b == a) := by cases a <;> cases b <;> rfl
set_option maxRecDepth 100000 in
theorem indexB_ct {R : Res} {v : Value} {l : List Bool} {x : Bool} (hv : RowB R v l) (hl : l.length ≤ 1000000) : Reads Try.prog 120 #[v, .bool x] [R] (.int .i64 (bidx l x)) := by
  obtain ⟨a, cp, hv1, _⟩ := id hv
  refine ct_of (n := 19) Try.func120 rfl rfl (len rfl) fun hr w0 => ?_
  refine cd_seq (cd_region (st_v (v_assign rfl) (st_nil (nx_then (cd_seq (cd_seq (cd_region (st_v (v_move rfl) (st_v (v_len (congrArg some hv1) Try.underlying73) (st_v (v_move rfl) (st_nil (nx_kp [0, 1, 4, 7, 8] rfl (nx_then (cd_block (cd_lp (σ := Nat) (fun i => [(0, v), (1, .bool x), (7, .int .i64 l.length), (8, .int .i64 (i : Nat))]) (fun _ => R :: hr) (fun i => i ≤ l.length ∧ ∀ (j : Nat) (y : Bool), j < i → l[j]? = some y → (y == x) = false) (fun i => l.length - i) 0 ⟨Nat.zero_le _, fun j y hj => by omega⟩ ?_)))))))))))))))
  rintro i ⟨hi, hne⟩
  refine cd_seq (cd_region (st_v (v_lss rfl rfl) (st_nil (nx_then (cd_seq (cd_cond rfl (fun hd => ?_) (fun hd => ?_)))))))
  · skip
    have hlt : i < l.length := by simpa using hd
    obtain ⟨b, o, cp2, hv2, hrd⟩ := RowB.at hv hlt
    refine cd_skip (xt_then (cd_seq (cd_block (cd_seq (cd_region (st_v (v_move rfl) (st_v (v_assign rfl) (st_nil (nx_kp [0, 1, 5, 7, 8] rfl (nx_then (cd_seq (cd_region (st_v (v_move rfl) (st_v (v_move rfl) (st_v (v_move rfl) ?_)))))))))))))))
    refine st_v (v_ixo i (congrArg some hv2) rfl sl73 rfl hlt) (st_v (v_ld rfl ld4) ?_)
    refine st_v (v_eql_bool Try.underlying4 rfl rfl) (st_nil (nx_kp [0, 1, 5, 7, 8, 16] rfl (nx_then (cd_cond rfl (fun he => ?_) (fun he => ?_)))))
    · skip
      refine cd_seq (cd_region (st_v (v_move rfl) (st_v (v_assign rfl) (st_nil (nx_kp [0, 1, 4, 7, 8] rfl (nx_then (cd_ret (xt_ret_block (xt_ret_then (xt_ret_then (xt_ret_block (xt_ret_then ?_))))))))))))
      have hf : l.findIdx? (· == x) = some i := by
        rw [List.findIdx?_eq_some_iff_getElem]
        exact ⟨hlt, by rw [bcomm]; exact he, fun j hj => by have := hne j l[j] hj (List.getElem?_eq_getElem (by omega)); simpa using this⟩
      have hb : bidx l x = i := by unfold bidx; rw [hf]
      rw [hb]
      exact xt_rt rfl ⟨rfl, rfl⟩
    · skip
      refine cd_skip (xt_normal_block (xt_then (cd_region (st_v (v_add rfl rfl (by unfold I64 at *; omega)) (st_v (v_move rfl) (st_nil (nx_kp [0, 1, 7, 8] rfl (nx_xt (xt_ag (i + 1) ⟨hlt, fun j y hj hy => ?_⟩ (by show _ - _ < _ - _; omega))))))))))
      by_cases hji : j = i
      · subst hji; rw [List.getElem?_eq_getElem hlt] at hy; cases hy; rw [bcomm]; exact he
      · exact hne j y (by omega) hy
  · skip
    refine cd_exit (xt_exit_then (xt_exit_then (xt_exit_block (xt_then (cd_seq (cd_region (st_v (v_assign rfl) (st_nil (nx_kp [4] rfl (nx_then (cd_ret ?_)))))))))))
    have hge : l.length ≤ i := by simpa using hd
    have hb : bidx l x = -1 := by
      unfold bidx
      have : l.findIdx? (· == x) = none := List.findIdx?_eq_none_iff.2 fun y hy => by
        obtain ⟨j, hj, rfl⟩ := List.getElem_of_mem hy
        exact hne j _ (by omega) (List.getElem?_eq_getElem hj)
      rw [this]
    rw [hb]
    exact xt_rt rfl ⟨rfl, rfl⟩
set_option maxRecDepth 100000 in
theorem containsB_ct {R : Res} {v : Value} {l : List Bool} {x : Bool} (hv : RowB R v l) (hl : l.length ≤ 1000000) : Reads Try.prog 113 #[v, .bool x] [R] (.bool (l.contains x)) := by
  rw [← bidx_has]
  refine ct_of (n := 9) Try.func113 rfl rfl (len rfl) fun hr w0 => ?_
  refine cd_seq (cd_region (st_v (v_assign rfl) (st_nil (nx_then (cd_seq (cd_region (st_v (v_move rfl) (st_v (v_move rfl) (st_clr rfl rfl en120 rfl (indexB_ct (x := x) hv hl) ?_)))))))))
  refine st_v (v_geq rfl rfl) (st_v (v_assign rfl) (st_nil (nx_kp [4] rfl (nx_then (cd_ret ?_)))))
  exact xt_rt rfl ⟨rfl, rfl⟩
end Go.Proofs.Ytmhmpjgkkpbnnaa
namespace Go.Ck
open Go
section
variable {P : Program} {r : Option Nat} {n : Nat} {w0 : World} {hr : SH} {R : Value → SH → Prop} {fn : Func} {e : Env} {h h' k : SH} {vs : List Value} {bs : List Nat} {ds : List Deferred}
theorem xt_retMV (hds : ds = bs.map mk) (hv : ResV P k e fn.results.toList vs) (hR : R (outOf vs) h') (hk : Sub (h' ++ hr) k) (hp : Sub (marks bs ++ k) h) : Xt ⟨P, r, n, ds, w0⟩ .ret (bodyPostM (Fw none) 0 P fn (Post w0 hr R)) e h :=
  fun a w hk' hh hw => by
    show LeavesInM (Fw none) 0 P fn a.tmps _ a.defers .returning w
    rw [hk'.defers, hds]
    exact leavesM bs w (hh.sub hp) hw fun w' h1 h2 => ⟨_, run_resultsV hk' hv h1, _, h', rfl, hR, h1.sub hk, h2⟩
end
end Go.Ck
namespace Go.Proofs.Ytmhmpjgkkpbnnaa
open Go.Ck Fx Go.Hm Go.Hm.AM
attribute [local irreducible] St Cd Xt Nx DrL LsW
section
variable {L : MemL} {μ : Mem} {S R : Res} {m : AM} {ly ln lf : List Int} {φ : Int → Option Nat} {A : Store} {v : Value} {roots : List Int}
theorem fineWord (I : MI L μ S m) (h : AM.Good m ly ln lf φ A) {t : Int} {j : Nat} (ht : t ∈ ly ∨ t ∈ ln) (hj : j < (m.row t).length) (hr : (m.row t)[j] = true) :
    (m.word (t + 1 + j) = 0 ∨ μ.cur (m.word (t + 1 + j)) = true ∨ (t ∈ ln ∧ μ.bu = true ∧ μ.o.begins (m.word (t + 1 + j)) = true ∧ μ.sc ≤ t + 1 + j)) ∧ (t ∈ ln → μ.y.begins (m.word (t + 1 + j)) = true → μ.kn.contains (t, (j : Int)) = true) := by
  have hp : t + 1 + (j : Int) ∈ m.pl t := mem_pl.2 ⟨j, by rw [List.getElem?_eq_getElem hj, hr], rfl⟩
  rw [I.r.cur h.g, I.r.bu, I.r.bo, I.r.by_ h.g, I.r.kn, I.r.sc]
  rcases ht with ht | ht
  · refine ⟨?_, fun hn => absurd ht (h.g.oy hn)⟩
    rcases h.g.wy t ht _ hp with g | g | g
    · exact .inl g
    · exact .inr (.inl (h.g.cur_iff.2 (.inl g)))
    · exact .inr (.inl (h.g.cur_iff.2 (.inr g)))
  · have hno : ∀ w, w = 0 ∨ w ∈ ln ∨ w ∈ lf → (m.isY w && decide (0 < m.head w)) = true → False := fun w hw hb => by rw [h.g.isYn hw] at hb; cases hb
    rcases h.g.wo t ht _ hp with g | g | g | g
    · exact ⟨.inl g, fun _ hb => (hno _ (.inl g) hb).elim⟩
    · exact ⟨.inr (.inl (h.g.cur_iff.2 (.inr g))), fun _ hb => (hno _ (.inr (.inl g)) hb).elim⟩
    · refine ⟨.inr (.inl (h.g.cur_iff.2 (.inl g.1))), fun _ _ => ?_⟩
      have hpb := pl_bd hp
      have hob := h.g.obd ht; have h0 := h.g.oldle
      have hpr : t + 1 + (j : Int) ∈ m.remP := g.2.resolve_right (by omega)
      obtain ⟨k, hk, he⟩ := List.mem_map.1 hpr
      obtain ⟨k1, i, k2, k3⟩ := h.rm k hk
      have hi := (List.getElem?_eq_some_iff.1 k3).1
      have := h.g.same (.inr (.inl k1)) (.inr (.inl ht)) (p := t + 1 + j) (by omega) (by unfold AM.size; omega) (by omega) (by unfold AM.size; omega)
      have he2 : k = (t, (j : Int)) := Prod.ext this (by omega)
      rw [← he2]; simpa using hk
    · refine ⟨.inr (.inr ⟨ht, ?_, ?_, g.2⟩), fun _ hb => (hno _ (.inr (.inr g.1)) hb).elim⟩
      · cases hb : m.busy with
        | true => rfl
        | false => rw [h.g.nb hb] at g; simp at g
      · have := h.g.fhead g.1
        rw [ours_of (y := false) (N := ly) h.g (by simpa using g.1) |> fun (q : m.isF _ = true) => q]; simpa using this
set_option maxHeartbeats 4000000 in
set_option maxRecDepth 100000 in
theorem finey_c {g1 g2 : Nat} (I : MI L μ S m) (h : AM.Good m ly ln lf φ A) {t : Int} (ht : t ∈ ly) : Reads Try.prog 69 #[.int .i64 t, .pointer (some ⟨g1, 0, none⟩), .pointer (some ⟨g2, 0, none⟩)] (pt g1 (cl [.pointer (some ⟨L.mb, 0, none⟩)] 27) :: pt g2 (cl [.pointer (some ⟨L.y.sb, 0, none⟩)] 95) :: memSH L μ S) (.bool true) := by
  have oy := I.r.oky h.g; have on := I.r.okn h.g; have oo := I.r.oko h.g; have hS := I.shp'; have hl := I.r.shl h.g
  have h1y := oy.us; have h2y := oy.fr; have h3y := oy.ws; have h1n := on.us; have h2n := on.fr; have h3n := on.ws
  have e1 := I.r.y.fr; have e2 := I.r.y.us; have e3 := I.r.n.fr; have e4 := I.r.n.us; have e5 := I.r.y.ln; have e6 := I.r.n.ln
  have hob := h.g.oldle; have hyb := h.g.yl
  have hbd : (μ.y.fr : Int) ≤ t ∧ t + m.size t ≤ (μ.y.fr : Int) + μ.y.us ∧ μ.y.wd t = m.head t - 1 ∧ 0 < m.head t ∧ m.head t ≤ m.sh.length ∧ μ.y.Ok := by
    first
      | (have hb := h.g.ybd ht; exact ⟨by omega, by omega, I.r.wdy h.g ht, h.g.yhead ht, h.g.y.ok t ht, oy⟩)
      | (have hb := h.g.obd ht; exact ⟨by omega, by omega, I.r.wdn h.g ht, h.g.ohead ht, h.g.o.ok t ht, on⟩)
  obtain ⟨b1, b2, b3', b4', b5, b6⟩ := hbd
  have b7 := b6.us; have b8 := b6.ws; have b9 := b6.fr
  have hrl : ((m.row t).length : Int) ≤ 100 := by have := hl.at (m.head t - 1); rw [shAt_row I.r] at this; omega
  have hsz : m.size t = 1 + (m.row t).length := rfl
  obtain ⟨j1, hj1, hj2⟩ := info_of i117
  unfold memSH
  refine ct_ofM (n := 96) Try.func69 rfl rfl (len rfl) fun hr w0 => ?_
  simp only [List.cons_append, List.nil_append]
  refine cd_seq (cd_region (st_bx rfl rfl fun b3 => ?_))
  refine st_alc al4 fun b4 => ?_
  refine st_nil (nx_kp [1, 2, 3, 4] rfl (nx_then (cd_seq (cd_seq (cd_region (st_v (v_ld rfl ld27) ?_))))))
  refine st_v (v_ld rfl ld95) ?_
  refine st_v (v_ld rfl ld3) ?_
  refine st_cl rfl rfl en70 rfl (refs_ct (mp := .pointer (some ⟨L.mb, 0, none⟩)) (sp := .pointer (some ⟨L.y.sb, 0, none⟩)) (t := t) rfl rfl) ?_
  rintro v' h' ⟨c1, c2, c3, rfl, rfl⟩
  simp only [List.cons_append, List.nil_append]
  refine st_nil (nx_kp [1, 2, 3, 4, 13] rfl (nx_then (cd_block (cd_range' rfl en108 fun yl db rec hst hpe hps has hbo hkn2 => ?_))))
  refine ⟨_, Ct.perm (refs1_ct (σ := Unit) (L := L) (S := S) (sh := μ.sh) (l := L.y) (b1 := c1) (b2 := c2) (b3 := c3) (yl := yl) (fr := μ.y.fr) (ln := μ.y.ws.length) (t := t) (row := m.row t) (fun _ => μ) (fun _ => μ.y)
    (fun _ => pt yl (.loop rec) :: pt db (.deferred (some [])) :: tb L.y μ.y :: sb L.n μ.n :: wb L.n μ.n :: tb L.n μ.n :: pt b4 (cl [.bool false] 4) :: pt b3 (cl [.int .i64 t] 3) :: pt g1 (cl [.pointer (some ⟨L.mb, 0, none⟩)] 27) :: pt g2 (cl [.pointer (some ⟨L.y.sb, 0, none⟩)] 95) :: sb L.o μ.o :: wb L.o μ.o :: tb L.o μ.o :: knR L μ :: mpr L.mvb (mvv μ.mv) :: hr)
    (fun _ _ => True) (fun _ => False) () trivial hS hl (by rw [b3']; omega) (by rw [b3', I.r.sh]; omega) (by rw [b3', shAt_row I.r]) (fun _ _ _ => ⟨b6, rfl, rfl⟩) b1 (by omega) ?_ (fun _ _ _ _ _ => trivial)) ?_, ?_⟩
  · rintro j ⟨⟩ hj hrow _
    have hw := fineWord I h (t := t) (j := j) (.inl ht) hj hrow
    have hwd : μ.y.ws.getD (t + 1 + j - μ.y.fr).toNat 0 = m.word (t + 1 + j) := I.r.wordy (by omega) (by omega) (Gd.innery h.g ht (by omega) (by unfold AM.size; omega))
    generalize m.word (t + 1 + j) = w at hw hwd
    obtain ⟨hw1, hw2⟩ := hw
    have hrd : Rd (wb L.y μ.y) ⟨L.y.wb, (t + 1 + j - μ.y.fr).toNat, none⟩ (.int .i64 w) := by
      rw [← hwd]; exact rd_ints (by omega)
    refine Yc.perm (yc_of (n := 96) (rec := rec) (args := [.int .i64 j, .pointer (some ⟨L.y.wb, (t + 1 + j - μ.y.fr).toNat, none⟩)])
      (hf := pt c1 (cl [.pointer (some ⟨L.mb, 0, none⟩)] 27) :: pt c2 (cl [.pointer (some ⟨L.y.sb, 0, none⟩)] 95) :: pt c3 (cl [.int .i64 t] 3) :: mb L μ :: sb L.y μ.y :: wb L.y μ.y :: S :: pt db (.deferred (some [])) :: tb L.y μ.y :: sb L.n μ.n :: wb L.n μ.n :: tb L.n μ.n :: pt b4 (cl [.bool false] 4) :: pt b3 (cl [.int .i64 t] 3) :: pt g1 (cl [.pointer (some ⟨L.mb, 0, none⟩)] 27) :: pt g2 (cl [.pointer (some ⟨L.y.sb, 0, none⟩)] 95) :: sb L.o μ.o :: wb L.o μ.o :: tb L.o μ.o :: knR L μ :: mpr L.mvb (mvv μ.mv) :: hr) (by rw [hps]; rfl) hkn2 (by rw [hps]; decide) ?_) ?_
    · intro hr2 w1
      rw [has, hps, hbo]
      simp only [List.cons_append, List.nil_append]
      refine cd_seq (cd_region (st_v (v_assign rfl) (st_nil (nx_kp [1, 2, 3, 4, 5, 15] rfl (nx_then (cd_region (st_v (v_assign rfl) (st_nil (nx_kp [1, 2, 3, 4, 5, 6] rfl (nx_xt (xt_mid rfl (by repeat (first | exact Sel.here | apply Sel.there)) (by first | rfl | assumption) ?_)))))))))))
      refine cd_block (cd_seq (cd_drawh (ork [(0, 1), (1, 2), (2, 2), (3, 1), (4, 1), (5, 2), (6, 2), (7, 2), (8, 2), (9, 2)] .nil) (fun _ => true) mixed (by kernel_rfl) ?_))
      refine dr_v rfl (v_ld rfl ld27) ?_
      refine dp_v rfl (v_move rfl) (dp_v rfl (v_nilCheck rfl) (dr_v rfl (v_ld rfl ld3) ?_))
      refine dr_clr rfl rfl rfl en71 rfl (current_ct (L := L) (μ := μ) (t := w) oy on I.yn) ?_
      refine dp_v rfl (v_move rfl) (dp_v rfl (v_extract rfl rfl) (dp_v rfl (v_extract rfl rfl) (dp_v rfl (v_assign rfl) (dp_v rfl (v_assign rfl) (dr_nil (nx_kp [1, 2, 3, 4, 5, 6, 8] rfl (nx_then (cd_seq (cd_drawh (ork [(0, 1), (1, 2), (2, 2), (3, 1), (4, 2), (5, 1), (6, 2), (7, 2), (8, 1), (9, 2), (10, 2), (11, 1), (12, 1), (13, 2), (14, 2), (15, 1), (16, 1), (17, 2), (18, 2), (19, 1), (20, 1), (21, 2), (22, 2), (23, 1), (24, 2), (25, 2), (26, 2), (27, 1), (28, 2), (29, 2), (30, 1), (31, 2), (32, 2), (33, 2)] .nil) (fun _ => true) mixed (by kernel_rfl) ?_)))))))))
      refine dr_v rfl (v_ld rfl ld27) ?_
      refine dp_v rfl (v_nilCheck rfl) (dp_v rfl (v_fieldAddr rfl fa100_5 rfl) (dr_v rfl (v_ld rfl ld4) ?_))
      refine dp_v rfl (v_move rfl) (dr_cut (k := 9) (d := 37) (v := .bool (μ.bu && μ.o.begins w)) (fun hcut => bool_want (b := μ.bu) true (fun hg => ?_) (fun hg => ?_)) ?_)
      · refine dr_sk rfl rfl rfl hg ?_
        refine dp_sk rfl rfl rfl hg ?_
        refine dp_sk rfl rfl rfl hg ?_
        refine dr_sk rfl rfl rfl hg ?_
        refine dp_sk rfl rfl rfl hg ?_
        refine dp_sk rfl rfl rfl hg ?_
        refine dr_sk rfl rfl rfl hg ?_
        refine dr_sk rfl rfl rfl hg ?_
        refine dp_v rfl (v_pick_false (bool_ev rfl hg) rfl) ?_
        exact hcut _ (ssub_head (by first | rfl | (rw [hg]; rfl) | simp_all) (ssub_skip rfl (ssub_skip rfl (ssub_skip rfl (ssub_skip rfl (ssub_skip rfl (ssub_skip rfl (ssub_skip rfl (ssub_skip rfl (ssub_refl))))))))))
      · skip
        refine dr_vg rfl rfl (bool_get rfl hg) (v_ld rfl ld27) ?_
        refine dp_vg rfl rfl (bool_get rfl hg) (v_nilCheck rfl) (dp_vg rfl rfl (bool_get rfl hg) (v_fieldAddr rfl fa100_3 rfl) (dr_vg rfl rfl (bool_get rfl hg) (v_ld rfl ld95) ?_))
        refine dp_vg rfl rfl (bool_get rfl hg) (v_move rfl) (dp_vg rfl rfl (bool_get rfl hg) (v_nilCheck rfl) (dr_vg rfl rfl (bool_get rfl hg) (v_ld rfl ld3) ?_))
        refine dr_clrg rfl rfl (bool_get rfl hg) rfl rfl en72 rfl (begins_ct (l := L.o) (s := μ.o) (t := w) oo) ?_
        refine dp_v rfl (v_pick_true (bool_ev rfl hg) rfl) ?_
        exact hcut _ (ssub_head (by first | rfl | (rw [hg]; rfl) | simp_all) (ssub_skip rfl (ssub_skip rfl (ssub_skip rfl (ssub_skip rfl (ssub_skip rfl (ssub_skip rfl (ssub_skip rfl (ssub_skip rfl (ssub_refl))))))))))
      refine dp_v rfl (v_move rfl) (dr_cut (k := 7) (d := 45) (v := .bool ((μ.bu && μ.o.begins w) && false)) (fun hcut => bool_want (b := (μ.bu && μ.o.begins w)) true (fun hg => ?_) (fun hg => ?_)) ?_)
      · refine dr_sk rfl rfl rfl hg ?_
        refine dr_sk rfl rfl rfl hg ?_
        refine dp_sk rfl rfl rfl hg ?_
        refine dp_sk rfl rfl rfl hg ?_
        refine dr_sk rfl rfl rfl hg ?_
        refine dr_sk rfl rfl rfl hg ?_
        refine dp_v rfl (v_pick_false (bool_ev rfl hg) rfl) ?_
        exact hcut _ (ssub_head (by first | rfl | (rw [hg]; rfl) | simp_all) (ssub_skip rfl (ssub_skip rfl (ssub_skip rfl (ssub_skip rfl (ssub_skip rfl (ssub_skip rfl (ssub_refl))))))))
      · skip
        refine dr_vg rfl rfl (bool_get rfl hg) (v_ld rfl ld95) ?_
        refine dr_vg rfl rfl (bool_get rfl hg) (v_ld rfl ld27) ?_
        refine dp_vg rfl rfl (bool_get rfl hg) (v_nilCheck rfl) (dp_vg rfl rfl (bool_get rfl hg) (v_fieldAddr rfl fa100_2 rfl) (dr_vg rfl rfl (bool_get rfl hg) (v_ld rfl ld95) ?_))
        refine dr_vg rfl rfl (bool_get rfl hg) (v_eql_ptr_other rfl rfl pt95 hj1 hj2 (by repeat (first | exact Sel.here | apply Sel.there)) (by repeat (first | exact Sel.here | apply Sel.there))) ?_
        refine dp_v rfl (v_pick_true (bool_ev rfl hg) rfl) ?_
        exact hcut _ (ssub_head (by first | rfl | (rw [hg]; rfl) | simp_all) (ssub_skip rfl (ssub_skip rfl (ssub_skip rfl (ssub_skip rfl (ssub_skip rfl (ssub_skip rfl (ssub_refl))))))))
      refine dp_v rfl (v_move rfl) (dr_cut (k := 10) (d := 56) (v := .bool (((μ.bu && μ.o.begins w) && false) && decide (μ.sc ≤ t + 1 + j))) (fun hcut => bool_want (b := ((μ.bu && μ.o.begins w) && false)) true (fun hg => ?_) (fun hg => ?_)) ?_)
      · refine dr_sk rfl rfl rfl hg ?_
        refine dp_sk rfl rfl rfl hg ?_
        refine dp_sk rfl rfl rfl hg ?_
        refine dp_sk rfl rfl rfl hg ?_
        refine dr_sk rfl rfl rfl hg ?_
        refine dp_sk rfl rfl rfl hg ?_
        refine dp_sk rfl rfl rfl hg ?_
        refine dr_sk rfl rfl rfl hg ?_
        refine dp_sk rfl rfl rfl hg ?_
        refine dp_v rfl (v_pick_false (bool_ev rfl hg) rfl) ?_
        exact hcut _ (ssub_head (by first | rfl | (rw [hg]; rfl) | simp_all) (ssub_skip rfl (ssub_skip rfl (ssub_skip rfl (ssub_skip rfl (ssub_skip rfl (ssub_skip rfl (ssub_skip rfl (ssub_skip rfl (ssub_skip rfl (ssub_refl)))))))))))
      · skip
        refine dr_vg rfl rfl (bool_get rfl hg) (v_ld rfl ld3) ?_
        refine dp_vg rfl rfl (bool_get rfl hg) (v_add rfl rfl (by unfold I64 at *; omega)) (dp_vg rfl rfl (bool_get rfl hg) (v_move rfl) (dp_vg rfl rfl (bool_get rfl hg) (v_add rfl rfl (by unfold I64 at *; omega)) (dr_vg rfl rfl (bool_get rfl hg) (v_ld rfl ld27) ?_)))
        refine dp_vg rfl rfl (bool_get rfl hg) (v_nilCheck rfl) (dp_vg rfl rfl (bool_get rfl hg) (v_fieldAddr rfl fa100_6 rfl) (dr_vg rfl rfl (bool_get rfl hg) (v_ld rfl ld3) ?_))
        refine dp_vg rfl rfl (bool_get rfl hg) (v_geq rfl rfl) (dp_v rfl (v_pick_true (bool_ev rfl hg) rfl) ?_)
        exact hcut _ (ssub_head (by first | rfl | (rw [hg]; rfl) | simp_all) (ssub_skip rfl (ssub_skip rfl (ssub_skip rfl (ssub_skip rfl (ssub_skip rfl (ssub_skip rfl (ssub_skip rfl (ssub_skip rfl (ssub_skip rfl (ssub_refl)))))))))))
      refine dp_v rfl (v_assign rfl) (dr_nil (nx_kp [1, 2, 3, 4, 5, 6, 8, 9] rfl (nx_then (cd_seq (cd_seq (cd_region (st_v (v_move rfl) (st_v (v_nilCheck rfl) (st_v (v_ld rfl ld3) ?_)))))))))
      refine st_v (v_neq rfl rfl) (st_v (v_move rfl) (st_cut (k := 8) (d := 64) (v := .bool (w != 0 && !μ.cur w)) (fun hcut => bool_want (b := (w != 0)) true (fun hg => ?_) (fun hg => ?_)) ?_))
      · refine st_sk rfl rfl hg ?_
        refine st_sk rfl rfl hg ?_
        refine st_v (v_pick_false (bool_ev rfl hg) rfl) ?_
        exact hcut _ (ssub_head (by first | rfl | (rw [hg]; rfl) | simp_all) (ssub_skip rfl (ssub_skip rfl (ssub_refl))))
      · skip
        refine st_vg rfl (bool_get rfl hg) (v_move rfl) (st_vg rfl (bool_get rfl hg) (v_not rfl) (st_v (v_pick_true (bool_ev rfl hg) rfl) ?_))
        exact hcut _ (ssub_head (by first | rfl | (rw [hg]; rfl) | simp_all) (ssub_skip rfl (ssub_skip rfl (ssub_refl))))
      refine st_v (v_move rfl) (st_cut (k := 12) (d := 68) (v := .bool ((w != 0 && !μ.cur w) && !(((μ.bu && μ.o.begins w) && false) && decide (μ.sc ≤ t + 1 + j)))) (fun hcut => bool_want (b := (w != 0 && !μ.cur w)) true (fun hg => ?_) (fun hg => ?_)) ?_)
      · refine st_sk rfl rfl hg ?_
        refine st_sk rfl rfl hg ?_
        refine st_v (v_pick_false (bool_ev rfl hg) rfl) ?_
        exact hcut _ (ssub_head (by first | rfl | (rw [hg]; rfl) | simp_all) (ssub_skip rfl (ssub_skip rfl (ssub_refl))))
      · skip
        refine st_vg rfl (bool_get rfl hg) (v_move rfl) (st_vg rfl (bool_get rfl hg) (v_not rfl) (st_v (v_pick_true (bool_ev rfl hg) rfl) ?_))
        exact hcut _ (ssub_head (by first | rfl | (rw [hg]; rfl) | simp_all) (ssub_skip rfl (ssub_skip rfl (ssub_refl))))
      refine st_nil (nx_kp [1, 2, 3, 4, 5, 6, 68] rfl (nx_then (cd_cond rfl (fun q1 => ?_) (fun q1 => ?_))))
      · skip
        exfalso
        simp only [Bool.and_eq_true, Bool.not_eq_true', bne_iff_ne, ne_eq] at q1
        rcases hw1 with hw | hw | hw
        · exact q1.1.1 hw
        · rw [hw] at q1; cases q1.1.2
        · first
            | exact absurd ht (h.g.oy hw.1)
            | (rw [hw.2.1, hw.2.2.1] at q1; simp at q1; omega)
      · skip
        refine cd_skip (xt_then (cd_seq (cd_drawh (ork [(0, 1), (1, 1), (2, 2), (3, 2), (4, 1), (5, 1), (6, 2), (7, 1), (8, 2), (9, 2), (10, 1), (11, 2), (12, 2), (13, 1), (14, 1), (15, 2), (16, 2), (17, 1), (18, 2), (19, 2), (20, 1), (21, 1), (22, 2), (23, 2), (24, 1), (25, 2), (26, 2)] .nil) (fun _ => true) mixed (by kernel_rfl) ?_)))
        refine dr_v rfl (v_ld rfl ld95) ?_
        refine dr_v rfl (v_ld rfl ld27) ?_
        refine dp_v rfl (v_nilCheck rfl) (dp_v rfl (v_fieldAddr rfl fa100_2 rfl) (dr_v rfl (v_ld rfl ld95) ?_))
        refine dr_v rfl (v_eql_ptr_other rfl rfl pt95 hj1 hj2 (by repeat (first | exact Sel.here | apply Sel.there)) (by repeat (first | exact Sel.here | apply Sel.there))) ?_
        refine dp_v rfl (v_move rfl) (dr_sk rfl rfl rfl rfl ?_)
        refine dp_sk rfl rfl rfl rfl ?_
        refine dp_sk rfl rfl rfl rfl ?_
        refine dr_sk rfl rfl rfl rfl ?_
        refine dp_sk rfl rfl rfl rfl ?_
        refine dp_sk rfl rfl rfl rfl ?_
        refine dr_sk rfl rfl rfl rfl ?_
        refine dr_sk rfl rfl rfl rfl ?_
        refine dp_v rfl (v_pick_false rfl rfl) (dp_v rfl (v_move rfl) (dr_sk rfl rfl rfl rfl ?_))
        refine dp_sk rfl rfl rfl rfl ?_
        refine dp_sk rfl rfl rfl rfl ?_
        refine dr_sk rfl rfl rfl rfl ?_
        refine dr_sk rfl rfl rfl rfl ?_
        refine dp_sk rfl rfl rfl rfl ?_
        refine dp_sk rfl rfl rfl rfl ?_
        refine dr_sk rfl rfl rfl rfl ?_
        refine dp_sk rfl rfl rfl rfl ?_
        refine dp_v rfl (v_pick_false rfl rfl) (dr_nil (nx_kp [4, 95] rfl (nx_then (cd_false rfl ?_))))
        refine cd_skip (xt_normal_block (xt_round (by repeat (first | exact Sel.here | apply Sel.there)) ⟨(), rfl, .inl ⟨rfl, trivial⟩⟩ ?_))
        rw [rec_back hst hpe]
        unfold refH
        try dsimp only
        exact (by repeat (first | exact Sub.refl _ | exact Sub.nil _ | refine Sub.sel (by repeat (first | exact Sel.here | apply Sel.there)) ?_ | apply Sub.cons))
    · unfold refH
      exact (by repeat (first | exact Pm.refl | refine Pm.cons (by repeat (first | exact Sel.here | apply Sel.there)) ?_) : Pm _ _).perm
  · unfold refH
    exact (by repeat (first | exact Pm.refl | refine Pm.cons (by repeat (first | exact Sel.here | apply Sel.there)) ?_) : Pm _ _).perm
  · rintro v' h' ⟨rfl, ⟨⟩, rfl, (_ | hf)⟩
    · refine ⟨rec, _, (by unfold refH; repeat (first | exact Sel.here | apply Sel.there)), (by rw [hst]; simp), ?_⟩
      rw [hpe]
      dsimp only
      refine xt_normal_block (xt_then (cd_seq (cd_region (st_sto rfl rfl sz4 ?_))))
      refine st_nil (nx_kp [4] rfl (nx_then (cd_ret (xt_retMV (bs := [db]) (k := pt b4 (cl [.bool true] 4) :: (pt g1 (cl [.pointer (some ⟨L.mb, 0, none⟩)] 27) :: pt g2 (cl [.pointer (some ⟨L.y.sb, 0, none⟩)] 95) :: memSH L μ S ++ hr)) rfl (.cell1 rfl ld4 (at_here (rd_cl rfl)) .nil) ⟨rfl, rfl⟩ ?_ ?_))))
      · unfold memSH
        exact Sub.cons (Sub.refl _)
      · unfold memSH marks
        simp only [List.cons_append, List.nil_append, List.map_cons, List.map_nil]
        exact (by repeat (first | exact Sub.refl _ | exact Sub.nil _ | refine Sub.sel (by repeat (first | exact Sel.here | apply Sel.there)) ?_ | apply Sub.cons))
    · exact hf.elim
set_option maxHeartbeats 4000000 in
set_option maxRecDepth 100000 in
theorem finen_c {g1 g2 : Nat} (I : MI L μ S m) (h : AM.Good m ly ln lf φ A) {t : Int} (ht : t ∈ ln) : Reads Try.prog 69 #[.int .i64 t, .pointer (some ⟨g1, 0, none⟩), .pointer (some ⟨g2, 0, none⟩)] (pt g1 (cl [.pointer (some ⟨L.mb, 0, none⟩)] 27) :: pt g2 (cl [.pointer (some ⟨L.n.sb, 0, none⟩)] 95) :: memSH L μ S) (.bool true) := by
  have oy := I.r.oky h.g; have on := I.r.okn h.g; have oo := I.r.oko h.g; have hS := I.shp'; have hl := I.r.shl h.g
  have h1y := oy.us; have h2y := oy.fr; have h3y := oy.ws; have h1n := on.us; have h2n := on.fr; have h3n := on.ws
  have e1 := I.r.y.fr; have e2 := I.r.y.us; have e3 := I.r.n.fr; have e4 := I.r.n.us; have e5 := I.r.y.ln; have e6 := I.r.n.ln
  have hob := h.g.oldle; have hyb := h.g.yl
  have hbd : (μ.n.fr : Int) ≤ t ∧ t + m.size t ≤ (μ.n.fr : Int) + μ.n.us ∧ μ.n.wd t = m.head t - 1 ∧ 0 < m.head t ∧ m.head t ≤ m.sh.length ∧ μ.n.Ok := by
    first
      | (have hb := h.g.ybd ht; exact ⟨by omega, by omega, I.r.wdy h.g ht, h.g.yhead ht, h.g.y.ok t ht, oy⟩)
      | (have hb := h.g.obd ht; exact ⟨by omega, by omega, I.r.wdn h.g ht, h.g.ohead ht, h.g.o.ok t ht, on⟩)
  obtain ⟨b1, b2, b3', b4', b5, b6⟩ := hbd
  have b7 := b6.us; have b8 := b6.ws; have b9 := b6.fr
  have hrl : ((m.row t).length : Int) ≤ 100 := by have := hl.at (m.head t - 1); rw [shAt_row I.r] at this; omega
  have hsz : m.size t = 1 + (m.row t).length := rfl
  obtain ⟨j1, hj1, hj2⟩ := info_of i117
  unfold memSH
  refine ct_ofM (n := 96) Try.func69 rfl rfl (len rfl) fun hr w0 => ?_
  simp only [List.cons_append, List.nil_append]
  refine cd_seq (cd_region (st_bx rfl rfl fun b3 => ?_))
  refine st_alc al4 fun b4 => ?_
  refine st_nil (nx_kp [1, 2, 3, 4] rfl (nx_then (cd_seq (cd_seq (cd_region (st_v (v_ld rfl ld27) ?_))))))
  refine st_v (v_ld rfl ld95) ?_
  refine st_v (v_ld rfl ld3) ?_
  refine st_cl rfl rfl en70 rfl (refs_ct (mp := .pointer (some ⟨L.mb, 0, none⟩)) (sp := .pointer (some ⟨L.n.sb, 0, none⟩)) (t := t) rfl rfl) ?_
  rintro v' h' ⟨c1, c2, c3, rfl, rfl⟩
  simp only [List.cons_append, List.nil_append]
  refine st_nil (nx_kp [1, 2, 3, 4, 13] rfl (nx_then (cd_block (cd_range' rfl en108 fun yl db rec hst hpe hps has hbo hkn2 => ?_))))
  refine ⟨_, Ct.perm (refs1_ct (σ := Unit) (L := L) (S := S) (sh := μ.sh) (l := L.n) (b1 := c1) (b2 := c2) (b3 := c3) (yl := yl) (fr := μ.n.fr) (ln := μ.n.ws.length) (t := t) (row := m.row t) (fun _ => μ) (fun _ => μ.n)
    (fun _ => pt yl (.loop rec) :: pt db (.deferred (some [])) :: tb L.n μ.n :: sb L.y μ.y :: wb L.y μ.y :: tb L.y μ.y :: pt b4 (cl [.bool false] 4) :: pt b3 (cl [.int .i64 t] 3) :: pt g1 (cl [.pointer (some ⟨L.mb, 0, none⟩)] 27) :: pt g2 (cl [.pointer (some ⟨L.n.sb, 0, none⟩)] 95) :: sb L.o μ.o :: wb L.o μ.o :: tb L.o μ.o :: knR L μ :: mpr L.mvb (mvv μ.mv) :: hr)
    (fun _ _ => True) (fun _ => False) () trivial hS hl (by rw [b3']; omega) (by rw [b3', I.r.sh]; omega) (by rw [b3', shAt_row I.r]) (fun _ _ _ => ⟨b6, rfl, rfl⟩) b1 (by omega) ?_ (fun _ _ _ _ _ => trivial)) ?_, ?_⟩
  · rintro j ⟨⟩ hj hrow _
    have hw := fineWord I h (t := t) (j := j) (.inr ht) hj hrow
    have hwd : μ.n.ws.getD (t + 1 + j - μ.n.fr).toNat 0 = m.word (t + 1 + j) := I.r.wordn (by omega) (by omega) (h.g.inner ht (by omega) (by unfold AM.size; omega))
    generalize m.word (t + 1 + j) = w at hw hwd
    obtain ⟨hw1, hw2⟩ := hw
    have hrd : Rd (wb L.n μ.n) ⟨L.n.wb, (t + 1 + j - μ.n.fr).toNat, none⟩ (.int .i64 w) := by
      rw [← hwd]; exact rd_ints (by omega)
    refine Yc.perm (yc_of (n := 96) (rec := rec) (args := [.int .i64 j, .pointer (some ⟨L.n.wb, (t + 1 + j - μ.n.fr).toNat, none⟩)])
      (hf := pt c1 (cl [.pointer (some ⟨L.mb, 0, none⟩)] 27) :: pt c2 (cl [.pointer (some ⟨L.n.sb, 0, none⟩)] 95) :: pt c3 (cl [.int .i64 t] 3) :: mb L μ :: sb L.n μ.n :: wb L.n μ.n :: S :: pt db (.deferred (some [])) :: tb L.n μ.n :: sb L.y μ.y :: wb L.y μ.y :: tb L.y μ.y :: pt b4 (cl [.bool false] 4) :: pt b3 (cl [.int .i64 t] 3) :: pt g1 (cl [.pointer (some ⟨L.mb, 0, none⟩)] 27) :: pt g2 (cl [.pointer (some ⟨L.n.sb, 0, none⟩)] 95) :: sb L.o μ.o :: wb L.o μ.o :: tb L.o μ.o :: knR L μ :: mpr L.mvb (mvv μ.mv) :: hr) (by rw [hps]; rfl) hkn2 (by rw [hps]; decide) ?_) ?_
    · intro hr2 w1
      rw [has, hps, hbo]
      simp only [List.cons_append, List.nil_append]
      refine cd_seq (cd_region (st_v (v_assign rfl) (st_nil (nx_kp [1, 2, 3, 4, 5, 15] rfl (nx_then (cd_region (st_v (v_assign rfl) (st_nil (nx_kp [1, 2, 3, 4, 5, 6] rfl (nx_xt (xt_mid rfl (by repeat (first | exact Sel.here | apply Sel.there)) (by first | rfl | assumption) ?_)))))))))))
      refine cd_block (cd_seq (cd_drawh (ork [(0, 1), (1, 2), (2, 2), (3, 1), (4, 1), (5, 2), (6, 2), (7, 2), (8, 2), (9, 2)] .nil) (fun _ => true) mixed (by kernel_rfl) ?_))
      refine dr_v rfl (v_ld rfl ld27) ?_
      refine dp_v rfl (v_move rfl) (dp_v rfl (v_nilCheck rfl) (dr_v rfl (v_ld rfl ld3) ?_))
      refine dr_clr rfl rfl rfl en71 rfl (current_ct (L := L) (μ := μ) (t := w) oy on I.yn) ?_
      refine dp_v rfl (v_move rfl) (dp_v rfl (v_extract rfl rfl) (dp_v rfl (v_extract rfl rfl) (dp_v rfl (v_assign rfl) (dp_v rfl (v_assign rfl) (dr_nil (nx_kp [1, 2, 3, 4, 5, 6, 8] rfl (nx_then (cd_seq (cd_drawh (ork [(0, 1), (1, 2), (2, 2), (3, 1), (4, 2), (5, 1), (6, 2), (7, 2), (8, 1), (9, 2), (10, 2), (11, 1), (12, 1), (13, 2), (14, 2), (15, 1), (16, 1), (17, 2), (18, 2), (19, 1), (20, 1), (21, 2), (22, 2), (23, 1), (24, 2), (25, 2), (26, 2), (27, 1), (28, 2), (29, 2), (30, 1), (31, 2), (32, 2), (33, 2)] .nil) (fun _ => true) mixed (by kernel_rfl) ?_)))))))))
      refine dr_v rfl (v_ld rfl ld27) ?_
      refine dp_v rfl (v_nilCheck rfl) (dp_v rfl (v_fieldAddr rfl fa100_5 rfl) (dr_v rfl (v_ld rfl ld4) ?_))
      refine dp_v rfl (v_move rfl) (dr_cut (k := 9) (d := 37) (v := .bool (μ.bu && μ.o.begins w)) (fun hcut => bool_want (b := μ.bu) true (fun hg => ?_) (fun hg => ?_)) ?_)
      · refine dr_sk rfl rfl rfl hg ?_
        refine dp_sk rfl rfl rfl hg ?_
        refine dp_sk rfl rfl rfl hg ?_
        refine dr_sk rfl rfl rfl hg ?_
        refine dp_sk rfl rfl rfl hg ?_
        refine dp_sk rfl rfl rfl hg ?_
        refine dr_sk rfl rfl rfl hg ?_
        refine dr_sk rfl rfl rfl hg ?_
        refine dp_v rfl (v_pick_false (bool_ev rfl hg) rfl) ?_
        exact hcut _ (ssub_head (by first | rfl | (rw [hg]; rfl) | simp_all) (ssub_skip rfl (ssub_skip rfl (ssub_skip rfl (ssub_skip rfl (ssub_skip rfl (ssub_skip rfl (ssub_skip rfl (ssub_skip rfl (ssub_refl))))))))))
      · skip
        refine dr_vg rfl rfl (bool_get rfl hg) (v_ld rfl ld27) ?_
        refine dp_vg rfl rfl (bool_get rfl hg) (v_nilCheck rfl) (dp_vg rfl rfl (bool_get rfl hg) (v_fieldAddr rfl fa100_3 rfl) (dr_vg rfl rfl (bool_get rfl hg) (v_ld rfl ld95) ?_))
        refine dp_vg rfl rfl (bool_get rfl hg) (v_move rfl) (dp_vg rfl rfl (bool_get rfl hg) (v_nilCheck rfl) (dr_vg rfl rfl (bool_get rfl hg) (v_ld rfl ld3) ?_))
        refine dr_clrg rfl rfl (bool_get rfl hg) rfl rfl en72 rfl (begins_ct (l := L.o) (s := μ.o) (t := w) oo) ?_
        refine dp_v rfl (v_pick_true (bool_ev rfl hg) rfl) ?_
        exact hcut _ (ssub_head (by first | rfl | (rw [hg]; rfl) | simp_all) (ssub_skip rfl (ssub_skip rfl (ssub_skip rfl (ssub_skip rfl (ssub_skip rfl (ssub_skip rfl (ssub_skip rfl (ssub_skip rfl (ssub_refl))))))))))
      refine dp_v rfl (v_move rfl) (dr_cut (k := 7) (d := 45) (v := .bool ((μ.bu && μ.o.begins w) && true)) (fun hcut => bool_want (b := (μ.bu && μ.o.begins w)) true (fun hg => ?_) (fun hg => ?_)) ?_)
      · refine dr_sk rfl rfl rfl hg ?_
        refine dr_sk rfl rfl rfl hg ?_
        refine dp_sk rfl rfl rfl hg ?_
        refine dp_sk rfl rfl rfl hg ?_
        refine dr_sk rfl rfl rfl hg ?_
        refine dr_sk rfl rfl rfl hg ?_
        refine dp_v rfl (v_pick_false (bool_ev rfl hg) rfl) ?_
        exact hcut _ (ssub_head (by first | rfl | (rw [hg]; rfl) | simp_all) (ssub_skip rfl (ssub_skip rfl (ssub_skip rfl (ssub_skip rfl (ssub_skip rfl (ssub_skip rfl (ssub_refl))))))))
      · skip
        refine dr_vg rfl rfl (bool_get rfl hg) (v_ld rfl ld95) ?_
        refine dr_vg rfl rfl (bool_get rfl hg) (v_ld rfl ld27) ?_
        refine dp_vg rfl rfl (bool_get rfl hg) (v_nilCheck rfl) (dp_vg rfl rfl (bool_get rfl hg) (v_fieldAddr rfl fa100_2 rfl) (dr_vg rfl rfl (bool_get rfl hg) (v_ld rfl ld95) ?_))
        refine dr_vg rfl rfl (bool_get rfl hg) (v_eql_ptr_same rfl rfl pt95 hj1) (dp_v rfl (v_pick_true (bool_ev rfl hg) rfl) ?_)
        exact hcut _ (ssub_head (by first | rfl | (rw [hg]; rfl) | simp_all) (ssub_skip rfl (ssub_skip rfl (ssub_skip rfl (ssub_skip rfl (ssub_skip rfl (ssub_skip rfl (ssub_refl))))))))
      refine dp_v rfl (v_move rfl) (dr_cut (k := 10) (d := 56) (v := .bool (((μ.bu && μ.o.begins w) && true) && decide (μ.sc ≤ t + 1 + j))) (fun hcut => bool_want (b := ((μ.bu && μ.o.begins w) && true)) true (fun hg => ?_) (fun hg => ?_)) ?_)
      · refine dr_sk rfl rfl rfl hg ?_
        refine dp_sk rfl rfl rfl hg ?_
        refine dp_sk rfl rfl rfl hg ?_
        refine dp_sk rfl rfl rfl hg ?_
        refine dr_sk rfl rfl rfl hg ?_
        refine dp_sk rfl rfl rfl hg ?_
        refine dp_sk rfl rfl rfl hg ?_
        refine dr_sk rfl rfl rfl hg ?_
        refine dp_sk rfl rfl rfl hg ?_
        refine dp_v rfl (v_pick_false (bool_ev rfl hg) rfl) ?_
        exact hcut _ (ssub_head (by first | rfl | (rw [hg]; rfl) | simp_all) (ssub_skip rfl (ssub_skip rfl (ssub_skip rfl (ssub_skip rfl (ssub_skip rfl (ssub_skip rfl (ssub_skip rfl (ssub_skip rfl (ssub_skip rfl (ssub_refl)))))))))))
      · skip
        refine dr_vg rfl rfl (bool_get rfl hg) (v_ld rfl ld3) ?_
        refine dp_vg rfl rfl (bool_get rfl hg) (v_add rfl rfl (by unfold I64 at *; omega)) (dp_vg rfl rfl (bool_get rfl hg) (v_move rfl) (dp_vg rfl rfl (bool_get rfl hg) (v_add rfl rfl (by unfold I64 at *; omega)) (dr_vg rfl rfl (bool_get rfl hg) (v_ld rfl ld27) ?_)))
        refine dp_vg rfl rfl (bool_get rfl hg) (v_nilCheck rfl) (dp_vg rfl rfl (bool_get rfl hg) (v_fieldAddr rfl fa100_6 rfl) (dr_vg rfl rfl (bool_get rfl hg) (v_ld rfl ld3) ?_))
        refine dp_vg rfl rfl (bool_get rfl hg) (v_geq rfl rfl) (dp_v rfl (v_pick_true (bool_ev rfl hg) rfl) ?_)
        exact hcut _ (ssub_head (by first | rfl | (rw [hg]; rfl) | simp_all) (ssub_skip rfl (ssub_skip rfl (ssub_skip rfl (ssub_skip rfl (ssub_skip rfl (ssub_skip rfl (ssub_skip rfl (ssub_skip rfl (ssub_skip rfl (ssub_refl)))))))))))
      refine dp_v rfl (v_assign rfl) (dr_nil (nx_kp [1, 2, 3, 4, 5, 6, 8, 9] rfl (nx_then (cd_seq (cd_seq (cd_region (st_v (v_move rfl) (st_v (v_nilCheck rfl) (st_v (v_ld rfl ld3) ?_)))))))))
      refine st_v (v_neq rfl rfl) (st_v (v_move rfl) (st_cut (k := 8) (d := 64) (v := .bool (w != 0 && !μ.cur w)) (fun hcut => bool_want (b := (w != 0)) true (fun hg => ?_) (fun hg => ?_)) ?_))
      · refine st_sk rfl rfl hg ?_
        refine st_sk rfl rfl hg ?_
        refine st_v (v_pick_false (bool_ev rfl hg) rfl) ?_
        exact hcut _ (ssub_head (by first | rfl | (rw [hg]; rfl) | simp_all) (ssub_skip rfl (ssub_skip rfl (ssub_refl))))
      · skip
        refine st_vg rfl (bool_get rfl hg) (v_move rfl) (st_vg rfl (bool_get rfl hg) (v_not rfl) (st_v (v_pick_true (bool_ev rfl hg) rfl) ?_))
        exact hcut _ (ssub_head (by first | rfl | (rw [hg]; rfl) | simp_all) (ssub_skip rfl (ssub_skip rfl (ssub_refl))))
      refine st_v (v_move rfl) (st_cut (k := 12) (d := 68) (v := .bool ((w != 0 && !μ.cur w) && !(((μ.bu && μ.o.begins w) && true) && decide (μ.sc ≤ t + 1 + j)))) (fun hcut => bool_want (b := (w != 0 && !μ.cur w)) true (fun hg => ?_) (fun hg => ?_)) ?_)
      · refine st_sk rfl rfl hg ?_
        refine st_sk rfl rfl hg ?_
        refine st_v (v_pick_false (bool_ev rfl hg) rfl) ?_
        exact hcut _ (ssub_head (by first | rfl | (rw [hg]; rfl) | simp_all) (ssub_skip rfl (ssub_skip rfl (ssub_refl))))
      · skip
        refine st_vg rfl (bool_get rfl hg) (v_move rfl) (st_vg rfl (bool_get rfl hg) (v_not rfl) (st_v (v_pick_true (bool_ev rfl hg) rfl) ?_))
        exact hcut _ (ssub_head (by first | rfl | (rw [hg]; rfl) | simp_all) (ssub_skip rfl (ssub_skip rfl (ssub_refl))))
      refine st_nil (nx_kp [1, 2, 3, 4, 5, 6, 68] rfl (nx_then (cd_cond rfl (fun q1 => ?_) (fun q1 => ?_))))
      · skip
        exfalso
        simp only [Bool.and_eq_true, Bool.not_eq_true', bne_iff_ne, ne_eq] at q1
        rcases hw1 with hw | hw | hw
        · exact q1.1.1 hw
        · rw [hw] at q1; cases q1.1.2
        · first
            | exact absurd ht (h.g.oy hw.1)
            | (rw [hw.2.1, hw.2.2.1] at q1; simp at q1; omega)
      · skip
        refine cd_skip (xt_then (cd_seq (cd_drawh (ork [(0, 1), (1, 1), (2, 2), (3, 2), (4, 1), (5, 1), (6, 2), (7, 1), (8, 2), (9, 2), (10, 1), (11, 2), (12, 2), (13, 1), (14, 1), (15, 2), (16, 2), (17, 1), (18, 2), (19, 2), (20, 1), (21, 1), (22, 2), (23, 2), (24, 1), (25, 2), (26, 2)] .nil) (fun _ => true) mixed (by kernel_rfl) ?_)))
        refine dr_v rfl (v_ld rfl ld95) ?_
        refine dr_v rfl (v_ld rfl ld27) ?_
        refine dp_v rfl (v_nilCheck rfl) (dp_v rfl (v_fieldAddr rfl fa100_2 rfl) (dr_v rfl (v_ld rfl ld95) ?_))
        refine dr_v rfl (v_eql_ptr_same rfl rfl pt95 hj1) (dp_v rfl (v_move rfl) (dr_vg rfl rfl rfl (v_ld rfl ld27) ?_))
        refine dp_vg rfl rfl rfl (v_nilCheck rfl) (dp_vg rfl rfl rfl (v_fieldAddr rfl fa100_1 rfl) (dr_vg rfl rfl rfl (v_ld rfl ld95) ?_))
        refine dp_vg rfl rfl rfl (v_move rfl) (dp_vg rfl rfl rfl (v_nilCheck rfl) (dr_vg rfl rfl rfl (v_ld rfl ld3) ?_))
        refine dr_clrg rfl rfl rfl rfl rfl en72 rfl (begins_ct (l := L.y) (s := μ.y) (t := w) oy) ?_
        refine dp_v rfl (v_pick_true rfl rfl) (dp_v rfl (v_move rfl) (dr_cut (k := 10) (d := 95) (v := .bool (μ.y.begins w && !μ.kn.contains (t, (j : Int)))) (fun hcut => bool_want (b := μ.y.begins w) true (fun hg => ?_) (fun hg => ?_)) ?_))
        · refine dr_sk rfl rfl rfl hg ?_
          refine dp_sk rfl rfl rfl hg ?_
          refine dp_sk rfl rfl rfl hg ?_
          refine dr_sk rfl rfl rfl hg ?_
          refine dr_sk rfl rfl rfl hg ?_
          refine dp_sk rfl rfl rfl hg ?_
          refine dp_sk rfl rfl rfl hg ?_
          refine dr_sk rfl rfl rfl hg ?_
          refine dp_sk rfl rfl rfl hg ?_
          refine dp_v rfl (v_pick_false (bool_ev rfl hg) rfl) ?_
          exact hcut _ (ssub_head (by first | rfl | (rw [hg]; rfl) | simp_all) (ssub_skip rfl (ssub_skip rfl (ssub_skip rfl (ssub_skip rfl (ssub_skip rfl (ssub_skip rfl (ssub_skip rfl (ssub_skip rfl (ssub_skip rfl (ssub_refl)))))))))))
        · skip
          refine dr_vg rfl rfl (bool_get rfl hg) (v_ld rfl ld27) ?_
          refine dp_vg rfl rfl (bool_get rfl hg) (v_nilCheck rfl) (dp_vg rfl rfl (bool_get rfl hg) (v_fieldAddr rfl fa100_4 rfl) (dr_vg rfl rfl (bool_get rfl hg) (v_ld rfl ld98) ?_))
          refine dr_vg rfl rfl (bool_get rfl hg) (v_ld rfl ld3) ?_
          refine dp_vg rfl rfl (bool_get rfl hg) (v_move rfl) (dp_vg rfl rfl (bool_get rfl hg) (v_build (cells := [.int .i64 t, .int .i64 j]) rfl (fun _ => by kernel_rfl)) ?_)
          refine dr_clrg rfl rfl (bool_get rfl hg) rfl rfl en73 rfl (contains_ct (v := L.vk) (l := μ.kn) (x := (t, (j : Int))) (I.kn h).1) ?_
          refine dp_vg rfl rfl (bool_get rfl hg) (v_not rfl) (dp_v rfl (v_pick_true (bool_ev rfl hg) rfl) ?_)
          exact hcut _ (ssub_head (by first | rfl | (rw [hg]; rfl) | simp_all) (ssub_skip rfl (ssub_skip rfl (ssub_skip rfl (ssub_skip rfl (ssub_skip rfl (ssub_skip rfl (ssub_skip rfl (ssub_skip rfl (ssub_skip rfl (ssub_refl)))))))))))
        refine dr_nil (nx_kp [4, 95] rfl (nx_then (cd_cond rfl (fun q2 => ?_) (fun q2 => ?_))))
        · skip
          exfalso
          simp only [Bool.and_eq_true, Bool.not_eq_true'] at q2
          rw [hw2 ht q2.1] at q2
          cases q2.2
        refine cd_skip (xt_normal_block (xt_round (by repeat (first | exact Sel.here | apply Sel.there)) ⟨(), rfl, .inl ⟨rfl, trivial⟩⟩ ?_))
        rw [rec_back hst hpe]
        unfold refH
        try dsimp only
        exact (by repeat (first | exact Sub.refl _ | exact Sub.nil _ | refine Sub.sel (by repeat (first | exact Sel.here | apply Sel.there)) ?_ | apply Sub.cons))
    · unfold refH
      exact (by repeat (first | exact Pm.refl | refine Pm.cons (by repeat (first | exact Sel.here | apply Sel.there)) ?_) : Pm _ _).perm
  · unfold refH
    exact (by repeat (first | exact Pm.refl | refine Pm.cons (by repeat (first | exact Sel.here | apply Sel.there)) ?_) : Pm _ _).perm
  · rintro v' h' ⟨rfl, ⟨⟩, rfl, (_ | hf)⟩
    · refine ⟨rec, _, (by unfold refH; repeat (first | exact Sel.here | apply Sel.there)), (by rw [hst]; simp), ?_⟩
      rw [hpe]
      dsimp only
      refine xt_normal_block (xt_then (cd_seq (cd_region (st_sto rfl rfl sz4 ?_))))
      refine st_nil (nx_kp [4] rfl (nx_then (cd_ret (xt_retMV (bs := [db]) (k := pt b4 (cl [.bool true] 4) :: (pt g1 (cl [.pointer (some ⟨L.mb, 0, none⟩)] 27) :: pt g2 (cl [.pointer (some ⟨L.n.sb, 0, none⟩)] 95) :: memSH L μ S ++ hr)) rfl (.cell1 rfl ld4 (at_here (rd_cl rfl)) .nil) ⟨rfl, rfl⟩ ?_ ?_))))
      · unfold memSH
        exact Sub.cons (Sub.refl _)
      · unfold memSH marks
        simp only [List.cons_append, List.nil_append, List.map_cons, List.map_nil]
        exact (by repeat (first | exact Sub.refl _ | exact Sub.nil _ | refine Sub.sel (by repeat (first | exact Sel.here | apply Sel.there)) ?_ | apply Sub.cons))
    · exact hf.elim
end
end Go.Proofs.Ytmhmpjgkkpbnnaa
namespace Go.Ck
open Go
section
variable {P : Program} {e : Env} {h h' : SH} {ty : TypeId}
/-- s[lo:hi], wherever it begins. -/
theorem v_sliceX {T E : TypeId} {x y z : Operand} {b n cp lo hi : Nat} {i j : Int} {k k' : IntKind} (hx : e.ev? x = some (.slice (some ⟨b, 0, none⟩) n cp)) (hy : e.ev? y = some (.int k i)) (hz : e.ev? z = some (.int k' j)) (hT : SlE P T E 1)
    (hi' : i = (lo : Int)) (hj : j = (hi : Int)) (h1 : lo ≤ hi) (h2 : hi ≤ cp) : Vop P e h (.slice T x (some y) (some z) none) ty (.slice (some ⟨b, if cp = lo then 0 else lo, none⟩) (hi - lo) (cp - lo)) :=
  ⟨by simp, by simp, fun ρ w d pos after g hρ _ => by
    subst hi' hj
    have hT' : P.underlying T = some (.slice (P.elem T)) := by simp [Program.elem, hT.1]
    have he : P.elem T = E := by simp [Program.elem, hT.1]
    have hr := run_slice_lh (P := P) w T (some ⟨b, 0, none⟩) n cp hT' k k' lo hi (by omega) (by omega) (by omega)
    by_cases hc : cp = lo
    · simp only [he, hT.2 w, Result.andThen_ok, sliced, Int.toNat_natCast, if_pos hc] at hr
      simp only [if_pos hc, execOp, hρ x _ hx, Option.map_some, Option.map_none, hρ y _ hy, hρ z _ hz, Sem.run_bind, run_sliceAt_slice w T _ _ _ _ hT', hr, Result.andThen_ok, Sem.run_pure]
    · simp only [he, hT.2 w, Result.andThen_ok, sliced, Int.toNat_natCast, if_neg hc, Option.map_some, Addr.add_lit, Nat.mul_one, Nat.zero_add] at hr
      simp only [if_neg hc, execOp, hρ x _ hx, Option.map_some, Option.map_none, hρ y _ hy, hρ z _ hz, Sem.run_bind, run_sliceAt_slice w T _ _ _ _ hT', hr, Result.andThen_ok, Sem.run_pure]⟩
end
end Go.Ck
namespace Go.Proofs.Ytmhmpjgkkpbnnaa
open Go.Ck Fx Go.Hm Go.Hm.AM
attribute [local irreducible] St Cd Xt Nx DrL LsW
section
variable {L : MemL} {μ : Mem} {S R : Res} {m : AM} {ly ln lf : List Int} {φ : Int → Option Nat} {A : Store} {v : Value} {roots : List Int}
set_option maxHeartbeats 4000000 in
set_option maxRecDepth 100000 in
theorem orderedy_c {g1 g2 : Nat} (I : MI L μ S m) (h : AM.Good m ly ln lf φ A) : Reads Try.prog 74 #[.pointer (some ⟨L.mb, 0, none⟩), .pointer (some ⟨L.y.sb, 0, none⟩), .func (.func 69) #[] #[.pointer (some ⟨g1, 0, none⟩), .pointer (some ⟨g2, 0, none⟩)]] (pt g1 (cl [.pointer (some ⟨L.mb, 0, none⟩)] 27) :: pt g2 (cl [.pointer (some ⟨L.y.sb, 0, none⟩)] 95) :: memSH L μ S) (.bool true) := by
  have hfine := fun (a : Int) (ha : a ∈ ly) => finey_c (g1 := g1) (g2 := g2) I h ha
  have oy := I.r.oky h.g; have on := I.r.okn h.g; have hS := I.shp'; have hl := I.r.shl h.g
  have e1 := I.r.y.fr; have e2 := I.r.y.us; have e3 := I.r.n.fr; have e4 := I.r.n.us; have e5 := I.r.y.ln; have e6 := I.r.n.ln
  have hob := h.g.oldle; have hyb := h.g.yl; have hn1 := h.g.newle
  have oX : μ.y.Ok := by assumption
  have h1x := oX.us; have h2x := oX.fr; have h3x := oX.ws; have h4x := oX.st
  have hX : (μ.y.fr : Int) = (1 : Int) ∧ (μ.y.fr : Int) + μ.y.us = m.new := by omega
  have hTl : Tl m.size (1 : Int) m.new ly := by first | exact h.g.y.tl | exact h.g.o.tl
  have hwd : ∀ a ∈ ly, μ.y.wd a = m.head a - 1 ∧ 0 < m.head a ∧ m.head a ≤ m.sh.length ∧ μ.y.begins a = true := fun a ha => by
    first
      | exact ⟨I.r.wdy h.g ha, h.g.yhead ha, h.g.y.ok a ha, by rw [I.r.by_ h.g, (h.g.isY_iff (h.g.yhead ha)).2 ha]; simp [h.g.yhead ha]⟩
      | exact ⟨I.r.wdn h.g ha, h.g.ohead ha, h.g.o.ok a ha, by rw [I.r.bn h.g]; simp [h.g.ohead ha]; rw [isO_iff]; have := h.g.obd ha; omega⟩
  have hst : ∀ i, i < μ.y.st.length → μ.y.st.getD i false = decide (0 < m.head ((1 : Int) + i)) := by first | exact I.r.y.sts | exact I.r.n.sts
  unfold memSH at hfine ⊢
  refine ct_of (n := 80) Try.func74 rfl rfl (len rfl) fun hr w0 => ?_
  simp only [List.cons_append, List.nil_append] at hfine ⊢
  refine cd_seq (cd_region (st_v (v_assign rfl) (st_nil (nx_then (cd_seq (cd_region (st_v (v_move rfl) (st_v (v_nilCheck rfl) (st_v (v_fieldAddr rfl fa117_0 rfl) (st_v (v_fieldAddr rfl fa115_1 rfl) (st_v (v_ld rfl ld3) ?_)))))))))))
  refine st_v (v_assign rfl) (st_nil (nx_kp [0, 1, 2, 6, 7] rfl (nx_then (cd_seq (cd_block ?_)))))
  refine cd_lp (σ := Int) (fun a => [(0, .pointer (some ⟨L.mb, 0, none⟩)), (1, .pointer (some ⟨L.y.sb, 0, none⟩)), (2, .func (.func 69) #[] #[.pointer (some ⟨g1, 0, none⟩), .pointer (some ⟨g2, 0, none⟩)]), (7, .int .i64 a)]) (fun _ => pt g1 (cl [.pointer (some ⟨L.mb, 0, none⟩)] 27) :: pt g2 (cl [.pointer (some ⟨L.y.sb, 0, none⟩)] 95) :: memSH L μ S ++ hr) (fun a => a ∈ ly ∨ a = m.new) (fun a => (m.new - a).toNat) (μ.y.fr : Int) (by
    rw [hX.1]
    cases hlx : ly with
    | nil => rw [hlx] at hTl; exact .inr hTl
    | cons b k => rw [hlx] at hTl; exact .inl (by rw [hTl.1]; simp)) ?_
  rintro a ha
  unfold memSH
  simp only [List.cons_append, List.nil_append]
  refine cd_seq (cd_seq (cd_drawh (ork [(0, 2), (1, 2), (2, 2), (3, 2), (4, 2), (5, 1), (6, 2), (7, 2), (8, 2), (9, 2), (10, 1), (11, 2), (12, 2)] .nil) (fun _ => true) mixed (by kernel_rfl) ?_))
  refine dp_v rfl (v_move rfl) (dp_v rfl (v_move rfl) (dp_v rfl (v_nilCheck rfl) (dp_v rfl (v_fieldAddr rfl fa117_0 rfl) (dp_v rfl (v_fieldAddr rfl fa115_1 rfl) (dr_v rfl (v_ld rfl ld3) ?_)))))
  refine dp_v rfl (v_move rfl) (dp_v rfl (v_nilCheck rfl) (dp_v rfl (v_fieldAddr rfl fa117_0 rfl) (dp_v rfl (v_fieldAddr rfl fa115_2 rfl) (dr_v rfl (v_ld rfl ld3) ?_))))
  refine dp_v rfl (v_add rfl rfl (by unfold I64 at *; omega)) (dp_v rfl (v_lss rfl rfl) (dr_nil (nx_kp [0, 1, 2, 7, 26] rfl (nx_then (cd_cond rfl (fun hc => ?_) (fun hc => ?_))))))
  · skip
    have hlt : a < m.new := by simp at hc; omega
    have ha' : a ∈ ly := ha.resolve_right (by omega)
    obtain ⟨w1, w2, w3, w4⟩ := hwd a ha'
    have hb := hTl.mem a ha'
    have hsz : (1 : Int) + (shAt μ.sh (μ.y.wd a)).length = m.size a := by rw [w1, shAt_row I.r]; rfl
    refine cd_skip (xt_then (cd_block (cd_seq (cd_seq (cd_region (st_v (v_move rfl) (st_v (v_move rfl) (st_clr rfl rfl en72 rfl (begins_ct (l := L.y) (s := μ.y) (t := a) oX) ?_))))))))
    rw [w4]
    refine st_v (v_not rfl) (st_v (v_move rfl) (st_vg rfl rfl (v_move rfl) (st_vg rfl rfl (v_move rfl) (st_clrg rfl rfl rfl rfl en69 rfl (hfine a ha') ?_))))
    refine st_vg rfl rfl (v_not rfl) (st_v (v_pick_false rfl rfl) (st_nil (nx_kp [0, 1, 2, 7, 36] rfl (nx_then (cd_false rfl ?_)))))
    refine cd_skip (xt_then (cd_seq (cd_region (st_v (v_move rfl) (st_v (v_move rfl) (st_v (v_move rfl) (st_clr rfl rfl en112 rfl (size_ct (L := L) (μ := μ) (S := S) (l := L.y) (s := μ.y) (t := a) oX (by omega) (by omega) hS hl (by rw [w1]; omega) (by rw [w1, I.r.sh]; omega)) ?_)))))))
    rw [hsz]
    refine st_v (v_assign rfl) (st_nil (nx_kp [0, 1, 2, 7, 8] rfl (nx_then (cd_seq (cd_seq (cd_drawh (ork [(0, 2), (1, 2), (2, 2), (3, 1), (4, 2), (5, 2), (6, 2), (7, 2), (8, 2), (9, 1), (10, 2), (11, 2), (12, 2), (13, 2), (14, 2), (15, 2), (16, 2), (17, 1), (18, 2), (19, 2), (20, 2), (21, 1), (22, 1)] .nil) (fun _ => true) mixed (by kernel_rfl) ?_))))))
    refine dp_v rfl (v_move rfl) (dp_v rfl (v_nilCheck rfl) (dp_v rfl (v_fieldAddr rfl fa117_1 rfl) (dr_v rfl (v_ld rfl ld73) ?_)))
    refine dp_v rfl (v_move rfl) (dp_v rfl (v_move rfl) (dp_v rfl (v_nilCheck rfl) (dp_v rfl (v_fieldAddr rfl fa117_0 rfl) (dp_v rfl (v_fieldAddr rfl fa115_1 rfl) (dr_v rfl (v_ld rfl ld3) ?_)))))
    refine dp_v rfl (v_sub rfl rfl (by unfold I64 at *; omega)) (dp_v rfl (v_add rfl rfl (by unfold I64 at *; omega)) (dp_v rfl (v_move rfl) (dp_v rfl (v_move rfl) (dp_v rfl (v_nilCheck rfl) (dp_v rfl (v_fieldAddr rfl fa117_0 rfl) (dp_v rfl (v_fieldAddr rfl fa115_1 rfl) (dr_v rfl (v_ld rfl ld3) ?_)))))))
    refine dp_v rfl (v_sub rfl rfl (by unfold I64 at *; omega)) (dp_v rfl (v_move rfl) (dp_v rfl (v_add rfl rfl (by unfold I64 at *; omega)) (dr_v rfl (v_sliceX (lo := (a - μ.y.fr).toNat + 1) (hi := (a - μ.y.fr + m.size a).toNat) rfl rfl rfl sl73 (by omega) (by omega) (by omega) (by omega)) ?_)))
    have hnoc : ((μ.y.st.drop ((a - μ.y.fr).toNat + 1)).take ((a - μ.y.fr + m.size a).toNat - ((a - μ.y.fr).toNat + 1))).contains true = false := by
      rw [List.contains_eq_mem, decide_eq_false_iff_not]
      intro hm
      obtain ⟨i, hi, he⟩ := List.getElem_of_mem hm
      rw [List.length_take, List.length_drop] at hi
      have hi1 : (a - μ.y.fr).toNat + 1 + i < μ.y.st.length := by omega
      have hi2 : (a - μ.y.fr).toNat + 1 + i < (a - μ.y.fr + m.size a).toNat := by omega
      rw [List.getElem_take, List.getElem_drop] at he
      have h5 := hst ((a - μ.y.fr).toNat + 1 + i) (by omega)
      rw [List.getD_eq_getElem?_getD, List.getElem?_eq_getElem hi1, Option.getD_some, he] at h5
      have h6 : m.head ((1 : Int) + (((a - μ.y.fr).toNat + 1 + i : Nat) : Int)) = 0 := Gd.innery h.g ha' (by omega) (by omega)
      rw [h6] at h5; simp at h5
    have hrow : RowB (tb L.y μ.y) (.slice (some ⟨L.y.tb, if μ.y.st.length + L.y.tj.length = (a - μ.y.fr).toNat + 1 then 0 else (a - μ.y.fr).toNat + 1, none⟩) ((a - μ.y.fr + m.size a).toNat - ((a - μ.y.fr).toNat + 1)) (μ.y.st.length + L.y.tj.length - ((a - μ.y.fr).toNat + 1))) ((μ.y.st.drop ((a - μ.y.fr).toNat + 1)).take ((a - μ.y.fr + m.size a).toNat - ((a - μ.y.fr).toNat + 1))) := by
      refine ⟨_, _, by congr 1; simp only [List.length_take, List.length_drop]; omega, .inr ⟨_, _, rfl, fun j hj => ?_⟩⟩
      simp only [List.length_take, List.length_drop] at hj
      rw [if_neg (by omega), List.getElem_take, List.getElem_drop]
      have := rd_bools (b := L.y.tb) (k := (a - μ.y.fr).toNat + 1 + j) (l := μ.y.st) (j := L.y.tj) (T := 4) (by omega)
      rw [List.getD_eq_getElem?_getD, List.getElem?_eq_getElem (by omega), Option.getD_some] at this
      exact this
    refine dr_clr rfl rfl rfl en113 rfl (containsB_ct (R := tb L.y μ.y) (x := true) hrow (by rw [List.length_take, List.length_drop]; omega)) ?_
    rw [hnoc]
    refine dr_nil (nx_kp [0, 1, 2, 7, 8, 63] rfl (nx_then (cd_false rfl ?_)))
    refine cd_skip (xt_then (cd_region (st_v (v_move rfl) (st_v (v_move rfl) (st_v (v_add rfl rfl (by unfold I64 at *; omega)) (st_v (v_assign rfl) (st_nil (nx_kp [0, 1, 2, 7] rfl (nx_xt (xt_normal_block ?_))))))))))
    have hnx := Tl.next hTl a ha'
    exact xt_ag (a + m.size a) hnx (by show (_ - (a + m.size a)).toNat < (_ - a).toNat; omega)
  · skip
    have hge : a = m.new := by
      rcases ha with ha | ha
      · have hb := hTl.mem a ha; simp at hc; omega
      · exact ha
    refine cd_exit (xt_exit_then (xt_exit_then (xt_exit_block (xt_then (cd_seq (cd_drawh (ork [(0, 2), (1, 2), (2, 2), (3, 2), (4, 2), (5, 1), (6, 2), (7, 2), (8, 2), (9, 2), (10, 1), (11, 2), (12, 2), (13, 2)] .nil) (fun _ => true) mixed (by kernel_rfl) ?_))))))
    refine dp_v rfl (v_move rfl) (dp_v rfl (v_move rfl) (dp_v rfl (v_nilCheck rfl) (dp_v rfl (v_fieldAddr rfl fa117_0 rfl) (dp_v rfl (v_fieldAddr rfl fa115_1 rfl) (dr_v rfl (v_ld rfl ld3) ?_)))))
    refine dp_v rfl (v_move rfl) (dp_v rfl (v_nilCheck rfl) (dp_v rfl (v_fieldAddr rfl fa117_0 rfl) (dp_v rfl (v_fieldAddr rfl fa115_2 rfl) (dr_v rfl (v_ld rfl ld3) ?_))))
    refine dp_v rfl (v_add rfl rfl (by unfold I64 at *; omega)) (dp_v rfl (v_eql rfl rfl) (dp_v rfl (v_assign rfl) (dr_nil (nx_kp [6] rfl (nx_then (cd_ret ?_))))))
    have hv : (a == (μ.y.fr : Int) + μ.y.us) = true := by rw [hge]; simp; omega
    rw [hv]
    exact xt_rt rfl ⟨rfl, rfl⟩
set_option maxHeartbeats 4000000 in
set_option maxRecDepth 100000 in
theorem orderedn_c {g1 g2 : Nat} (I : MI L μ S m) (h : AM.Good m ly ln lf φ A) : Reads Try.prog 74 #[.pointer (some ⟨L.mb, 0, none⟩), .pointer (some ⟨L.n.sb, 0, none⟩), .func (.func 69) #[] #[.pointer (some ⟨g1, 0, none⟩), .pointer (some ⟨g2, 0, none⟩)]] (pt g1 (cl [.pointer (some ⟨L.mb, 0, none⟩)] 27) :: pt g2 (cl [.pointer (some ⟨L.n.sb, 0, none⟩)] 95) :: memSH L μ S) (.bool true) := by
  have hfine := fun (a : Int) (ha : a ∈ ln) => finen_c (g1 := g1) (g2 := g2) I h ha
  have oy := I.r.oky h.g; have on := I.r.okn h.g; have hS := I.shp'; have hl := I.r.shl h.g
  have e1 := I.r.y.fr; have e2 := I.r.y.us; have e3 := I.r.n.fr; have e4 := I.r.n.us; have e5 := I.r.y.ln; have e6 := I.r.n.ln
  have hob := h.g.oldle; have hyb := h.g.yl; have hn1 := h.g.newle
  have oX : μ.n.Ok := by assumption
  have h1x := oX.us; have h2x := oX.fr; have h3x := oX.ws; have h4x := oX.st
  have hX : (μ.n.fr : Int) = m.base ∧ (μ.n.fr : Int) + μ.n.us = m.old := by omega
  have hTl : Tl m.size m.base m.old ln := by first | exact h.g.y.tl | exact h.g.o.tl
  have hwd : ∀ a ∈ ln, μ.n.wd a = m.head a - 1 ∧ 0 < m.head a ∧ m.head a ≤ m.sh.length ∧ μ.n.begins a = true := fun a ha => by
    first
      | exact ⟨I.r.wdy h.g ha, h.g.yhead ha, h.g.y.ok a ha, by rw [I.r.by_ h.g, (h.g.isY_iff (h.g.yhead ha)).2 ha]; simp [h.g.yhead ha]⟩
      | exact ⟨I.r.wdn h.g ha, h.g.ohead ha, h.g.o.ok a ha, by rw [I.r.bn h.g]; simp [h.g.ohead ha]; rw [isO_iff]; have := h.g.obd ha; omega⟩
  have hst : ∀ i, i < μ.n.st.length → μ.n.st.getD i false = decide (0 < m.head (m.base + i)) := by first | exact I.r.y.sts | exact I.r.n.sts
  unfold memSH at hfine ⊢
  refine ct_of (n := 80) Try.func74 rfl rfl (len rfl) fun hr w0 => ?_
  simp only [List.cons_append, List.nil_append] at hfine ⊢
  refine cd_seq (cd_region (st_v (v_assign rfl) (st_nil (nx_then (cd_seq (cd_region (st_v (v_move rfl) (st_v (v_nilCheck rfl) (st_v (v_fieldAddr rfl fa117_0 rfl) (st_v (v_fieldAddr rfl fa115_1 rfl) (st_v (v_ld rfl ld3) ?_)))))))))))
  refine st_v (v_assign rfl) (st_nil (nx_kp [0, 1, 2, 6, 7] rfl (nx_then (cd_seq (cd_block ?_)))))
  refine cd_lp (σ := Int) (fun a => [(0, .pointer (some ⟨L.mb, 0, none⟩)), (1, .pointer (some ⟨L.n.sb, 0, none⟩)), (2, .func (.func 69) #[] #[.pointer (some ⟨g1, 0, none⟩), .pointer (some ⟨g2, 0, none⟩)]), (7, .int .i64 a)]) (fun _ => pt g1 (cl [.pointer (some ⟨L.mb, 0, none⟩)] 27) :: pt g2 (cl [.pointer (some ⟨L.n.sb, 0, none⟩)] 95) :: memSH L μ S ++ hr) (fun a => a ∈ ln ∨ a = m.old) (fun a => (m.old - a).toNat) (μ.n.fr : Int) (by
    rw [hX.1]
    cases hlx : ln with
    | nil => rw [hlx] at hTl; exact .inr hTl
    | cons b k => rw [hlx] at hTl; exact .inl (by rw [hTl.1]; simp)) ?_
  rintro a ha
  unfold memSH
  simp only [List.cons_append, List.nil_append]
  refine cd_seq (cd_seq (cd_drawh (ork [(0, 2), (1, 2), (2, 2), (3, 2), (4, 2), (5, 1), (6, 2), (7, 2), (8, 2), (9, 2), (10, 1), (11, 2), (12, 2)] .nil) (fun _ => true) mixed (by kernel_rfl) ?_))
  refine dp_v rfl (v_move rfl) (dp_v rfl (v_move rfl) (dp_v rfl (v_nilCheck rfl) (dp_v rfl (v_fieldAddr rfl fa117_0 rfl) (dp_v rfl (v_fieldAddr rfl fa115_1 rfl) (dr_v rfl (v_ld rfl ld3) ?_)))))
  refine dp_v rfl (v_move rfl) (dp_v rfl (v_nilCheck rfl) (dp_v rfl (v_fieldAddr rfl fa117_0 rfl) (dp_v rfl (v_fieldAddr rfl fa115_2 rfl) (dr_v rfl (v_ld rfl ld3) ?_))))
  refine dp_v rfl (v_add rfl rfl (by unfold I64 at *; omega)) (dp_v rfl (v_lss rfl rfl) (dr_nil (nx_kp [0, 1, 2, 7, 26] rfl (nx_then (cd_cond rfl (fun hc => ?_) (fun hc => ?_))))))
  · skip
    have hlt : a < m.old := by simp at hc; omega
    have ha' : a ∈ ln := ha.resolve_right (by omega)
    obtain ⟨w1, w2, w3, w4⟩ := hwd a ha'
    have hb := hTl.mem a ha'
    have hsz : (1 : Int) + (shAt μ.sh (μ.n.wd a)).length = m.size a := by rw [w1, shAt_row I.r]; rfl
    refine cd_skip (xt_then (cd_block (cd_seq (cd_seq (cd_region (st_v (v_move rfl) (st_v (v_move rfl) (st_clr rfl rfl en72 rfl (begins_ct (l := L.n) (s := μ.n) (t := a) oX) ?_))))))))
    rw [w4]
    refine st_v (v_not rfl) (st_v (v_move rfl) (st_vg rfl rfl (v_move rfl) (st_vg rfl rfl (v_move rfl) (st_clrg rfl rfl rfl rfl en69 rfl (hfine a ha') ?_))))
    refine st_vg rfl rfl (v_not rfl) (st_v (v_pick_false rfl rfl) (st_nil (nx_kp [0, 1, 2, 7, 36] rfl (nx_then (cd_false rfl ?_)))))
    refine cd_skip (xt_then (cd_seq (cd_region (st_v (v_move rfl) (st_v (v_move rfl) (st_v (v_move rfl) (st_clr rfl rfl en112 rfl (size_ct (L := L) (μ := μ) (S := S) (l := L.n) (s := μ.n) (t := a) oX (by omega) (by omega) hS hl (by rw [w1]; omega) (by rw [w1, I.r.sh]; omega)) ?_)))))))
    rw [hsz]
    refine st_v (v_assign rfl) (st_nil (nx_kp [0, 1, 2, 7, 8] rfl (nx_then (cd_seq (cd_seq (cd_drawh (ork [(0, 2), (1, 2), (2, 2), (3, 1), (4, 2), (5, 2), (6, 2), (7, 2), (8, 2), (9, 1), (10, 2), (11, 2), (12, 2), (13, 2), (14, 2), (15, 2), (16, 2), (17, 1), (18, 2), (19, 2), (20, 2), (21, 1), (22, 1)] .nil) (fun _ => true) mixed (by kernel_rfl) ?_))))))
    refine dp_v rfl (v_move rfl) (dp_v rfl (v_nilCheck rfl) (dp_v rfl (v_fieldAddr rfl fa117_1 rfl) (dr_v rfl (v_ld rfl ld73) ?_)))
    refine dp_v rfl (v_move rfl) (dp_v rfl (v_move rfl) (dp_v rfl (v_nilCheck rfl) (dp_v rfl (v_fieldAddr rfl fa117_0 rfl) (dp_v rfl (v_fieldAddr rfl fa115_1 rfl) (dr_v rfl (v_ld rfl ld3) ?_)))))
    refine dp_v rfl (v_sub rfl rfl (by unfold I64 at *; omega)) (dp_v rfl (v_add rfl rfl (by unfold I64 at *; omega)) (dp_v rfl (v_move rfl) (dp_v rfl (v_move rfl) (dp_v rfl (v_nilCheck rfl) (dp_v rfl (v_fieldAddr rfl fa117_0 rfl) (dp_v rfl (v_fieldAddr rfl fa115_1 rfl) (dr_v rfl (v_ld rfl ld3) ?_)))))))
    refine dp_v rfl (v_sub rfl rfl (by unfold I64 at *; omega)) (dp_v rfl (v_move rfl) (dp_v rfl (v_add rfl rfl (by unfold I64 at *; omega)) (dr_v rfl (v_sliceX (lo := (a - μ.n.fr).toNat + 1) (hi := (a - μ.n.fr + m.size a).toNat) rfl rfl rfl sl73 (by omega) (by omega) (by omega) (by omega)) ?_)))
    have hnoc : ((μ.n.st.drop ((a - μ.n.fr).toNat + 1)).take ((a - μ.n.fr + m.size a).toNat - ((a - μ.n.fr).toNat + 1))).contains true = false := by
      rw [List.contains_eq_mem, decide_eq_false_iff_not]
      intro hm
      obtain ⟨i, hi, he⟩ := List.getElem_of_mem hm
      rw [List.length_take, List.length_drop] at hi
      have hi1 : (a - μ.n.fr).toNat + 1 + i < μ.n.st.length := by omega
      have hi2 : (a - μ.n.fr).toNat + 1 + i < (a - μ.n.fr + m.size a).toNat := by omega
      rw [List.getElem_take, List.getElem_drop] at he
      have h5 := hst ((a - μ.n.fr).toNat + 1 + i) (by omega)
      rw [List.getD_eq_getElem?_getD, List.getElem?_eq_getElem hi1, Option.getD_some, he] at h5
      have h6 : m.head (m.base + (((a - μ.n.fr).toNat + 1 + i : Nat) : Int)) = 0 := h.g.inner ha' (by omega) (by omega)
      rw [h6] at h5; simp at h5
    have hrow : RowB (tb L.n μ.n) (.slice (some ⟨L.n.tb, if μ.n.st.length + L.n.tj.length = (a - μ.n.fr).toNat + 1 then 0 else (a - μ.n.fr).toNat + 1, none⟩) ((a - μ.n.fr + m.size a).toNat - ((a - μ.n.fr).toNat + 1)) (μ.n.st.length + L.n.tj.length - ((a - μ.n.fr).toNat + 1))) ((μ.n.st.drop ((a - μ.n.fr).toNat + 1)).take ((a - μ.n.fr + m.size a).toNat - ((a - μ.n.fr).toNat + 1))) := by
      refine ⟨_, _, by congr 1; simp only [List.length_take, List.length_drop]; omega, .inr ⟨_, _, rfl, fun j hj => ?_⟩⟩
      simp only [List.length_take, List.length_drop] at hj
      rw [if_neg (by omega), List.getElem_take, List.getElem_drop]
      have := rd_bools (b := L.n.tb) (k := (a - μ.n.fr).toNat + 1 + j) (l := μ.n.st) (j := L.n.tj) (T := 4) (by omega)
      rw [List.getD_eq_getElem?_getD, List.getElem?_eq_getElem (by omega), Option.getD_some] at this
      exact this
    refine dr_clr rfl rfl rfl en113 rfl (containsB_ct (R := tb L.n μ.n) (x := true) hrow (by rw [List.length_take, List.length_drop]; omega)) ?_
    rw [hnoc]
    refine dr_nil (nx_kp [0, 1, 2, 7, 8, 63] rfl (nx_then (cd_false rfl ?_)))
    refine cd_skip (xt_then (cd_region (st_v (v_move rfl) (st_v (v_move rfl) (st_v (v_add rfl rfl (by unfold I64 at *; omega)) (st_v (v_assign rfl) (st_nil (nx_kp [0, 1, 2, 7] rfl (nx_xt (xt_normal_block ?_))))))))))
    have hnx := Tl.next hTl a ha'
    exact xt_ag (a + m.size a) hnx (by show (_ - (a + m.size a)).toNat < (_ - a).toNat; omega)
  · skip
    have hge : a = m.old := by
      rcases ha with ha | ha
      · have hb := hTl.mem a ha; simp at hc; omega
      · exact ha
    refine cd_exit (xt_exit_then (xt_exit_then (xt_exit_block (xt_then (cd_seq (cd_drawh (ork [(0, 2), (1, 2), (2, 2), (3, 2), (4, 2), (5, 1), (6, 2), (7, 2), (8, 2), (9, 2), (10, 1), (11, 2), (12, 2), (13, 2)] .nil) (fun _ => true) mixed (by kernel_rfl) ?_))))))
    refine dp_v rfl (v_move rfl) (dp_v rfl (v_move rfl) (dp_v rfl (v_nilCheck rfl) (dp_v rfl (v_fieldAddr rfl fa117_0 rfl) (dp_v rfl (v_fieldAddr rfl fa115_1 rfl) (dr_v rfl (v_ld rfl ld3) ?_)))))
    refine dp_v rfl (v_move rfl) (dp_v rfl (v_nilCheck rfl) (dp_v rfl (v_fieldAddr rfl fa117_0 rfl) (dp_v rfl (v_fieldAddr rfl fa115_2 rfl) (dr_v rfl (v_ld rfl ld3) ?_))))
    refine dp_v rfl (v_add rfl rfl (by unfold I64 at *; omega)) (dp_v rfl (v_eql rfl rfl) (dp_v rfl (v_assign rfl) (dr_nil (nx_kp [6] rfl (nx_then (cd_ret ?_))))))
    have hv : (a == (μ.n.fr : Int) + μ.n.us) = true := by rw [hge]; simp; omega
    rw [hv]
    exact xt_rt rfl ⟨rfl, rfl⟩
end
end Go.Proofs.Ytmhmpjgkkpbnnaa
namespace Go.Ck
open Go
section
variable {c : Cx} {ops : Array Oper} {K : Act → World → Prop} {rest : List Oper} {e : Env} {h h' hr : SH}
/-- A call with effects, at a guard that says yes. -/
theorem st_clg {d g gd : Nat} {f : Operand} {xs : Array Operand} {ts : Array TypeId} {ty : TypeId} {pos : String} {after : Array Edge} {k : FuncId} {fi cp : Array Value} {vs : List Value} {args : Array Value} {hf : SH} {R : Value → SH → Prop} {want : Bool}
    (hg : ((ops[g]?).bind (·.dst)) = some gd) (hgv : e.get? gd = some (.bool want))
    (hv : e.ev? f = some (.func (.func k) fi cp)) (has : xs.toList.mapM e.ev? = some vs) (hE : Enters c.P k) (ha : fi ++ vs.toArray ++ cp = args) (ct : Ct c.P k args hf R)
    (hn : ∀ v h', R v h' → St c ops K rest ((d, v) :: e) (h' ++ hr)) (pk : Pk h hf hr := by repeat (first | exact Pk.nil | (apply Pk.cons; (repeat (first | exact Sel.here | apply Sel.there))))) (hd : d < c.n := by exact ltn rfl) :
    St c ops K (⟨some d, .call { callee := .value f, args := xs, argTypes := ts }, ty, pos, after, some (g, want)⟩ :: rest) e h := fun a w hk hh hs => by
  unfold LsW
  rw [if_pos (by simp [Region.wanted, yields_guard hg hgv hk])]
  unfold OpW OpV
  rw [Oper.semAt_eq _ _ _ (by simp), run_call hv has hE ha hk.evs]
  exact (ct hr w (hh.pk pk)).mono fun _ w' ⟨v, h', he, hR, hH, hS⟩ => ⟨v, he, hn v h' hR _ w' (hk.put v hd) hH (hs.trans hS)⟩
end
end Go.Ck
namespace Go.Proofs.Ytmhmpjgkkpbnnaa
open Go.Ck Fx Go.Hm Go.Hm.AM
attribute [local irreducible] St Cd Xt Nx DrL LsW
section
variable {L : MemL} {μ : Mem} {S R : Res} {m : AM} {ly ln lf : List Int} {φ : Int → Option Nat} {A : Store} {v : Value} {roots : List Int}
set_option maxRecDepth 100000 in
theorem check1_ct {p b1 : Nat} : Ct Try.prog 68 #[.pointer (some ⟨p, 0, none⟩), .pointer (some ⟨b1, 0, none⟩)] [] fun v h' => ∃ b2, v = .func (.func 69) #[] #[.pointer (some ⟨b1, 0, none⟩), .pointer (some ⟨b2, 0, none⟩)] ∧ h' = [pt b2 (cl [.pointer (some ⟨p, 0, none⟩)] 95)] := by
  refine ct_of (n := 5) Try.func68 rfl rfl (len rfl) fun hr w0 => ?_
  refine cd_seq (cd_region (st_bx rfl rfl fun b2 => ?_))
  refine st_v (v_assign rfl) (st_nil (nx_kp [1, 2, 3] rfl (nx_then (cd_seq (cd_region (st_v (v_makeFunc rfl rfl) (st_v (v_assign rfl) (st_nil (nx_kp [3] rfl (nx_then (cd_ret ?_)))))))))))
  exact xt_rt rfl ⟨b2, rfl, rfl⟩
set_option maxHeartbeats 4000000 in
set_option maxRecDepth 100000 in
theorem check_c (I : MI L μ S m) (h : AM.Good m ly ln lf φ A) : Reads Try.prog 26 #[.pointer (some ⟨L.mb, 0, none⟩)] (memSH L μ S) (.int .i64 0) := by
  have hoy := fun g1 g2 => orderedy_c (g1 := g1) (g2 := g2) I h
  have hon := fun g1 g2 => orderedn_c (g1 := g1) (g2 := g2) I h
  unfold memSH at hoy hon ⊢
  refine ct_of (n := 36) Try.func26 rfl rfl (len rfl) fun hr w0 => ?_
  simp only [List.cons_append, List.nil_append]
  refine cd_seq (cd_region (st_bx rfl rfl fun b1 => ?_))
  refine st_v (v_assign rfl) (st_nil (nx_kp [1, 2] rfl (nx_then (cd_seq (cd_seq (cd_region (st_v (v_ld rfl ld27) ?_)))))))
  refine st_clr rfl rfl en67 rfl (made_ct (L := L) (μ := μ)) ?_
  refine st_v (v_not rfl) (st_nil (nx_kp [1, 2, 6] rfl (nx_then (cd_false rfl ?_))))
  refine cd_skip (xt_then (cd_seq (cd_region (st_v (v_makeFunc rfl rfl) (st_v (v_assign rfl) (st_nil (nx_kp [1, 2, 3] rfl (nx_then (cd_seq (cd_seq (cd_drawh (ork [(0, 1), (1, 1), (2, 2), (3, 2), (4, 1), (5, 2), (6, 1), (7, 2), (8, 2), (9, 1), (10, 0), (11, 0), (12, 2), (13, 2), (14, 1), (15, 1), (16, 2), (17, 2), (18, 1), (19, 2), (20, 1), (21, 2), (22, 2), (23, 1), (24, 0), (25, 0), (26, 2), (27, 2)] .nil) (fun i => !(Nat.beq i 11 || Nat.beq i 25)) mixed (by kernel_rfl) ?_)))))))))))
  refine dr_v rfl (v_ld rfl ld27) ?_
  refine dr_v rfl (v_ld rfl ld27) ?_
  refine dp_v rfl (v_nilCheck rfl) (dp_v rfl (v_fieldAddr rfl fa100_1 rfl) (dr_v rfl (v_ld rfl ld95) ?_))
  refine dp_v rfl (v_move rfl) (dr_v rfl (v_ld rfl ld27) ?_)
  refine dp_v rfl (v_nilCheck rfl) (dp_v rfl (v_fieldAddr rfl fa100_1 rfl) (dr_v rfl (v_ld rfl ld95) ?_))
  refine dr_eff rfl (st_cl rfl rfl en68 rfl (check1_ct) ?_)
  rintro v' h' ⟨g2, rfl, rfl⟩
  simp only [List.cons_append, List.nil_append]
  refine dr_nx ?_
  refine dr_eff rfl (st_cl rfl rfl en74 rfl (hoy b1 g2) ?_)
  rintro v' h' ⟨rfl, rfl⟩
  simp only [List.cons_append, List.nil_append]
  refine dr_nx ?_
  refine dp_v rfl (v_not rfl) (dp_v rfl (v_move rfl) (dr_vg rfl rfl rfl (v_ld rfl ld27) ?_))
  refine dr_vg rfl rfl rfl (v_ld rfl ld27) ?_
  refine dp_vg rfl rfl rfl (v_nilCheck rfl) (dp_vg rfl rfl rfl (v_fieldAddr rfl fa100_2 rfl) (dr_vg rfl rfl rfl (v_ld rfl ld95) ?_))
  refine dp_vg rfl rfl rfl (v_move rfl) (dr_vg rfl rfl rfl (v_ld rfl ld27) ?_)
  refine dp_vg rfl rfl rfl (v_nilCheck rfl) (dp_vg rfl rfl rfl (v_fieldAddr rfl fa100_2 rfl) (dr_vg rfl rfl rfl (v_ld rfl ld95) ?_))
  refine dr_effg rfl rfl rfl (st_clg rfl rfl rfl rfl en68 rfl (check1_ct) ?_)
  rintro v' h' ⟨g3, rfl, rfl⟩
  simp only [List.cons_append, List.nil_append]
  refine dr_nx ?_
  refine dr_effg rfl rfl rfl (st_clg rfl rfl rfl rfl en74 rfl (hon b1 g3) ?_)
  rintro v' h' ⟨rfl, rfl⟩
  simp only [List.cons_append, List.nil_append]
  refine dr_nx ?_
  refine dp_vg rfl rfl rfl (v_not rfl) (dp_v rfl (v_pick_false rfl rfl) (dr_nil (nx_kp [2, 35] rfl (nx_then (cd_false rfl ?_)))))
  refine cd_skip (xt_then (cd_seq (cd_region (st_v (v_assign rfl) (st_nil (nx_kp [2] rfl (nx_then (cd_ret ?_))))))))
  exact xt_rt rfl ⟨rfl, rfl⟩
end
end Go.Proofs.Ytmhmpjgkkpbnnaa
namespace Go.Ck
open Go
theorem fill_two {u v : Value} (hu : u.oneCell' = true) (hv : v.oneCell' = true) (c0 : Array Value) (h0 : c0.size = 2) : Instr.fill (fun i => some (i * 1, 1)) c0 [(0, u), (1, v)] = some #[u, v] := by
  have hc : u.cells = #[u] := by cases u <;> first | rfl | (simp [Value.oneCell'] at hu)
  have hd : v.cells = #[v] := by cases v <;> first | rfl | (simp [Value.oneCell'] at hv)
  rcases c0 with ⟨_ | ⟨x, _ | ⟨y, _ | ⟨z, t⟩⟩⟩⟩
  · simp at h0
  · simp at h0
  · simp [Instr.fill, hc, hd]
  · simp at h0
section
variable {c : Cx} {Q : Exit → Act → World → Prop} {e : Env} {h k : SH}
theorem xt_mkstar {ex : Exit} (ks : SH) (pk : Pk h ks k) (hx : Xt c ex Q e (Res.star ks :: k)) : Xt c ex Q e h := fun a w hk hh hw => hx a w hk (star_iff.2 (hh.pk pk)) hw
end
end Go.Ck
namespace Go.Proofs.Ytmhmpjgkkpbnnaa
open Go.Ck Fx Go.Hm Go.Hm.AM
attribute [local irreducible] St Cd Xt Nx DrL LsW
set_option maxRecDepth 100000 in
theorem new_c {R : Res} {v : Value} {sh : List (List Bool)} {half young : Int} (h : Shp R v sh) (hl : sh.length ≤ 1000000) :
    Ct Try.prog 15 #[v, .int .i64 half, .int .i64 young] [R] fun u h' =>
      (newErr sh half young ≠ 0 ∧ u = .tuple #[.pointer none, .int .i64 (newErr sh half young)] ∧ h' = [R]) ∨
      (newErr sh half young = 0 ∧ ∃ L μ S, u = .tuple #[.pointer (some ⟨L.mb, 0, none⟩), .int .i64 0] ∧ MI L μ S (new' sh half young) ∧ h' = memSH L μ S ++ [R]) :=
  (new_ct h hl).mono fun u h' hu => hu.imp id fun ⟨h0, L, us, h1, h2, h3⟩ => by
    refine ⟨h0, L, _, _, h1, ⟨?_, h2.yn, h2.yo, h2.no, h2.sh⟩, h3⟩
    unfold newErr at h0
    split at h0
    · cases h0
    · split at h0
      · cases h0
      · rename_i _ h4
        simp only [Bool.or_eq_true, decide_eq_true_eq, not_or] at h4
        have := Rel.new (sh := sh) (half := half.toNat) (young := young.toNat) (by omega) (by omega)
        rw [show ((half.toNat : Nat) : Int) = half by omega, show ((young.toNat : Nat) : Int) = young by omega] at this
        exact this
def shp0 : List (List Bool) := [[false, true], []]
set_option maxRecDepth 100000 in
theorem shapes_ct : Ct Try.prog 39 #[] [] fun v h' => ∃ R, Shp R v shp0 ∧ h' = [R] := by
  refine ct_of (n := 4) Try.func39 rfl rfl (len rfl) fun hr w0 => ?_
  refine cd_seq (cd_region (st_v (v_assign rfl) (st_nil (nx_then (cd_seq (cd_region (st_buildSlice (cells := [.bool false, .bool true]) rfl Try.underlying73 inf4 rfl rfl (by kernel_rfl) (ltn rfl) fun b1 => ?_)))))))
  refine st_buildSlice0 Try.underlying73 inf4 (ltn rfl) fun b2 => ?_
  refine st_buildSlice (cells := [.slice (some ⟨b1, 0, none⟩) 2 2, .slice (some ⟨b2, 0, none⟩) 0 0]) rfl Try.underlying22 inf73 rfl rfl (fill_two rfl rfl _ (by simp)) (ltn rfl) fun b3 => ?_
  refine st_v (v_assign rfl) (st_nil (nx_kp [0] rfl (nx_then (cd_ret (xt_mkstar [pt b3 (cl [.slice (some ⟨b1, 0, none⟩) 2 2, .slice (some ⟨b2, 0, none⟩) 0 0] 73), pt b1 (cl [.bool false, .bool true] 4)] (by repeat (first | exact Pk.nil | (apply Pk.cons; (repeat (first | exact Sel.here | apply Sel.there))))) ?_)))))
  refine xt_rt rfl ⟨.star [pt b3 (cl [.slice (some ⟨b1, 0, none⟩) 2 2, .slice (some ⟨b2, 0, none⟩) 0 0] 73), pt b1 (cl [.bool false, .bool true] 4)], ⟨some ⟨b3, 0, none⟩, 2, rfl, .inr ⟨b3, 0, rfl, fun i hi => ?_⟩⟩, rfl⟩
  match i, hi with
  | 0, _ => exact ⟨.slice (some ⟨b1, 0, none⟩) 2 2, rd_star_mem (List.mem_cons_self ..) (rd_cl rfl), ⟨some ⟨b1, 0, none⟩, 2, rfl, .inr ⟨b1, 0, rfl, fun j hj => by
      match j, hj with
      | 0, _ => exact rd_star_mem (List.mem_cons_of_mem _ (List.mem_cons_self ..)) (rd_cl rfl)
      | 1, _ => exact rd_star_mem (List.mem_cons_of_mem _ (List.mem_cons_self ..)) (rd_cl rfl)⟩⟩⟩
  | 1, _ => exact ⟨.slice (some ⟨b2, 0, none⟩) 0 0, rd_star_mem (List.mem_cons_self ..) (rd_cl rfl), ⟨some ⟨b2, 0, none⟩, 0, rfl, .inl rfl⟩⟩
def sm0 : AM := new' shp0 40 10
def sm1 : AM := (sm0.alloc 0).2.2
def sm2 : AM := (sm1.alloc 0).2.2
def sm3 : AM := (sm2.alloc 0).2.2
def sm5 : AM := (sm3.set 1 1 4).2
def sm6 : AM := (sm5.minor [4, 1]).2.2
def sm7 : AM := (sm6.get 14 1).2.2
def sm8 : AM := (sm7.flip [14]).2.2
def sm9 : AM := (sm8.get 51 1).2.2
def sm10 : AM := (sm9.step 3).2.2
def sm11 : AM := (sm10.step 3).2.2
theorem se1 : (sm0.alloc 0).1 = 1 ∧ (sm0.alloc 0).2.1 = 0 := by decide +kernel
theorem se2 : (sm1.alloc 0).1 = 4 ∧ (sm1.alloc 0).2.1 = 0 := by decide +kernel
theorem se3 : (sm2.alloc 0).1 = 7 ∧ (sm2.alloc 0).2.1 = 0 := by decide +kernel
theorem se4 : (sm3.alloc 0).1 = 0 ∧ (sm3.alloc 0).2.1 = 14 := by decide +kernel
theorem se5 : (sm3.set 1 1 4).1 = 0 := by decide +kernel
theorem se6 : (sm5.minor [4, 1]).1 = [11, 14] ∧ (sm5.minor [4, 1]).2.1 = 0 ∧ sm5.minorErr [4, 1] = 0 := by decide +kernel
theorem se6r : sm6.room = (0, 6, 0) := by decide +kernel
theorem se7 : (sm6.get 14 1).1 = 11 ∧ (sm6.get 14 1).2.1 = 0 := by decide +kernel
theorem se7s : sm7.shapeOf 4 = (0, 5) := by decide +kernel
theorem se8 : (sm7.flip [14]).1 = [51] ∧ (sm7.flip [14]).2.1 = 0 ∧ sm7.minorErr [14] = 0 ∧ sm7.busy = false := by decide +kernel
theorem se8r : sm8.room = (0, 3, 3) := by decide +kernel
theorem se9 : (sm8.get 51 1).1 = 54 ∧ (sm8.get 51 1).2.1 = 0 := by decide +kernel
theorem se9r : sm9.room = (0, 6, 0) ∧ sm9.busy = true := by decide +kernel
theorem se10 : (sm9.step 3).1 = 3 ∧ (sm9.step 3).2.1 = 0 ∧ sm10.busy = true := by decide +kernel
theorem se11 : (sm10.step 3).1 = 0 ∧ (sm10.step 3).2.1 = 0 ∧ sm11.busy = false := by decide +kernel
/-- In order, somehow. -/
def Fine (m : AM) : Prop := ∃ ly ln lf φ A, AM.Good m ly ln lf φ A
section
variable {m : AM}
theorem Fine.alloc (h : Fine m) (s : Int) : Fine (m.alloc s).2.2 := by
  obtain ⟨ly, ln, lf, φ, A, h⟩ := h
  by_cases he : (m.alloc s).2.1 = 0
  · exact ⟨_, _, _, _, _, (h.alloc he).1⟩
  · rw [(alloc_err he).1]; exact ⟨ly, ln, lf, φ, A, h⟩
theorem good_none {ly ln lf : List Int} {φ : Int → Option Nat} {A : Store} (h : AM.Good m ly ln lf φ A) : AM.Good m ly ln lf (fun _ => none) A := ⟨h.g, Sim.none .., h.ym, h.rm, h.rn⟩
theorem Fine.set (h : Fine m) (t k v : Int) : Fine (m.set t k v).2 := by
  obtain ⟨ly, ln, lf, φ, A, h⟩ := h
  by_cases he : (m.set t k v).1 = 0
  · exact ⟨_, _, _, _, _, ((good_none h).set he (.inl ⟨rfl, rfl⟩)).1⟩
  · rw [set_err he]; exact ⟨ly, ln, lf, φ, A, h⟩
theorem Fine.get (h : Fine m) (t k : Int) : Fine (m.get t k).2.2 := by
  obtain ⟨ly, ln, lf, φ, A, h⟩ := h
  by_cases he : (m.get t k).2.1 = 0
  · obtain ⟨_, _, g, _⟩ := h.get he; exact ⟨_, _, _, _, _, g⟩
  · rw [(get_err he).1]; exact ⟨ly, ln, lf, φ, A, h⟩
theorem Fine.minor (h : Fine m) (roots : List Int) : Fine (m.minor roots).2.2 := by
  obtain ⟨ly, ln, lf, φ, A, h⟩ := h
  by_cases he : m.minorErr roots = 0
  · obtain ⟨_, _, g, _⟩ := h.minor he; exact ⟨_, _, _, _, _, g⟩
  · rw [minor_no he]; exact ⟨ly, ln, lf, φ, A, h⟩
theorem Fine.flip (h : Fine m) (roots : List Int) : Fine (m.flip roots).2.2 := by
  obtain ⟨ly, ln, lf, φ, A, h⟩ := h
  cases hb : m.busy with
  | true =>
    have : m.flip roots = ([], 12, m) := by unfold AM.flip; rw [if_pos hb]
    rw [this]; exact ⟨ly, ln, lf, φ, A, h⟩
  | false =>
    by_cases he : m.minorErr roots = 0
    · obtain ⟨_, _, _, g, _⟩ := h.flip hb he; exact ⟨_, _, _, _, _, g⟩
    · have hno := minor_no he
      have : m.flip roots = ([], m.minorErr roots, m) := by
        unfold AM.flip
        rw [if_neg (by rw [hb]; simp)]
        simp only
        rw [hno, if_pos he]
      rw [this]; exact ⟨ly, ln, lf, φ, A, h⟩
theorem Fine.step (h : Fine m) (w : Int) : Fine (m.step w).2.2 := by
  obtain ⟨ly, ln, lf, φ, A, h⟩ := h
  unfold AM.step
  split
  · exact ⟨ly, ln, lf, φ, A, h⟩
  · split
    · exact ⟨ly, ln, lf, φ, A, h⟩
    · rename_i hb
      have hb : m.busy = true := by simpa using hb
      simp only
      obtain ⟨ln', φ', g, _, _, _, _, _, _, g7, _, _, g10, _⟩ := h.steps w.toNat hb
      split
      · exact ⟨_, _, _, _, _, g⟩
      · exact ⟨_, _, _, _, _, g.fin g7 (by omega)⟩
end
theorem sf0 : Fine sm0 := ⟨_, _, _, _, _, Good.new (by decide) (by decide) (by decide) (by decide) (by decide) (by decide)⟩
theorem sf3 : Fine sm3 := ((sf0.alloc 0).alloc 0).alloc 0
theorem sf5 : Fine sm5 := sf3.set 1 1 4
theorem sf6 : Fine sm6 := sf5.minor [4, 1]
theorem sf7 : Fine sm7 := sf6.get 14 1
theorem sf8 : Fine sm8 := sf7.flip [14]
theorem sf9 : Fine sm9 := sf8.get 51 1
theorem sf10 : Fine sm10 := sf9.step 3
theorem sf11 : Fine sm11 := sf10.step 3
end Go.Proofs.Ytmhmpjgkkpbnnaa
