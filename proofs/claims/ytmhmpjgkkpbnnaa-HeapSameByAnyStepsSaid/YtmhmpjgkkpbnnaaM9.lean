/-
  Check, of a memory that is in order: the objects of a space. Conditions: what the heap holds, and that the machine is in order.
  Check, of a memory that is in order: the spaces, and the whole. Conditions: what the heap holds, and that the machine is in order.
  Check, of a memory that is in order. Conditions: what the heap holds, and that the machine is in order.
  New; the chapter's example: its shapes, and what happens to its machine. Conditions: what the heap holds.
  The chapter's example is as it must be: sanity. No condition.
  HeapNil: a nil memory has the errors, and the zero values, that it must have. No condition: for every call.
  Small lemmas that the reference and the player share: arrays loaded, lists forwarded, the law's fit, a new machine. Conditions: what the heap holds.
-/
import Derived.Test.YtmhmpjgkkpbnnaaM8
import Derived.Test.YtmhmpjgkkpbnnaaM7
import Derived.Test.YtmhmpjgkkpbnnaaM2
namespace Go.Ck
open Go
section
variable {P : Program} {r : Option Nat} {n : Nat} {w0 : World} {hr : SH} {R : Value → SH → Prop} {fn : Func} {e : Env} {h h' k : SH} {vs : List Value} {bs : List Nat} {ds : List Deferred}
theorem xt_retMV (hds : ds = bs.map mk) (hv : ResV P k e fn.results.toList vs) (hR : R (outOf vs) h') (hk : Sub (h' ++ hr) k) (hp : Sub (marks bs ++ k) h) : Xt ⟨P, r, n, ds, w0⟩ .ret (bodyPostM (Fw none) 0 P fn (Post w0 hr R)) e h :=
  fun a w hk' hh hw => by
    show LeavesInM (Fw none) 0 P fn a.tmps _ a.defers .returning w
    rw [hk'.defers, hds]
    exact leavesM bs w (hh.sub hp) hw fun w' h1 h2 => ⟨_, run_resultsV hk' hv h1, _, h', rfl, hR, h1.sub hk, h2⟩
end
end Go.Ck
namespace Go.Proofs.Ytmhmpjgkkpbnnaa
open Go.Ck Fx Go.Hm Go.Hm.AM
attribute [local irreducible] St Cd Xt Nx DrL LsW
section
variable {L : MemL} {μ : Mem} {S R : Res} {m : AM} {ly ln lf : List Int} {φ : Int → Option Nat} {A : Store} {v : Value} {roots : List Int}
theorem fineWord (I : MI L μ S m) (h : AM.Good m ly ln lf φ A) {t : Int} {j : Nat} (ht : t ∈ ly ∨ t ∈ ln) (hj : j < (m.row t).length) (hr : (m.row t)[j] = true) :
    (m.word (t + 1 + j) = 0 ∨ μ.cur (m.word (t + 1 + j)) = true ∨ (t ∈ ln ∧ μ.bu = true ∧ μ.o.begins (m.word (t + 1 + j)) = true ∧ μ.sc ≤ t + 1 + j)) ∧ (t ∈ ln → μ.y.begins (m.word (t + 1 + j)) = true → μ.kn.contains (t, (j : Int)) = true) := by
  have hp : t + 1 + (j : Int) ∈ m.pl t := mem_pl.2 ⟨j, by rw [List.getElem?_eq_getElem hj, hr], rfl⟩
  rw [I.r.cur h.g, I.r.bu, I.r.bo, I.r.by_ h.g, I.r.kn, I.r.sc]
  rcases ht with ht | ht
  · refine ⟨?_, fun hn => absurd ht (h.g.oy hn)⟩
    rcases h.g.wy t ht _ hp with g | g | g
    · exact .inl g
    · exact .inr (.inl (h.g.cur_iff.2 (.inl g)))
    · exact .inr (.inl (h.g.cur_iff.2 (.inr g)))
  · have hno : ∀ w, w = 0 ∨ w ∈ ln ∨ w ∈ lf → (m.isY w && decide (0 < m.head w)) = true → False := fun w hw hb => by rw [h.g.isYn hw] at hb; cases hb
    rcases h.g.wo t ht _ hp with g | g | g | g
    · exact ⟨.inl g, fun _ hb => (hno _ (.inl g) hb).elim⟩
    · exact ⟨.inr (.inl (h.g.cur_iff.2 (.inr g))), fun _ hb => (hno _ (.inr (.inl g)) hb).elim⟩
    · refine ⟨.inr (.inl (h.g.cur_iff.2 (.inl g.1))), fun _ _ => ?_⟩
      have hpb := pl_bd hp
      have hob := h.g.obd ht; have h0 := h.g.oldle
      have hpr : t + 1 + (j : Int) ∈ m.remP := g.2.resolve_right (by omega)
      obtain ⟨k, hk, he⟩ := List.mem_map.1 hpr
      obtain ⟨k1, i, k2, k3⟩ := h.rm k hk
      have hi := (List.getElem?_eq_some_iff.1 k3).1
      have := h.g.same (.inr (.inl k1)) (.inr (.inl ht)) (p := t + 1 + j) (by omega) (by unfold AM.size; omega) (by omega) (by unfold AM.size; omega)
      have he2 : k = (t, (j : Int)) := Prod.ext this (by omega)
      rw [← he2]; simpa using hk
    · refine ⟨.inr (.inr ⟨ht, ?_, ?_, g.2⟩), fun _ hb => (hno _ (.inr (.inr g.1)) hb).elim⟩
      · cases hb : m.busy with
        | true => rfl
        | false => rw [h.g.nb hb] at g; simp at g
      · have := h.g.fhead g.1
        rw [ours_of (y := false) (N := ly) h.g (by simpa using g.1) |> fun (q : m.isF _ = true) => q]; simpa using this
set_option maxHeartbeats 4000000 in
set_option maxRecDepth 100000 in
theorem finey_c {g1 g2 : Nat} (I : MI L μ S m) (h : AM.Good m ly ln lf φ A) {t : Int} (ht : t ∈ ly) : Reads Try.prog 69 #[.int .i64 t, .pointer (some ⟨g1, 0, none⟩), .pointer (some ⟨g2, 0, none⟩)] (pt g1 (cl [.pointer (some ⟨L.mb, 0, none⟩)] 27) :: pt g2 (cl [.pointer (some ⟨L.y.sb, 0, none⟩)] 95) :: memSH L μ S) (.bool true) := by
  have oy := I.r.oky h.g; have on := I.r.okn h.g; have oo := I.r.oko h.g; have hS := I.shp'; have hl := I.r.shl h.g
  have h1y := oy.us; have h2y := oy.fr; have h3y := oy.ws; have h1n := on.us; have h2n := on.fr; have h3n := on.ws
  have e1 := I.r.y.fr; have e2 := I.r.y.us; have e3 := I.r.n.fr; have e4 := I.r.n.us; have e5 := I.r.y.ln; have e6 := I.r.n.ln
  have hob := h.g.oldle; have hyb := h.g.yl
  have hbd : (μ.y.fr : Int) ≤ t ∧ t + m.size t ≤ (μ.y.fr : Int) + μ.y.us ∧ μ.y.wd t = m.head t - 1 ∧ 0 < m.head t ∧ m.head t ≤ m.sh.length ∧ μ.y.Ok := by
    first
      | (have hb := h.g.ybd ht; exact ⟨by omega, by omega, I.r.wdy h.g ht, h.g.yhead ht, h.g.y.ok t ht, oy⟩)
      | (have hb := h.g.obd ht; exact ⟨by omega, by omega, I.r.wdn h.g ht, h.g.ohead ht, h.g.o.ok t ht, on⟩)
  obtain ⟨b1, b2, b3', b4', b5, b6⟩ := hbd
  have b7 := b6.us; have b8 := b6.ws; have b9 := b6.fr
  have hrl : ((m.row t).length : Int) ≤ 100 := by have := hl.at (m.head t - 1); rw [shAt_row I.r] at this; omega
  have hsz : m.size t = 1 + (m.row t).length := rfl
  obtain ⟨j1, hj1, hj2⟩ := info_of i117
  unfold memSH
  refine ct_ofM (n := 96) Try.func69 rfl rfl (len rfl) fun hr w0 => ?_
  simp only [List.cons_append, List.nil_append]
  refine cd_seq (cd_region (st_bx rfl rfl fun b3 => ?_))
  refine st_alc al4 fun b4 => ?_
  refine st_nil (nx_kp [1, 2, 3, 4] rfl (nx_then (cd_seq (cd_seq (cd_region (st_v (v_ld rfl ld27) ?_))))))
  refine st_v (v_ld rfl ld95) ?_
  refine st_v (v_ld rfl ld3) ?_
  refine st_cl rfl rfl en70 rfl (refs_ct (mp := .pointer (some ⟨L.mb, 0, none⟩)) (sp := .pointer (some ⟨L.y.sb, 0, none⟩)) (t := t) rfl rfl) ?_
  rintro v' h' ⟨c1, c2, c3, rfl, rfl⟩
  simp only [List.cons_append, List.nil_append]
  refine st_nil (nx_kp [1, 2, 3, 4, 13] rfl (nx_then (cd_block (cd_range' rfl en108 fun yl db rec hst hpe hps has hbo hkn2 => ?_))))
  refine ⟨_, Ct.perm (refs1_ct (σ := Unit) (L := L) (S := S) (sh := μ.sh) (l := L.y) (b1 := c1) (b2 := c2) (b3 := c3) (yl := yl) (fr := μ.y.fr) (ln := μ.y.ws.length) (t := t) (row := m.row t) (fun _ => μ) (fun _ => μ.y)
    (fun _ => pt yl (.loop rec) :: pt db (.deferred (some [])) :: tb L.y μ.y :: sb L.n μ.n :: wb L.n μ.n :: tb L.n μ.n :: pt b4 (cl [.bool false] 4) :: pt b3 (cl [.int .i64 t] 3) :: pt g1 (cl [.pointer (some ⟨L.mb, 0, none⟩)] 27) :: pt g2 (cl [.pointer (some ⟨L.y.sb, 0, none⟩)] 95) :: sb L.o μ.o :: wb L.o μ.o :: tb L.o μ.o :: knR L μ :: mpr L.mvb (mvv μ.mv) :: hr)
    (fun _ _ => True) (fun _ => False) () trivial hS hl (by rw [b3']; omega) (by rw [b3', I.r.sh]; omega) (by rw [b3', shAt_row I.r]) (fun _ _ _ => ⟨b6, rfl, rfl⟩) b1 (by omega) ?_ (fun _ _ _ _ _ => trivial)) ?_, ?_⟩
  · rintro j ⟨⟩ hj hrow _
    have hw := fineWord I h (t := t) (j := j) (.inl ht) hj hrow
    have hwd : μ.y.ws.getD (t + 1 + j - μ.y.fr).toNat 0 = m.word (t + 1 + j) := I.r.wordy (by omega) (by omega) (Gd.innery h.g ht (by omega) (by unfold AM.size; omega))
    generalize m.word (t + 1 + j) = w at hw hwd
    obtain ⟨hw1, hw2⟩ := hw
    have hrd : Rd (wb L.y μ.y) ⟨L.y.wb, (t + 1 + j - μ.y.fr).toNat, none⟩ (.int .i64 w) := by
      rw [← hwd]; exact rd_ints (by omega)
    refine Yc.perm (yc_of (n := 96) (rec := rec) (args := [.int .i64 j, .pointer (some ⟨L.y.wb, (t + 1 + j - μ.y.fr).toNat, none⟩)])
      (hf := pt c1 (cl [.pointer (some ⟨L.mb, 0, none⟩)] 27) :: pt c2 (cl [.pointer (some ⟨L.y.sb, 0, none⟩)] 95) :: pt c3 (cl [.int .i64 t] 3) :: mb L μ :: sb L.y μ.y :: wb L.y μ.y :: S :: pt db (.deferred (some [])) :: tb L.y μ.y :: sb L.n μ.n :: wb L.n μ.n :: tb L.n μ.n :: pt b4 (cl [.bool false] 4) :: pt b3 (cl [.int .i64 t] 3) :: pt g1 (cl [.pointer (some ⟨L.mb, 0, none⟩)] 27) :: pt g2 (cl [.pointer (some ⟨L.y.sb, 0, none⟩)] 95) :: sb L.o μ.o :: wb L.o μ.o :: tb L.o μ.o :: knR L μ :: mpr L.mvb (mvv μ.mv) :: hr) (by rw [hps]; rfl) hkn2 (by rw [hps]; decide) ?_) ?_
    · intro hr2 w1
      rw [has, hps, hbo]
      simp only [List.cons_append, List.nil_append]
      refine cd_seq (cd_region (st_v (v_assign rfl) (st_nil (nx_kp [1, 2, 3, 4, 5, 15] rfl (nx_then (cd_region (st_v (v_assign rfl) (st_nil (nx_kp [1, 2, 3, 4, 5, 6] rfl (nx_xt (xt_mid rfl (by repeat (first | exact Sel.here | apply Sel.there)) (by first | rfl | assumption) ?_)))))))))))
      refine cd_block (cd_seq (cd_drawh (ork [(0, 1), (1, 2), (2, 2), (3, 1), (4, 1), (5, 2), (6, 2), (7, 2), (8, 2), (9, 2)] .nil) (fun _ => true) mixed (by kernel_rfl) ?_))
      refine dr_v rfl (v_ld rfl ld27) ?_
      refine dp_v rfl (v_move rfl) (dp_v rfl (v_nilCheck rfl) (dr_v rfl (v_ld rfl ld3) ?_))
      refine dr_clr rfl rfl rfl en71 rfl (current_ct (L := L) (μ := μ) (t := w) oy on I.yn) ?_
      refine dp_v rfl (v_move rfl) (dp_v rfl (v_extract rfl rfl) (dp_v rfl (v_extract rfl rfl) (dp_v rfl (v_assign rfl) (dp_v rfl (v_assign rfl) (dr_nil (nx_kp [1, 2, 3, 4, 5, 6, 8] rfl (nx_then (cd_seq (cd_drawh (ork [(0, 1), (1, 2), (2, 2), (3, 1), (4, 2), (5, 1), (6, 2), (7, 2), (8, 1), (9, 2), (10, 2), (11, 1), (12, 1), (13, 2), (14, 2), (15, 1), (16, 1), (17, 2), (18, 2), (19, 1), (20, 1), (21, 2), (22, 2), (23, 1), (24, 2), (25, 2), (26, 2), (27, 1), (28, 2), (29, 2), (30, 1), (31, 2), (32, 2), (33, 2)] .nil) (fun _ => true) mixed (by kernel_rfl) ?_)))))))))
      refine dr_v rfl (v_ld rfl ld27) ?_
      refine dp_v rfl (v_nilCheck rfl) (dp_v rfl (v_fieldAddr rfl fa100_5 rfl) (dr_v rfl (v_ld rfl ld4) ?_))
      refine dp_v rfl (v_move rfl) (dr_cut (k := 9) (d := 37) (v := .bool (μ.bu && μ.o.begins w)) (fun hcut => bool_want (b := μ.bu) true (fun hg => ?_) (fun hg => ?_)) ?_)
      · refine dr_sk rfl rfl rfl hg ?_
        refine dp_sk rfl rfl rfl hg ?_
        refine dp_sk rfl rfl rfl hg ?_
        refine dr_sk rfl rfl rfl hg ?_
        refine dp_sk rfl rfl rfl hg ?_
        refine dp_sk rfl rfl rfl hg ?_
        refine dr_sk rfl rfl rfl hg ?_
        refine dr_sk rfl rfl rfl hg ?_
        refine dp_v rfl (v_pick_false (bool_ev rfl hg) rfl) ?_
        exact hcut _ (ssub_head (by first | rfl | (rw [hg]; rfl) | simp_all) (ssub_skip rfl (ssub_skip rfl (ssub_skip rfl (ssub_skip rfl (ssub_skip rfl (ssub_skip rfl (ssub_skip rfl (ssub_skip rfl (ssub_refl))))))))))
      · skip
        refine dr_vg rfl rfl (bool_get rfl hg) (v_ld rfl ld27) ?_
        refine dp_vg rfl rfl (bool_get rfl hg) (v_nilCheck rfl) (dp_vg rfl rfl (bool_get rfl hg) (v_fieldAddr rfl fa100_3 rfl) (dr_vg rfl rfl (bool_get rfl hg) (v_ld rfl ld95) ?_))
        refine dp_vg rfl rfl (bool_get rfl hg) (v_move rfl) (dp_vg rfl rfl (bool_get rfl hg) (v_nilCheck rfl) (dr_vg rfl rfl (bool_get rfl hg) (v_ld rfl ld3) ?_))
        refine dr_clrg rfl rfl (bool_get rfl hg) rfl rfl en72 rfl (begins_ct (l := L.o) (s := μ.o) (t := w) oo) ?_
        refine dp_v rfl (v_pick_true (bool_ev rfl hg) rfl) ?_
        exact hcut _ (ssub_head (by first | rfl | (rw [hg]; rfl) | simp_all) (ssub_skip rfl (ssub_skip rfl (ssub_skip rfl (ssub_skip rfl (ssub_skip rfl (ssub_skip rfl (ssub_skip rfl (ssub_skip rfl (ssub_refl))))))))))
      refine dp_v rfl (v_move rfl) (dr_cut (k := 7) (d := 45) (v := .bool ((μ.bu && μ.o.begins w) && false)) (fun hcut => bool_want (b := (μ.bu && μ.o.begins w)) true (fun hg => ?_) (fun hg => ?_)) ?_)
      · refine dr_sk rfl rfl rfl hg ?_
        refine dr_sk rfl rfl rfl hg ?_
        refine dp_sk rfl rfl rfl hg ?_
        refine dp_sk rfl rfl rfl hg ?_
        refine dr_sk rfl rfl rfl hg ?_
        refine dr_sk rfl rfl rfl hg ?_
        refine dp_v rfl (v_pick_false (bool_ev rfl hg) rfl) ?_
        exact hcut _ (ssub_head (by first | rfl | (rw [hg]; rfl) | simp_all) (ssub_skip rfl (ssub_skip rfl (ssub_skip rfl (ssub_skip rfl (ssub_skip rfl (ssub_skip rfl (ssub_refl))))))))
      · skip
        refine dr_vg rfl rfl (bool_get rfl hg) (v_ld rfl ld95) ?_
        refine dr_vg rfl rfl (bool_get rfl hg) (v_ld rfl ld27) ?_
        refine dp_vg rfl rfl (bool_get rfl hg) (v_nilCheck rfl) (dp_vg rfl rfl (bool_get rfl hg) (v_fieldAddr rfl fa100_2 rfl) (dr_vg rfl rfl (bool_get rfl hg) (v_ld rfl ld95) ?_))
        refine dr_vg rfl rfl (bool_get rfl hg) (v_eql_ptr_other rfl rfl pt95 hj1 hj2 (by repeat (first | exact Sel.here | apply Sel.there)) (by repeat (first | exact Sel.here | apply Sel.there))) ?_
        refine dp_v rfl (v_pick_true (bool_ev rfl hg) rfl) ?_
        exact hcut _ (ssub_head (by first | rfl | (rw [hg]; rfl) | simp_all) (ssub_skip rfl (ssub_skip rfl (ssub_skip rfl (ssub_skip rfl (ssub_skip rfl (ssub_skip rfl (ssub_refl))))))))
      refine dp_v rfl (v_move rfl) (dr_cut (k := 10) (d := 56) (v := .bool (((μ.bu && μ.o.begins w) && false) && decide (μ.sc ≤ t + 1 + j))) (fun hcut => bool_want (b := ((μ.bu && μ.o.begins w) && false)) true (fun hg => ?_) (fun hg => ?_)) ?_)
      · refine dr_sk rfl rfl rfl hg ?_
        refine dp_sk rfl rfl rfl hg ?_
        refine dp_sk rfl rfl rfl hg ?_
        refine dp_sk rfl rfl rfl hg ?_
        refine dr_sk rfl rfl rfl hg ?_
        refine dp_sk rfl rfl rfl hg ?_
        refine dp_sk rfl rfl rfl hg ?_
        refine dr_sk rfl rfl rfl hg ?_
        refine dp_sk rfl rfl rfl hg ?_
        refine dp_v rfl (v_pick_false (bool_ev rfl hg) rfl) ?_
        exact hcut _ (ssub_head (by first | rfl | (rw [hg]; rfl) | simp_all) (ssub_skip rfl (ssub_skip rfl (ssub_skip rfl (ssub_skip rfl (ssub_skip rfl (ssub_skip rfl (ssub_skip rfl (ssub_skip rfl (ssub_skip rfl (ssub_refl)))))))))))
      · skip
        refine dr_vg rfl rfl (bool_get rfl hg) (v_ld rfl ld3) ?_
        refine dp_vg rfl rfl (bool_get rfl hg) (v_add rfl rfl (by unfold I64 at *; omega)) (dp_vg rfl rfl (bool_get rfl hg) (v_move rfl) (dp_vg rfl rfl (bool_get rfl hg) (v_add rfl rfl (by unfold I64 at *; omega)) (dr_vg rfl rfl (bool_get rfl hg) (v_ld rfl ld27) ?_)))
        refine dp_vg rfl rfl (bool_get rfl hg) (v_nilCheck rfl) (dp_vg rfl rfl (bool_get rfl hg) (v_fieldAddr rfl fa100_6 rfl) (dr_vg rfl rfl (bool_get rfl hg) (v_ld rfl ld3) ?_))
        refine dp_vg rfl rfl (bool_get rfl hg) (v_geq rfl rfl) (dp_v rfl (v_pick_true (bool_ev rfl hg) rfl) ?_)
        exact hcut _ (ssub_head (by first | rfl | (rw [hg]; rfl) | simp_all) (ssub_skip rfl (ssub_skip rfl (ssub_skip rfl (ssub_skip rfl (ssub_skip rfl (ssub_skip rfl (ssub_skip rfl (ssub_skip rfl (ssub_skip rfl (ssub_refl)))))))))))
      refine dp_v rfl (v_assign rfl) (dr_nil (nx_kp [1, 2, 3, 4, 5, 6, 8, 9] rfl (nx_then (cd_seq (cd_seq (cd_region (st_v (v_move rfl) (st_v (v_nilCheck rfl) (st_v (v_ld rfl ld3) ?_)))))))))
      refine st_v (v_neq rfl rfl) (st_v (v_move rfl) (st_cut (k := 8) (d := 64) (v := .bool (w != 0 && !μ.cur w)) (fun hcut => bool_want (b := (w != 0)) true (fun hg => ?_) (fun hg => ?_)) ?_))
      · refine st_sk rfl rfl hg ?_
        refine st_sk rfl rfl hg ?_
        refine st_v (v_pick_false (bool_ev rfl hg) rfl) ?_
        exact hcut _ (ssub_head (by first | rfl | (rw [hg]; rfl) | simp_all) (ssub_skip rfl (ssub_skip rfl (ssub_refl))))
      · skip
        refine st_vg rfl (bool_get rfl hg) (v_move rfl) (st_vg rfl (bool_get rfl hg) (v_not rfl) (st_v (v_pick_true (bool_ev rfl hg) rfl) ?_))
        exact hcut _ (ssub_head (by first | rfl | (rw [hg]; rfl) | simp_all) (ssub_skip rfl (ssub_skip rfl (ssub_refl))))
      refine st_v (v_move rfl) (st_cut (k := 12) (d := 68) (v := .bool ((w != 0 && !μ.cur w) && !(((μ.bu && μ.o.begins w) && false) && decide (μ.sc ≤ t + 1 + j)))) (fun hcut => bool_want (b := (w != 0 && !μ.cur w)) true (fun hg => ?_) (fun hg => ?_)) ?_)
      · refine st_sk rfl rfl hg ?_
        refine st_sk rfl rfl hg ?_
        refine st_v (v_pick_false (bool_ev rfl hg) rfl) ?_
        exact hcut _ (ssub_head (by first | rfl | (rw [hg]; rfl) | simp_all) (ssub_skip rfl (ssub_skip rfl (ssub_refl))))
      · skip
        refine st_vg rfl (bool_get rfl hg) (v_move rfl) (st_vg rfl (bool_get rfl hg) (v_not rfl) (st_v (v_pick_true (bool_ev rfl hg) rfl) ?_))
        exact hcut _ (ssub_head (by first | rfl | (rw [hg]; rfl) | simp_all) (ssub_skip rfl (ssub_skip rfl (ssub_refl))))
      refine st_nil (nx_kp [1, 2, 3, 4, 5, 6, 68] rfl (nx_then (cd_cond rfl (fun q1 => ?_) (fun q1 => ?_))))
      · skip
        exfalso
        simp only [Bool.and_eq_true, Bool.not_eq_true', bne_iff_ne, ne_eq] at q1
        rcases hw1 with hw | hw | hw
        · exact q1.1.1 hw
        · rw [hw] at q1; cases q1.1.2
        · first
            | exact absurd ht (h.g.oy hw.1)
            | (rw [hw.2.1, hw.2.2.1] at q1; simp at q1; omega)
      · skip
        refine cd_skip (xt_then (cd_seq (cd_drawh (ork [(0, 1), (1, 1), (2, 2), (3, 2), (4, 1), (5, 1), (6, 2), (7, 1), (8, 2), (9, 2), (10, 1), (11, 2), (12, 2), (13, 1), (14, 1), (15, 2), (16, 2), (17, 1), (18, 2), (19, 2), (20, 1), (21, 1), (22, 2), (23, 2), (24, 1), (25, 2), (26, 2)] .nil) (fun _ => true) mixed (by kernel_rfl) ?_)))
        refine dr_v rfl (v_ld rfl ld95) ?_
        refine dr_v rfl (v_ld rfl ld27) ?_
        refine dp_v rfl (v_nilCheck rfl) (dp_v rfl (v_fieldAddr rfl fa100_2 rfl) (dr_v rfl (v_ld rfl ld95) ?_))
        refine dr_v rfl (v_eql_ptr_other rfl rfl pt95 hj1 hj2 (by repeat (first | exact Sel.here | apply Sel.there)) (by repeat (first | exact Sel.here | apply Sel.there))) ?_
        refine dp_v rfl (v_move rfl) (dr_sk rfl rfl rfl rfl ?_)
        refine dp_sk rfl rfl rfl rfl ?_
        refine dp_sk rfl rfl rfl rfl ?_
        refine dr_sk rfl rfl rfl rfl ?_
        refine dp_sk rfl rfl rfl rfl ?_
        refine dp_sk rfl rfl rfl rfl ?_
        refine dr_sk rfl rfl rfl rfl ?_
        refine dr_sk rfl rfl rfl rfl ?_
        refine dp_v rfl (v_pick_false rfl rfl) (dp_v rfl (v_move rfl) (dr_sk rfl rfl rfl rfl ?_))
        refine dp_sk rfl rfl rfl rfl ?_
        refine dp_sk rfl rfl rfl rfl ?_
        refine dr_sk rfl rfl rfl rfl ?_
        refine dr_sk rfl rfl rfl rfl ?_
        refine dp_sk rfl rfl rfl rfl ?_
        refine dp_sk rfl rfl rfl rfl ?_
        refine dr_sk rfl rfl rfl rfl ?_
        refine dp_sk rfl rfl rfl rfl ?_
        refine dp_v rfl (v_pick_false rfl rfl) (dr_nil (nx_kp [4, 95] rfl (nx_then (cd_false rfl ?_))))
        refine cd_skip (xt_normal_block (xt_round (by repeat (first | exact Sel.here | apply Sel.there)) ⟨(), rfl, .inl ⟨rfl, trivial⟩⟩ ?_))
        rw [rec_back hst hpe]
        unfold refH
        try dsimp only
        exact (by repeat (first | exact Sub.refl _ | exact Sub.nil _ | refine Sub.sel (by repeat (first | exact Sel.here | apply Sel.there)) ?_ | apply Sub.cons))
    · unfold refH
      exact (by repeat (first | exact Pm.refl | refine Pm.cons (by repeat (first | exact Sel.here | apply Sel.there)) ?_) : Pm _ _).perm
  · unfold refH
    exact (by repeat (first | exact Pm.refl | refine Pm.cons (by repeat (first | exact Sel.here | apply Sel.there)) ?_) : Pm _ _).perm
  · rintro v' h' ⟨rfl, ⟨⟩, rfl, (_ | hf)⟩
    · refine ⟨rec, _, (by unfold refH; repeat (first | exact Sel.here | apply Sel.there)), (by rw [hst]; simp), ?_⟩
      rw [hpe]
      dsimp only
      refine xt_normal_block (xt_then (cd_seq (cd_region (st_sto rfl rfl sz4 ?_))))
      refine st_nil (nx_kp [4] rfl (nx_then (cd_ret (xt_retMV (bs := [db]) (k := pt b4 (cl [.bool true] 4) :: (pt g1 (cl [.pointer (some ⟨L.mb, 0, none⟩)] 27) :: pt g2 (cl [.pointer (some ⟨L.y.sb, 0, none⟩)] 95) :: memSH L μ S ++ hr)) rfl (.cell1 rfl ld4 (at_here (rd_cl rfl)) .nil) ⟨rfl, rfl⟩ ?_ ?_))))
      · unfold memSH
        exact Sub.cons (Sub.refl _)
      · unfold memSH marks
        simp only [List.cons_append, List.nil_append, List.map_cons, List.map_nil]
        exact (by repeat (first | exact Sub.refl _ | exact Sub.nil _ | refine Sub.sel (by repeat (first | exact Sel.here | apply Sel.there)) ?_ | apply Sub.cons))
    · exact hf.elim
set_option maxHeartbeats 4000000 in
set_option maxRecDepth 100000 in
theorem finen_c {g1 g2 : Nat} (I : MI L μ S m) (h : AM.Good m ly ln lf φ A) {t : Int} (ht : t ∈ ln) : Reads Try.prog 69 #[.int .i64 t, .pointer (some ⟨g1, 0, none⟩), .pointer (some ⟨g2, 0, none⟩)] (pt g1 (cl [.pointer (some ⟨L.mb, 0, none⟩)] 27) :: pt g2 (cl [.pointer (some ⟨L.n.sb, 0, none⟩)] 95) :: memSH L μ S) (.bool true) := by
  have oy := I.r.oky h.g; have on := I.r.okn h.g; have oo := I.r.oko h.g; have hS := I.shp'; have hl := I.r.shl h.g
  have h1y := oy.us; have h2y := oy.fr; have h3y := oy.ws; have h1n := on.us; have h2n := on.fr; have h3n := on.ws
  have e1 := I.r.y.fr; have e2 := I.r.y.us; have e3 := I.r.n.fr; have e4 := I.r.n.us; have e5 := I.r.y.ln; have e6 := I.r.n.ln
  have hob := h.g.oldle; have hyb := h.g.yl
  have hbd : (μ.n.fr : Int) ≤ t ∧ t + m.size t ≤ (μ.n.fr : Int) + μ.n.us ∧ μ.n.wd t = m.head t - 1 ∧ 0 < m.head t ∧ m.head t ≤ m.sh.length ∧ μ.n.Ok := by
    first
      | (have hb := h.g.ybd ht; exact ⟨by omega, by omega, I.r.wdy h.g ht, h.g.yhead ht, h.g.y.ok t ht, oy⟩)
      | (have hb := h.g.obd ht; exact ⟨by omega, by omega, I.r.wdn h.g ht, h.g.ohead ht, h.g.o.ok t ht, on⟩)
  obtain ⟨b1, b2, b3', b4', b5, b6⟩ := hbd
  have b7 := b6.us; have b8 := b6.ws; have b9 := b6.fr
  have hrl : ((m.row t).length : Int) ≤ 100 := by have := hl.at (m.head t - 1); rw [shAt_row I.r] at this; omega
  have hsz : m.size t = 1 + (m.row t).length := rfl
  obtain ⟨j1, hj1, hj2⟩ := info_of i117
  unfold memSH
  refine ct_ofM (n := 96) Try.func69 rfl rfl (len rfl) fun hr w0 => ?_
  simp only [List.cons_append, List.nil_append]
  refine cd_seq (cd_region (st_bx rfl rfl fun b3 => ?_))
  refine st_alc al4 fun b4 => ?_
  refine st_nil (nx_kp [1, 2, 3, 4] rfl (nx_then (cd_seq (cd_seq (cd_region (st_v (v_ld rfl ld27) ?_))))))
  refine st_v (v_ld rfl ld95) ?_
  refine st_v (v_ld rfl ld3) ?_
  refine st_cl rfl rfl en70 rfl (refs_ct (mp := .pointer (some ⟨L.mb, 0, none⟩)) (sp := .pointer (some ⟨L.n.sb, 0, none⟩)) (t := t) rfl rfl) ?_
  rintro v' h' ⟨c1, c2, c3, rfl, rfl⟩
  simp only [List.cons_append, List.nil_append]
  refine st_nil (nx_kp [1, 2, 3, 4, 13] rfl (nx_then (cd_block (cd_range' rfl en108 fun yl db rec hst hpe hps has hbo hkn2 => ?_))))
  refine ⟨_, Ct.perm (refs1_ct (σ := Unit) (L := L) (S := S) (sh := μ.sh) (l := L.n) (b1 := c1) (b2 := c2) (b3 := c3) (yl := yl) (fr := μ.n.fr) (ln := μ.n.ws.length) (t := t) (row := m.row t) (fun _ => μ) (fun _ => μ.n)
    (fun _ => pt yl (.loop rec) :: pt db (.deferred (some [])) :: tb L.n μ.n :: sb L.y μ.y :: wb L.y μ.y :: tb L.y μ.y :: pt b4 (cl [.bool false] 4) :: pt b3 (cl [.int .i64 t] 3) :: pt g1 (cl [.pointer (some ⟨L.mb, 0, none⟩)] 27) :: pt g2 (cl [.pointer (some ⟨L.n.sb, 0, none⟩)] 95) :: sb L.o μ.o :: wb L.o μ.o :: tb L.o μ.o :: knR L μ :: mpr L.mvb (mvv μ.mv) :: hr)
    (fun _ _ => True) (fun _ => False) () trivial hS hl (by rw [b3']; omega) (by rw [b3', I.r.sh]; omega) (by rw [b3', shAt_row I.r]) (fun _ _ _ => ⟨b6, rfl, rfl⟩) b1 (by omega) ?_ (fun _ _ _ _ _ => trivial)) ?_, ?_⟩
  · rintro j ⟨⟩ hj hrow _
    have hw := fineWord I h (t := t) (j := j) (.inr ht) hj hrow
    have hwd : μ.n.ws.getD (t + 1 + j - μ.n.fr).toNat 0 = m.word (t + 1 + j) := I.r.wordn (by omega) (by omega) (h.g.inner ht (by omega) (by unfold AM.size; omega))
    generalize m.word (t + 1 + j) = w at hw hwd
    obtain ⟨hw1, hw2⟩ := hw
    have hrd : Rd (wb L.n μ.n) ⟨L.n.wb, (t + 1 + j - μ.n.fr).toNat, none⟩ (.int .i64 w) := by
      rw [← hwd]; exact rd_ints (by omega)
    refine Yc.perm (yc_of (n := 96) (rec := rec) (args := [.int .i64 j, .pointer (some ⟨L.n.wb, (t + 1 + j - μ.n.fr).toNat, none⟩)])
      (hf := pt c1 (cl [.pointer (some ⟨L.mb, 0, none⟩)] 27) :: pt c2 (cl [.pointer (some ⟨L.n.sb, 0, none⟩)] 95) :: pt c3 (cl [.int .i64 t] 3) :: mb L μ :: sb L.n μ.n :: wb L.n μ.n :: S :: pt db (.deferred (some [])) :: tb L.n μ.n :: sb L.y μ.y :: wb L.y μ.y :: tb L.y μ.y :: pt b4 (cl [.bool false] 4) :: pt b3 (cl [.int .i64 t] 3) :: pt g1 (cl [.pointer (some ⟨L.mb, 0, none⟩)] 27) :: pt g2 (cl [.pointer (some ⟨L.n.sb, 0, none⟩)] 95) :: sb L.o μ.o :: wb L.o μ.o :: tb L.o μ.o :: knR L μ :: mpr L.mvb (mvv μ.mv) :: hr) (by rw [hps]; rfl) hkn2 (by rw [hps]; decide) ?_) ?_
    · intro hr2 w1
      rw [has, hps, hbo]
      simp only [List.cons_append, List.nil_append]
      refine cd_seq (cd_region (st_v (v_assign rfl) (st_nil (nx_kp [1, 2, 3, 4, 5, 15] rfl (nx_then (cd_region (st_v (v_assign rfl) (st_nil (nx_kp [1, 2, 3, 4, 5, 6] rfl (nx_xt (xt_mid rfl (by repeat (first | exact Sel.here | apply Sel.there)) (by first | rfl | assumption) ?_)))))))))))
      refine cd_block (cd_seq (cd_drawh (ork [(0, 1), (1, 2), (2, 2), (3, 1), (4, 1), (5, 2), (6, 2), (7, 2), (8, 2), (9, 2)] .nil) (fun _ => true) mixed (by kernel_rfl) ?_))
      refine dr_v rfl (v_ld rfl ld27) ?_
      refine dp_v rfl (v_move rfl) (dp_v rfl (v_nilCheck rfl) (dr_v rfl (v_ld rfl ld3) ?_))
      refine dr_clr rfl rfl rfl en71 rfl (current_ct (L := L) (μ := μ) (t := w) oy on I.yn) ?_
      refine dp_v rfl (v_move rfl) (dp_v rfl (v_extract rfl rfl) (dp_v rfl (v_extract rfl rfl) (dp_v rfl (v_assign rfl) (dp_v rfl (v_assign rfl) (dr_nil (nx_kp [1, 2, 3, 4, 5, 6, 8] rfl (nx_then (cd_seq (cd_drawh (ork [(0, 1), (1, 2), (2, 2), (3, 1), (4, 2), (5, 1), (6, 2), (7, 2), (8, 1), (9, 2), (10, 2), (11, 1), (12, 1), (13, 2), (14, 2), (15, 1), (16, 1), (17, 2), (18, 2), (19, 1), (20, 1), (21, 2), (22, 2), (23, 1), (24, 2), (25, 2), (26, 2), (27, 1), (28, 2), (29, 2), (30, 1), (31, 2), (32, 2), (33, 2)] .nil) (fun _ => true) mixed (by kernel_rfl) ?_)))))))))
      refine dr_v rfl (v_ld rfl ld27) ?_
      refine dp_v rfl (v_nilCheck rfl) (dp_v rfl (v_fieldAddr rfl fa100_5 rfl) (dr_v rfl (v_ld rfl ld4) ?_))
      refine dp_v rfl (v_move rfl) (dr_cut (k := 9) (d := 37) (v := .bool (μ.bu && μ.o.begins w)) (fun hcut => bool_want (b := μ.bu) true (fun hg => ?_) (fun hg => ?_)) ?_)
      · refine dr_sk rfl rfl rfl hg ?_
        refine dp_sk rfl rfl rfl hg ?_
        refine dp_sk rfl rfl rfl hg ?_
        refine dr_sk rfl rfl rfl hg ?_
        refine dp_sk rfl rfl rfl hg ?_
        refine dp_sk rfl rfl rfl hg ?_
        refine dr_sk rfl rfl rfl hg ?_
        refine dr_sk rfl rfl rfl hg ?_
        refine dp_v rfl (v_pick_false (bool_ev rfl hg) rfl) ?_
        exact hcut _ (ssub_head (by first | rfl | (rw [hg]; rfl) | simp_all) (ssub_skip rfl (ssub_skip rfl (ssub_skip rfl (ssub_skip rfl (ssub_skip rfl (ssub_skip rfl (ssub_skip rfl (ssub_skip rfl (ssub_refl))))))))))
      · skip
        refine dr_vg rfl rfl (bool_get rfl hg) (v_ld rfl ld27) ?_
        refine dp_vg rfl rfl (bool_get rfl hg) (v_nilCheck rfl) (dp_vg rfl rfl (bool_get rfl hg) (v_fieldAddr rfl fa100_3 rfl) (dr_vg rfl rfl (bool_get rfl hg) (v_ld rfl ld95) ?_))
        refine dp_vg rfl rfl (bool_get rfl hg) (v_move rfl) (dp_vg rfl rfl (bool_get rfl hg) (v_nilCheck rfl) (dr_vg rfl rfl (bool_get rfl hg) (v_ld rfl ld3) ?_))
        refine dr_clrg rfl rfl (bool_get rfl hg) rfl rfl en72 rfl (begins_ct (l := L.o) (s := μ.o) (t := w) oo) ?_
        refine dp_v rfl (v_pick_true (bool_ev rfl hg) rfl) ?_
        exact hcut _ (ssub_head (by first | rfl | (rw [hg]; rfl) | simp_all) (ssub_skip rfl (ssub_skip rfl (ssub_skip rfl (ssub_skip rfl (ssub_skip rfl (ssub_skip rfl (ssub_skip rfl (ssub_skip rfl (ssub_refl))))))))))
      refine dp_v rfl (v_move rfl) (dr_cut (k := 7) (d := 45) (v := .bool ((μ.bu && μ.o.begins w) && true)) (fun hcut => bool_want (b := (μ.bu && μ.o.begins w)) true (fun hg => ?_) (fun hg => ?_)) ?_)
      · refine dr_sk rfl rfl rfl hg ?_
        refine dr_sk rfl rfl rfl hg ?_
        refine dp_sk rfl rfl rfl hg ?_
        refine dp_sk rfl rfl rfl hg ?_
        refine dr_sk rfl rfl rfl hg ?_
        refine dr_sk rfl rfl rfl hg ?_
        refine dp_v rfl (v_pick_false (bool_ev rfl hg) rfl) ?_
        exact hcut _ (ssub_head (by first | rfl | (rw [hg]; rfl) | simp_all) (ssub_skip rfl (ssub_skip rfl (ssub_skip rfl (ssub_skip rfl (ssub_skip rfl (ssub_skip rfl (ssub_refl))))))))
      · skip
        refine dr_vg rfl rfl (bool_get rfl hg) (v_ld rfl ld95) ?_
        refine dr_vg rfl rfl (bool_get rfl hg) (v_ld rfl ld27) ?_
        refine dp_vg rfl rfl (bool_get rfl hg) (v_nilCheck rfl) (dp_vg rfl rfl (bool_get rfl hg) (v_fieldAddr rfl fa100_2 rfl) (dr_vg rfl rfl (bool_get rfl hg) (v_ld rfl ld95) ?_))
        refine dr_vg rfl rfl (bool_get rfl hg) (v_eql_ptr_same rfl rfl pt95 hj1) (dp_v rfl (v_pick_true (bool_ev rfl hg) rfl) ?_)
        exact hcut _ (ssub_head (by first | rfl | (rw [hg]; rfl) | simp_all) (ssub_skip rfl (ssub_skip rfl (ssub_skip rfl (ssub_skip rfl (ssub_skip rfl (ssub_skip rfl (ssub_refl))))))))
      refine dp_v rfl (v_move rfl) (dr_cut (k := 10) (d := 56) (v := .bool (((μ.bu && μ.o.begins w) && true) && decide (μ.sc ≤ t + 1 + j))) (fun hcut => bool_want (b := ((μ.bu && μ.o.begins w) && true)) true (fun hg => ?_) (fun hg => ?_)) ?_)
      · refine dr_sk rfl rfl rfl hg ?_
        refine dp_sk rfl rfl rfl hg ?_
        refine dp_sk rfl rfl rfl hg ?_
        refine dp_sk rfl rfl rfl hg ?_
        refine dr_sk rfl rfl rfl hg ?_
        refine dp_sk rfl rfl rfl hg ?_
        refine dp_sk rfl rfl rfl hg ?_
        refine dr_sk rfl rfl rfl hg ?_
        refine dp_sk rfl rfl rfl hg ?_
        refine dp_v rfl (v_pick_false (bool_ev rfl hg) rfl) ?_
        exact hcut _ (ssub_head (by first | rfl | (rw [hg]; rfl) | simp_all) (ssub_skip rfl (ssub_skip rfl (ssub_skip rfl (ssub_skip rfl (ssub_skip rfl (ssub_skip rfl (ssub_skip rfl (ssub_skip rfl (ssub_skip rfl (ssub_refl)))))))))))
      · skip
        refine dr_vg rfl rfl (bool_get rfl hg) (v_ld rfl ld3) ?_
        refine dp_vg rfl rfl (bool_get rfl hg) (v_add rfl rfl (by unfold I64 at *; omega)) (dp_vg rfl rfl (bool_get rfl hg) (v_move rfl) (dp_vg rfl rfl (bool_get rfl hg) (v_add rfl rfl (by unfold I64 at *; omega)) (dr_vg rfl rfl (bool_get rfl hg) (v_ld rfl ld27) ?_)))
        refine dp_vg rfl rfl (bool_get rfl hg) (v_nilCheck rfl) (dp_vg rfl rfl (bool_get rfl hg) (v_fieldAddr rfl fa100_6 rfl) (dr_vg rfl rfl (bool_get rfl hg) (v_ld rfl ld3) ?_))
        refine dp_vg rfl rfl (bool_get rfl hg) (v_geq rfl rfl) (dp_v rfl (v_pick_true (bool_ev rfl hg) rfl) ?_)
        exact hcut _ (ssub_head (by first | rfl | (rw [hg]; rfl) | simp_all) (ssub_skip rfl (ssub_skip rfl (ssub_skip rfl (ssub_skip rfl (ssub_skip rfl (ssub_skip rfl (ssub_skip rfl (ssub_skip rfl (ssub_skip rfl (ssub_refl)))))))))))
      refine dp_v rfl (v_assign rfl) (dr_nil (nx_kp [1, 2, 3, 4, 5, 6, 8, 9] rfl (nx_then (cd_seq (cd_seq (cd_region (st_v (v_move rfl) (st_v (v_nilCheck rfl) (st_v (v_ld rfl ld3) ?_)))))))))
      refine st_v (v_neq rfl rfl) (st_v (v_move rfl) (st_cut (k := 8) (d := 64) (v := .bool (w != 0 && !μ.cur w)) (fun hcut => bool_want (b := (w != 0)) true (fun hg => ?_) (fun hg => ?_)) ?_))
      · refine st_sk rfl rfl hg ?_
        refine st_sk rfl rfl hg ?_
        refine st_v (v_pick_false (bool_ev rfl hg) rfl) ?_
        exact hcut _ (ssub_head (by first | rfl | (rw [hg]; rfl) | simp_all) (ssub_skip rfl (ssub_skip rfl (ssub_refl))))
      · skip
        refine st_vg rfl (bool_get rfl hg) (v_move rfl) (st_vg rfl (bool_get rfl hg) (v_not rfl) (st_v (v_pick_true (bool_ev rfl hg) rfl) ?_))
        exact hcut _ (ssub_head (by first | rfl | (rw [hg]; rfl) | simp_all) (ssub_skip rfl (ssub_skip rfl (ssub_refl))))
      refine st_v (v_move rfl) (st_cut (k := 12) (d := 68) (v := .bool ((w != 0 && !μ.cur w) && !(((μ.bu && μ.o.begins w) && true) && decide (μ.sc ≤ t + 1 + j)))) (fun hcut => bool_want (b := (w != 0 && !μ.cur w)) true (fun hg => ?_) (fun hg => ?_)) ?_)
      · refine st_sk rfl rfl hg ?_
        refine st_sk rfl rfl hg ?_
        refine st_v (v_pick_false (bool_ev rfl hg) rfl) ?_
        exact hcut _ (ssub_head (by first | rfl | (rw [hg]; rfl) | simp_all) (ssub_skip rfl (ssub_skip rfl (ssub_refl))))
      · skip
        refine st_vg rfl (bool_get rfl hg) (v_move rfl) (st_vg rfl (bool_get rfl hg) (v_not rfl) (st_v (v_pick_true (bool_ev rfl hg) rfl) ?_))
        exact hcut _ (ssub_head (by first | rfl | (rw [hg]; rfl) | simp_all) (ssub_skip rfl (ssub_skip rfl (ssub_refl))))
      refine st_nil (nx_kp [1, 2, 3, 4, 5, 6, 68] rfl (nx_then (cd_cond rfl (fun q1 => ?_) (fun q1 => ?_))))
      · skip
        exfalso
        simp only [Bool.and_eq_true, Bool.not_eq_true', bne_iff_ne, ne_eq] at q1
        rcases hw1 with hw | hw | hw
        · exact q1.1.1 hw
        · rw [hw] at q1; cases q1.1.2
        · first
            | exact absurd ht (h.g.oy hw.1)
            | (rw [hw.2.1, hw.2.2.1] at q1; simp at q1; omega)
      · skip
        refine cd_skip (xt_then (cd_seq (cd_drawh (ork [(0, 1), (1, 1), (2, 2), (3, 2), (4, 1), (5, 1), (6, 2), (7, 1), (8, 2), (9, 2), (10, 1), (11, 2), (12, 2), (13, 1), (14, 1), (15, 2), (16, 2), (17, 1), (18, 2), (19, 2), (20, 1), (21, 1), (22, 2), (23, 2), (24, 1), (25, 2), (26, 2)] .nil) (fun _ => true) mixed (by kernel_rfl) ?_)))
        refine dr_v rfl (v_ld rfl ld95) ?_
        refine dr_v rfl (v_ld rfl ld27) ?_
        refine dp_v rfl (v_nilCheck rfl) (dp_v rfl (v_fieldAddr rfl fa100_2 rfl) (dr_v rfl (v_ld rfl ld95) ?_))
        refine dr_v rfl (v_eql_ptr_same rfl rfl pt95 hj1) (dp_v rfl (v_move rfl) (dr_vg rfl rfl rfl (v_ld rfl ld27) ?_))
        refine dp_vg rfl rfl rfl (v_nilCheck rfl) (dp_vg rfl rfl rfl (v_fieldAddr rfl fa100_1 rfl) (dr_vg rfl rfl rfl (v_ld rfl ld95) ?_))
        refine dp_vg rfl rfl rfl (v_move rfl) (dp_vg rfl rfl rfl (v_nilCheck rfl) (dr_vg rfl rfl rfl (v_ld rfl ld3) ?_))
        refine dr_clrg rfl rfl rfl rfl rfl en72 rfl (begins_ct (l := L.y) (s := μ.y) (t := w) oy) ?_
        refine dp_v rfl (v_pick_true rfl rfl) (dp_v rfl (v_move rfl) (dr_cut (k := 10) (d := 95) (v := .bool (μ.y.begins w && !μ.kn.contains (t, (j : Int)))) (fun hcut => bool_want (b := μ.y.begins w) true (fun hg => ?_) (fun hg => ?_)) ?_))
        · refine dr_sk rfl rfl rfl hg ?_
          refine dp_sk rfl rfl rfl hg ?_
          refine dp_sk rfl rfl rfl hg ?_
          refine dr_sk rfl rfl rfl hg ?_
          refine dr_sk rfl rfl rfl hg ?_
          refine dp_sk rfl rfl rfl hg ?_
          refine dp_sk rfl rfl rfl hg ?_
          refine dr_sk rfl rfl rfl hg ?_
          refine dp_sk rfl rfl rfl hg ?_
          refine dp_v rfl (v_pick_false (bool_ev rfl hg) rfl) ?_
          exact hcut _ (ssub_head (by first | rfl | (rw [hg]; rfl) | simp_all) (ssub_skip rfl (ssub_skip rfl (ssub_skip rfl (ssub_skip rfl (ssub_skip rfl (ssub_skip rfl (ssub_skip rfl (ssub_skip rfl (ssub_skip rfl (ssub_refl)))))))))))
        · skip
          refine dr_vg rfl rfl (bool_get rfl hg) (v_ld rfl ld27) ?_
          refine dp_vg rfl rfl (bool_get rfl hg) (v_nilCheck rfl) (dp_vg rfl rfl (bool_get rfl hg) (v_fieldAddr rfl fa100_4 rfl) (dr_vg rfl rfl (bool_get rfl hg) (v_ld rfl ld98) ?_))
          refine dr_vg rfl rfl (bool_get rfl hg) (v_ld rfl ld3) ?_
          refine dp_vg rfl rfl (bool_get rfl hg) (v_move rfl) (dp_vg rfl rfl (bool_get rfl hg) (v_build (cells := [.int .i64 t, .int .i64 j]) rfl (fun _ => by kernel_rfl)) ?_)
          refine dr_clrg rfl rfl (bool_get rfl hg) rfl rfl en73 rfl (contains_ct (v := L.vk) (l := μ.kn) (x := (t, (j : Int))) (I.kn h).1) ?_
          refine dp_vg rfl rfl (bool_get rfl hg) (v_not rfl) (dp_v rfl (v_pick_true (bool_ev rfl hg) rfl) ?_)
          exact hcut _ (ssub_head (by first | rfl | (rw [hg]; rfl) | simp_all) (ssub_skip rfl (ssub_skip rfl (ssub_skip rfl (ssub_skip rfl (ssub_skip rfl (ssub_skip rfl (ssub_skip rfl (ssub_skip rfl (ssub_skip rfl (ssub_refl)))))))))))
        refine dr_nil (nx_kp [4, 95] rfl (nx_then (cd_cond rfl (fun q2 => ?_) (fun q2 => ?_))))
        · skip
          exfalso
          simp only [Bool.and_eq_true, Bool.not_eq_true'] at q2
          rw [hw2 ht q2.1] at q2
          cases q2.2
        refine cd_skip (xt_normal_block (xt_round (by repeat (first | exact Sel.here | apply Sel.there)) ⟨(), rfl, .inl ⟨rfl, trivial⟩⟩ ?_))
        rw [rec_back hst hpe]
        unfold refH
        try dsimp only
        exact (by repeat (first | exact Sub.refl _ | exact Sub.nil _ | refine Sub.sel (by repeat (first | exact Sel.here | apply Sel.there)) ?_ | apply Sub.cons))
    · unfold refH
      exact (by repeat (first | exact Pm.refl | refine Pm.cons (by repeat (first | exact Sel.here | apply Sel.there)) ?_) : Pm _ _).perm
  · unfold refH
    exact (by repeat (first | exact Pm.refl | refine Pm.cons (by repeat (first | exact Sel.here | apply Sel.there)) ?_) : Pm _ _).perm
  · rintro v' h' ⟨rfl, ⟨⟩, rfl, (_ | hf)⟩
    · refine ⟨rec, _, (by unfold refH; repeat (first | exact Sel.here | apply Sel.there)), (by rw [hst]; simp), ?_⟩
      rw [hpe]
      dsimp only
      refine xt_normal_block (xt_then (cd_seq (cd_region (st_sto rfl rfl sz4 ?_))))
      refine st_nil (nx_kp [4] rfl (nx_then (cd_ret (xt_retMV (bs := [db]) (k := pt b4 (cl [.bool true] 4) :: (pt g1 (cl [.pointer (some ⟨L.mb, 0, none⟩)] 27) :: pt g2 (cl [.pointer (some ⟨L.n.sb, 0, none⟩)] 95) :: memSH L μ S ++ hr)) rfl (.cell1 rfl ld4 (at_here (rd_cl rfl)) .nil) ⟨rfl, rfl⟩ ?_ ?_))))
      · unfold memSH
        exact Sub.cons (Sub.refl _)
      · unfold memSH marks
        simp only [List.cons_append, List.nil_append, List.map_cons, List.map_nil]
        exact (by repeat (first | exact Sub.refl _ | exact Sub.nil _ | refine Sub.sel (by repeat (first | exact Sel.here | apply Sel.there)) ?_ | apply Sub.cons))
    · exact hf.elim
end
end Go.Proofs.Ytmhmpjgkkpbnnaa
namespace Go.Ck
open Go
section
variable {P : Program} {e : Env} {h h' : SH} {ty : TypeId}
/-- s[lo:hi], wherever it begins. -/
theorem v_sliceX {T E : TypeId} {x y z : Operand} {b n cp lo hi : Nat} {i j : Int} {k k' : IntKind} (hx : e.ev? x = some (.slice (some ⟨b, 0, none⟩) n cp)) (hy : e.ev? y = some (.int k i)) (hz : e.ev? z = some (.int k' j)) (hT : SlE P T E 1)
    (hi' : i = (lo : Int)) (hj : j = (hi : Int)) (h1 : lo ≤ hi) (h2 : hi ≤ cp) : Vop P e h (.slice T x (some y) (some z) none) ty (.slice (some ⟨b, if cp = lo then 0 else lo, none⟩) (hi - lo) (cp - lo)) :=
  ⟨by simp, by simp, fun ρ w d pos after g hρ _ => by
    subst hi' hj
    have hT' : P.underlying T = some (.slice (P.elem T)) := by simp [Program.elem, hT.1]
    have he : P.elem T = E := by simp [Program.elem, hT.1]
    have hr := run_slice_lh (P := P) w T (some ⟨b, 0, none⟩) n cp hT' k k' lo hi (by omega) (by omega) (by omega)
    by_cases hc : cp = lo
    · simp only [he, hT.2 w, Result.andThen_ok, sliced, Int.toNat_natCast, if_pos hc] at hr
      simp only [if_pos hc, execOp, hρ x _ hx, Option.map_some, Option.map_none, hρ y _ hy, hρ z _ hz, Sem.run_bind, run_sliceAt_slice w T _ _ _ _ hT', hr, Result.andThen_ok, Sem.run_pure]
    · simp only [he, hT.2 w, Result.andThen_ok, sliced, Int.toNat_natCast, if_neg hc, Option.map_some, Addr.add_lit, Nat.mul_one, Nat.zero_add] at hr
      simp only [if_neg hc, execOp, hρ x _ hx, Option.map_some, Option.map_none, hρ y _ hy, hρ z _ hz, Sem.run_bind, run_sliceAt_slice w T _ _ _ _ hT', hr, Result.andThen_ok, Sem.run_pure]⟩
end
end Go.Ck
namespace Go.Proofs.Ytmhmpjgkkpbnnaa
open Go.Ck Fx Go.Hm Go.Hm.AM
attribute [local irreducible] St Cd Xt Nx DrL LsW
section
variable {L : MemL} {μ : Mem} {S R : Res} {m : AM} {ly ln lf : List Int} {φ : Int → Option Nat} {A : Store} {v : Value} {roots : List Int}
set_option maxHeartbeats 4000000 in
set_option maxRecDepth 100000 in
theorem orderedy_c {g1 g2 : Nat} (I : MI L μ S m) (h : AM.Good m ly ln lf φ A) : Reads Try.prog 74 #[.pointer (some ⟨L.mb, 0, none⟩), .pointer (some ⟨L.y.sb, 0, none⟩), .func (.func 69) #[] #[.pointer (some ⟨g1, 0, none⟩), .pointer (some ⟨g2, 0, none⟩)]] (pt g1 (cl [.pointer (some ⟨L.mb, 0, none⟩)] 27) :: pt g2 (cl [.pointer (some ⟨L.y.sb, 0, none⟩)] 95) :: memSH L μ S) (.bool true) := by
  have hfine := fun (a : Int) (ha : a ∈ ly) => finey_c (g1 := g1) (g2 := g2) I h ha
  have oy := I.r.oky h.g; have on := I.r.okn h.g; have hS := I.shp'; have hl := I.r.shl h.g
  have e1 := I.r.y.fr; have e2 := I.r.y.us; have e3 := I.r.n.fr; have e4 := I.r.n.us; have e5 := I.r.y.ln; have e6 := I.r.n.ln
  have hob := h.g.oldle; have hyb := h.g.yl; have hn1 := h.g.newle
  have oX : μ.y.Ok := by assumption
  have h1x := oX.us; have h2x := oX.fr; have h3x := oX.ws; have h4x := oX.st
  have hX : (μ.y.fr : Int) = (1 : Int) ∧ (μ.y.fr : Int) + μ.y.us = m.new := by omega
  have hTl : Tl m.size (1 : Int) m.new ly := by first | exact h.g.y.tl | exact h.g.o.tl
  have hwd : ∀ a ∈ ly, μ.y.wd a = m.head a - 1 ∧ 0 < m.head a ∧ m.head a ≤ m.sh.length ∧ μ.y.begins a = true := fun a ha => by
    first
      | exact ⟨I.r.wdy h.g ha, h.g.yhead ha, h.g.y.ok a ha, by rw [I.r.by_ h.g, (h.g.isY_iff (h.g.yhead ha)).2 ha]; simp [h.g.yhead ha]⟩
      | exact ⟨I.r.wdn h.g ha, h.g.ohead ha, h.g.o.ok a ha, by rw [I.r.bn h.g]; simp [h.g.ohead ha]; rw [isO_iff]; have := h.g.obd ha; omega⟩
  have hst : ∀ i, i < μ.y.st.length → μ.y.st.getD i false = decide (0 < m.head ((1 : Int) + i)) := by first | exact I.r.y.sts | exact I.r.n.sts
  unfold memSH at hfine ⊢
  refine ct_of (n := 80) Try.func74 rfl rfl (len rfl) fun hr w0 => ?_
  simp only [List.cons_append, List.nil_append] at hfine ⊢
  refine cd_seq (cd_region (st_v (v_assign rfl) (st_nil (nx_then (cd_seq (cd_region (st_v (v_move rfl) (st_v (v_nilCheck rfl) (st_v (v_fieldAddr rfl fa117_0 rfl) (st_v (v_fieldAddr rfl fa115_1 rfl) (st_v (v_ld rfl ld3) ?_)))))))))))
  refine st_v (v_assign rfl) (st_nil (nx_kp [0, 1, 2, 6, 7] rfl (nx_then (cd_seq (cd_block ?_)))))
  refine cd_lp (σ := Int) (fun a => [(0, .pointer (some ⟨L.mb, 0, none⟩)), (1, .pointer (some ⟨L.y.sb, 0, none⟩)), (2, .func (.func 69) #[] #[.pointer (some ⟨g1, 0, none⟩), .pointer (some ⟨g2, 0, none⟩)]), (7, .int .i64 a)]) (fun _ => pt g1 (cl [.pointer (some ⟨L.mb, 0, none⟩)] 27) :: pt g2 (cl [.pointer (some ⟨L.y.sb, 0, none⟩)] 95) :: memSH L μ S ++ hr) (fun a => a ∈ ly ∨ a = m.new) (fun a => (m.new - a).toNat) (μ.y.fr : Int) (by
    rw [hX.1]
    cases hlx : ly with
    | nil => rw [hlx] at hTl; exact .inr hTl
    | cons b k => rw [hlx] at hTl; exact .inl (by rw [hTl.1]; simp)) ?_
  rintro a ha
  unfold memSH
  simp only [List.cons_append, List.nil_append]
  refine cd_seq (cd_seq (cd_drawh (ork [(0, 2), (1, 2), (2, 2), (3, 2), (4, 2), (5, 1), (6, 2), (7, 2), (8, 2), (9, 2), (10, 1), (11, 2), (12, 2)] .nil) (fun _ => true) mixed (by kernel_rfl) ?_))
  refine dp_v rfl (v_move rfl) (dp_v rfl (v_move rfl) (dp_v rfl (v_nilCheck rfl) (dp_v rfl (v_fieldAddr rfl fa117_0 rfl) (dp_v rfl (v_fieldAddr rfl fa115_1 rfl) (dr_v rfl (v_ld rfl ld3) ?_)))))
  refine dp_v rfl (v_move rfl) (dp_v rfl (v_nilCheck rfl) (dp_v rfl (v_fieldAddr rfl fa117_0 rfl) (dp_v rfl (v_fieldAddr rfl fa115_2 rfl) (dr_v rfl (v_ld rfl ld3) ?_))))
  refine dp_v rfl (v_add rfl rfl (by unfold I64 at *; omega)) (dp_v rfl (v_lss rfl rfl) (dr_nil (nx_kp [0, 1, 2, 7, 26] rfl (nx_then (cd_cond rfl (fun hc => ?_) (fun hc => ?_))))))
  · skip
    have hlt : a < m.new := by simp at hc; omega
    have ha' : a ∈ ly := ha.resolve_right (by omega)
    obtain ⟨w1, w2, w3, w4⟩ := hwd a ha'
    have hb := hTl.mem a ha'
    have hsz : (1 : Int) + (shAt μ.sh (μ.y.wd a)).length = m.size a := by rw [w1, shAt_row I.r]; rfl
    refine cd_skip (xt_then (cd_block (cd_seq (cd_seq (cd_region (st_v (v_move rfl) (st_v (v_move rfl) (st_clr rfl rfl en72 rfl (begins_ct (l := L.y) (s := μ.y) (t := a) oX) ?_))))))))
    rw [w4]
    refine st_v (v_not rfl) (st_v (v_move rfl) (st_vg rfl rfl (v_move rfl) (st_vg rfl rfl (v_move rfl) (st_clrg rfl rfl rfl rfl en69 rfl (hfine a ha') ?_))))
    refine st_vg rfl rfl (v_not rfl) (st_v (v_pick_false rfl rfl) (st_nil (nx_kp [0, 1, 2, 7, 36] rfl (nx_then (cd_false rfl ?_)))))
    refine cd_skip (xt_then (cd_seq (cd_region (st_v (v_move rfl) (st_v (v_move rfl) (st_v (v_move rfl) (st_clr rfl rfl en112 rfl (size_ct (L := L) (μ := μ) (S := S) (l := L.y) (s := μ.y) (t := a) oX (by omega) (by omega) hS hl (by rw [w1]; omega) (by rw [w1, I.r.sh]; omega)) ?_)))))))
    rw [hsz]
    refine st_v (v_assign rfl) (st_nil (nx_kp [0, 1, 2, 7, 8] rfl (nx_then (cd_seq (cd_seq (cd_drawh (ork [(0, 2), (1, 2), (2, 2), (3, 1), (4, 2), (5, 2), (6, 2), (7, 2), (8, 2), (9, 1), (10, 2), (11, 2), (12, 2), (13, 2), (14, 2), (15, 2), (16, 2), (17, 1), (18, 2), (19, 2), (20, 2), (21, 1), (22, 1)] .nil) (fun _ => true) mixed (by kernel_rfl) ?_))))))
    refine dp_v rfl (v_move rfl) (dp_v rfl (v_nilCheck rfl) (dp_v rfl (v_fieldAddr rfl fa117_1 rfl) (dr_v rfl (v_ld rfl ld73) ?_)))
    refine dp_v rfl (v_move rfl) (dp_v rfl (v_move rfl) (dp_v rfl (v_nilCheck rfl) (dp_v rfl (v_fieldAddr rfl fa117_0 rfl) (dp_v rfl (v_fieldAddr rfl fa115_1 rfl) (dr_v rfl (v_ld rfl ld3) ?_)))))
    refine dp_v rfl (v_sub rfl rfl (by unfold I64 at *; omega)) (dp_v rfl (v_add rfl rfl (by unfold I64 at *; omega)) (dp_v rfl (v_move rfl) (dp_v rfl (v_move rfl) (dp_v rfl (v_nilCheck rfl) (dp_v rfl (v_fieldAddr rfl fa117_0 rfl) (dp_v rfl (v_fieldAddr rfl fa115_1 rfl) (dr_v rfl (v_ld rfl ld3) ?_)))))))
    refine dp_v rfl (v_sub rfl rfl (by unfold I64 at *; omega)) (dp_v rfl (v_move rfl) (dp_v rfl (v_add rfl rfl (by unfold I64 at *; omega)) (dr_v rfl (v_sliceX (lo := (a - μ.y.fr).toNat + 1) (hi := (a - μ.y.fr + m.size a).toNat) rfl rfl rfl sl73 (by omega) (by omega) (by omega) (by omega)) ?_)))
    have hnoc : ((μ.y.st.drop ((a - μ.y.fr).toNat + 1)).take ((a - μ.y.fr + m.size a).toNat - ((a - μ.y.fr).toNat + 1))).contains true = false := by
      rw [List.contains_eq_mem, decide_eq_false_iff_not]
      intro hm
      obtain ⟨i, hi, he⟩ := List.getElem_of_mem hm
      rw [List.length_take, List.length_drop] at hi
      have hi1 : (a - μ.y.fr).toNat + 1 + i < μ.y.st.length := by omega
      have hi2 : (a - μ.y.fr).toNat + 1 + i < (a - μ.y.fr + m.size a).toNat := by omega
      rw [List.getElem_take, List.getElem_drop] at he
      have h5 := hst ((a - μ.y.fr).toNat + 1 + i) (by omega)
      rw [List.getD_eq_getElem?_getD, List.getElem?_eq_getElem hi1, Option.getD_some, he] at h5
      have h6 : m.head ((1 : Int) + (((a - μ.y.fr).toNat + 1 + i : Nat) : Int)) = 0 := Gd.innery h.g ha' (by omega) (by omega)
      rw [h6] at h5; simp at h5
    have hrow : RowB (tb L.y μ.y) (.slice (some ⟨L.y.tb, if μ.y.st.length + L.y.tj.length = (a - μ.y.fr).toNat + 1 then 0 else (a - μ.y.fr).toNat + 1, none⟩) ((a - μ.y.fr + m.size a).toNat - ((a - μ.y.fr).toNat + 1)) (μ.y.st.length + L.y.tj.length - ((a - μ.y.fr).toNat + 1))) ((μ.y.st.drop ((a - μ.y.fr).toNat + 1)).take ((a - μ.y.fr + m.size a).toNat - ((a - μ.y.fr).toNat + 1))) := by
      refine ⟨_, _, by congr 1; simp only [List.length_take, List.length_drop]; omega, .inr ⟨_, _, rfl, fun j hj => ?_⟩⟩
      simp only [List.length_take, List.length_drop] at hj
      rw [if_neg (by omega), List.getElem_take, List.getElem_drop]
      have := rd_bools (b := L.y.tb) (k := (a - μ.y.fr).toNat + 1 + j) (l := μ.y.st) (j := L.y.tj) (T := 4) (by omega)
      rw [List.getD_eq_getElem?_getD, List.getElem?_eq_getElem (by omega), Option.getD_some] at this
      exact this
    refine dr_clr rfl rfl rfl en113 rfl (containsB_ct (R := tb L.y μ.y) (x := true) hrow (by rw [List.length_take, List.length_drop]; omega)) ?_
    rw [hnoc]
    refine dr_nil (nx_kp [0, 1, 2, 7, 8, 63] rfl (nx_then (cd_false rfl ?_)))
    refine cd_skip (xt_then (cd_region (st_v (v_move rfl) (st_v (v_move rfl) (st_v (v_add rfl rfl (by unfold I64 at *; omega)) (st_v (v_assign rfl) (st_nil (nx_kp [0, 1, 2, 7] rfl (nx_xt (xt_normal_block ?_))))))))))
    have hnx := Tl.next hTl a ha'
    exact xt_ag (a + m.size a) hnx (by show (_ - (a + m.size a)).toNat < (_ - a).toNat; omega)
  · skip
    have hge : a = m.new := by
      rcases ha with ha | ha
      · have hb := hTl.mem a ha; simp at hc; omega
      · exact ha
    refine cd_exit (xt_exit_then (xt_exit_then (xt_exit_block (xt_then (cd_seq (cd_drawh (ork [(0, 2), (1, 2), (2, 2), (3, 2), (4, 2), (5, 1), (6, 2), (7, 2), (8, 2), (9, 2), (10, 1), (11, 2), (12, 2), (13, 2)] .nil) (fun _ => true) mixed (by kernel_rfl) ?_))))))
    refine dp_v rfl (v_move rfl) (dp_v rfl (v_move rfl) (dp_v rfl (v_nilCheck rfl) (dp_v rfl (v_fieldAddr rfl fa117_0 rfl) (dp_v rfl (v_fieldAddr rfl fa115_1 rfl) (dr_v rfl (v_ld rfl ld3) ?_)))))
    refine dp_v rfl (v_move rfl) (dp_v rfl (v_nilCheck rfl) (dp_v rfl (v_fieldAddr rfl fa117_0 rfl) (dp_v rfl (v_fieldAddr rfl fa115_2 rfl) (dr_v rfl (v_ld rfl ld3) ?_))))
    refine dp_v rfl (v_add rfl rfl (by unfold I64 at *; omega)) (dp_v rfl (v_eql rfl rfl) (dp_v rfl (v_assign rfl) (dr_nil (nx_kp [6] rfl (nx_then (cd_ret ?_))))))
    have hv : (a == (μ.y.fr : Int) + μ.y.us) = true := by rw [hge]; simp; omega
    rw [hv]
    exact xt_rt rfl ⟨rfl, rfl⟩
set_option maxHeartbeats 4000000 in
set_option maxRecDepth 100000 in
theorem orderedn_c {g1 g2 : Nat} (I : MI L μ S m) (h : AM.Good m ly ln lf φ A) : Reads Try.prog 74 #[.pointer (some ⟨L.mb, 0, none⟩), .pointer (some ⟨L.n.sb, 0, none⟩), .func (.func 69) #[] #[.pointer (some ⟨g1, 0, none⟩), .pointer (some ⟨g2, 0, none⟩)]] (pt g1 (cl [.pointer (some ⟨L.mb, 0, none⟩)] 27) :: pt g2 (cl [.pointer (some ⟨L.n.sb, 0, none⟩)] 95) :: memSH L μ S) (.bool true) := by
  have hfine := fun (a : Int) (ha : a ∈ ln) => finen_c (g1 := g1) (g2 := g2) I h ha
  have oy := I.r.oky h.g; have on := I.r.okn h.g; have hS := I.shp'; have hl := I.r.shl h.g
  have e1 := I.r.y.fr; have e2 := I.r.y.us; have e3 := I.r.n.fr; have e4 := I.r.n.us; have e5 := I.r.y.ln; have e6 := I.r.n.ln
  have hob := h.g.oldle; have hyb := h.g.yl; have hn1 := h.g.newle
  have oX : μ.n.Ok := by assumption
  have h1x := oX.us; have h2x := oX.fr; have h3x := oX.ws; have h4x := oX.st
  have hX : (μ.n.fr : Int) = m.base ∧ (μ.n.fr : Int) + μ.n.us = m.old := by omega
  have hTl : Tl m.size m.base m.old ln := by first | exact h.g.y.tl | exact h.g.o.tl
  have hwd : ∀ a ∈ ln, μ.n.wd a = m.head a - 1 ∧ 0 < m.head a ∧ m.head a ≤ m.sh.length ∧ μ.n.begins a = true := fun a ha => by
    first
      | exact ⟨I.r.wdy h.g ha, h.g.yhead ha, h.g.y.ok a ha, by rw [I.r.by_ h.g, (h.g.isY_iff (h.g.yhead ha)).2 ha]; simp [h.g.yhead ha]⟩
      | exact ⟨I.r.wdn h.g ha, h.g.ohead ha, h.g.o.ok a ha, by rw [I.r.bn h.g]; simp [h.g.ohead ha]; rw [isO_iff]; have := h.g.obd ha; omega⟩
  have hst : ∀ i, i < μ.n.st.length → μ.n.st.getD i false = decide (0 < m.head (m.base + i)) := by first | exact I.r.y.sts | exact I.r.n.sts
  unfold memSH at hfine ⊢
  refine ct_of (n := 80) Try.func74 rfl rfl (len rfl) fun hr w0 => ?_
  simp only [List.cons_append, List.nil_append] at hfine ⊢
  refine cd_seq (cd_region (st_v (v_assign rfl) (st_nil (nx_then (cd_seq (cd_region (st_v (v_move rfl) (st_v (v_nilCheck rfl) (st_v (v_fieldAddr rfl fa117_0 rfl) (st_v (v_fieldAddr rfl fa115_1 rfl) (st_v (v_ld rfl ld3) ?_)))))))))))
  refine st_v (v_assign rfl) (st_nil (nx_kp [0, 1, 2, 6, 7] rfl (nx_then (cd_seq (cd_block ?_)))))
  refine cd_lp (σ := Int) (fun a => [(0, .pointer (some ⟨L.mb, 0, none⟩)), (1, .pointer (some ⟨L.n.sb, 0, none⟩)), (2, .func (.func 69) #[] #[.pointer (some ⟨g1, 0, none⟩), .pointer (some ⟨g2, 0, none⟩)]), (7, .int .i64 a)]) (fun _ => pt g1 (cl [.pointer (some ⟨L.mb, 0, none⟩)] 27) :: pt g2 (cl [.pointer (some ⟨L.n.sb, 0, none⟩)] 95) :: memSH L μ S ++ hr) (fun a => a ∈ ln ∨ a = m.old) (fun a => (m.old - a).toNat) (μ.n.fr : Int) (by
    rw [hX.1]
    cases hlx : ln with
    | nil => rw [hlx] at hTl; exact .inr hTl
    | cons b k => rw [hlx] at hTl; exact .inl (by rw [hTl.1]; simp)) ?_
  rintro a ha
  unfold memSH
  simp only [List.cons_append, List.nil_append]
  refine cd_seq (cd_seq (cd_drawh (ork [(0, 2), (1, 2), (2, 2), (3, 2), (4, 2), (5, 1), (6, 2), (7, 2), (8, 2), (9, 2), (10, 1), (11, 2), (12, 2)] .nil) (fun _ => true) mixed (by kernel_rfl) ?_))
  refine dp_v rfl (v_move rfl) (dp_v rfl (v_move rfl) (dp_v rfl (v_nilCheck rfl) (dp_v rfl (v_fieldAddr rfl fa117_0 rfl) (dp_v rfl (v_fieldAddr rfl fa115_1 rfl) (dr_v rfl (v_ld rfl ld3) ?_)))))
  refine dp_v rfl (v_move rfl) (dp_v rfl (v_nilCheck rfl) (dp_v rfl (v_fieldAddr rfl fa117_0 rfl) (dp_v rfl (v_fieldAddr rfl fa115_2 rfl) (dr_v rfl (v_ld rfl ld3) ?_))))
  refine dp_v rfl (v_add rfl rfl (by unfold I64 at *; omega)) (dp_v rfl (v_lss rfl rfl) (dr_nil (nx_kp [0, 1, 2, 7, 26] rfl (nx_then (cd_cond rfl (fun hc => ?_) (fun hc => ?_))))))
  · skip
    have hlt : a < m.old := by simp at hc; omega
    have ha' : a ∈ ln := ha.resolve_right (by omega)
    obtain ⟨w1, w2, w3, w4⟩ := hwd a ha'
    have hb := hTl.mem a ha'
    have hsz : (1 : Int) + (shAt μ.sh (μ.n.wd a)).length = m.size a := by rw [w1, shAt_row I.r]; rfl
    refine cd_skip (xt_then (cd_block (cd_seq (cd_seq (cd_region (st_v (v_move rfl) (st_v (v_move rfl) (st_clr rfl rfl en72 rfl (begins_ct (l := L.n) (s := μ.n) (t := a) oX) ?_))))))))
    rw [w4]
    refine st_v (v_not rfl) (st_v (v_move rfl) (st_vg rfl rfl (v_move rfl) (st_vg rfl rfl (v_move rfl) (st_clrg rfl rfl rfl rfl en69 rfl (hfine a ha') ?_))))
    refine st_vg rfl rfl (v_not rfl) (st_v (v_pick_false rfl rfl) (st_nil (nx_kp [0, 1, 2, 7, 36] rfl (nx_then (cd_false rfl ?_)))))
    refine cd_skip (xt_then (cd_seq (cd_region (st_v (v_move rfl) (st_v (v_move rfl) (st_v (v_move rfl) (st_clr rfl rfl en112 rfl (size_ct (L := L) (μ := μ) (S := S) (l := L.n) (s := μ.n) (t := a) oX (by omega) (by omega) hS hl (by rw [w1]; omega) (by rw [w1, I.r.sh]; omega)) ?_)))))))
    rw [hsz]
    refine st_v (v_assign rfl) (st_nil (nx_kp [0, 1, 2, 7, 8] rfl (nx_then (cd_seq (cd_seq (cd_drawh (ork [(0, 2), (1, 2), (2, 2), (3, 1), (4, 2), (5, 2), (6, 2), (7, 2), (8, 2), (9, 1), (10, 2), (11, 2), (12, 2), (13, 2), (14, 2), (15, 2), (16, 2), (17, 1), (18, 2), (19, 2), (20, 2), (21, 1), (22, 1)] .nil) (fun _ => true) mixed (by kernel_rfl) ?_))))))
    refine dp_v rfl (v_move rfl) (dp_v rfl (v_nilCheck rfl) (dp_v rfl (v_fieldAddr rfl fa117_1 rfl) (dr_v rfl (v_ld rfl ld73) ?_)))
    refine dp_v rfl (v_move rfl) (dp_v rfl (v_move rfl) (dp_v rfl (v_nilCheck rfl) (dp_v rfl (v_fieldAddr rfl fa117_0 rfl) (dp_v rfl (v_fieldAddr rfl fa115_1 rfl) (dr_v rfl (v_ld rfl ld3) ?_)))))
    refine dp_v rfl (v_sub rfl rfl (by unfold I64 at *; omega)) (dp_v rfl (v_add rfl rfl (by unfold I64 at *; omega)) (dp_v rfl (v_move rfl) (dp_v rfl (v_move rfl) (dp_v rfl (v_nilCheck rfl) (dp_v rfl (v_fieldAddr rfl fa117_0 rfl) (dp_v rfl (v_fieldAddr rfl fa115_1 rfl) (dr_v rfl (v_ld rfl ld3) ?_)))))))
    refine dp_v rfl (v_sub rfl rfl (by unfold I64 at *; omega)) (dp_v rfl (v_move rfl) (dp_v rfl (v_add rfl rfl (by unfold I64 at *; omega)) (dr_v rfl (v_sliceX (lo := (a - μ.n.fr).toNat + 1) (hi := (a - μ.n.fr + m.size a).toNat) rfl rfl rfl sl73 (by omega) (by omega) (by omega) (by omega)) ?_)))
    have hnoc : ((μ.n.st.drop ((a - μ.n.fr).toNat + 1)).take ((a - μ.n.fr + m.size a).toNat - ((a - μ.n.fr).toNat + 1))).contains true = false := by
      rw [List.contains_eq_mem, decide_eq_false_iff_not]
      intro hm
      obtain ⟨i, hi, he⟩ := List.getElem_of_mem hm
      rw [List.length_take, List.length_drop] at hi
      have hi1 : (a - μ.n.fr).toNat + 1 + i < μ.n.st.length := by omega
      have hi2 : (a - μ.n.fr).toNat + 1 + i < (a - μ.n.fr + m.size a).toNat := by omega
      rw [List.getElem_take, List.getElem_drop] at he
      have h5 := hst ((a - μ.n.fr).toNat + 1 + i) (by omega)
      rw [List.getD_eq_getElem?_getD, List.getElem?_eq_getElem hi1, Option.getD_some, he] at h5
      have h6 : m.head (m.base + (((a - μ.n.fr).toNat + 1 + i : Nat) : Int)) = 0 := h.g.inner ha' (by omega) (by omega)
      rw [h6] at h5; simp at h5
    have hrow : RowB (tb L.n μ.n) (.slice (some ⟨L.n.tb, if μ.n.st.length + L.n.tj.length = (a - μ.n.fr).toNat + 1 then 0 else (a - μ.n.fr).toNat + 1, none⟩) ((a - μ.n.fr + m.size a).toNat - ((a - μ.n.fr).toNat + 1)) (μ.n.st.length + L.n.tj.length - ((a - μ.n.fr).toNat + 1))) ((μ.n.st.drop ((a - μ.n.fr).toNat + 1)).take ((a - μ.n.fr + m.size a).toNat - ((a - μ.n.fr).toNat + 1))) := by
      refine ⟨_, _, by congr 1; simp only [List.length_take, List.length_drop]; omega, .inr ⟨_, _, rfl, fun j hj => ?_⟩⟩
      simp only [List.length_take, List.length_drop] at hj
      rw [if_neg (by omega), List.getElem_take, List.getElem_drop]
      have := rd_bools (b := L.n.tb) (k := (a - μ.n.fr).toNat + 1 + j) (l := μ.n.st) (j := L.n.tj) (T := 4) (by omega)
      rw [List.getD_eq_getElem?_getD, List.getElem?_eq_getElem (by omega), Option.getD_some] at this
      exact this
    refine dr_clr rfl rfl rfl en113 rfl (containsB_ct (R := tb L.n μ.n) (x := true) hrow (by rw [List.length_take, List.length_drop]; omega)) ?_
    rw [hnoc]
    refine dr_nil (nx_kp [0, 1, 2, 7, 8, 63] rfl (nx_then (cd_false rfl ?_)))
    refine cd_skip (xt_then (cd_region (st_v (v_move rfl) (st_v (v_move rfl) (st_v (v_add rfl rfl (by unfold I64 at *; omega)) (st_v (v_assign rfl) (st_nil (nx_kp [0, 1, 2, 7] rfl (nx_xt (xt_normal_block ?_))))))))))
    have hnx := Tl.next hTl a ha'
    exact xt_ag (a + m.size a) hnx (by show (_ - (a + m.size a)).toNat < (_ - a).toNat; omega)
  · skip
    have hge : a = m.old := by
      rcases ha with ha | ha
      · have hb := hTl.mem a ha; simp at hc; omega
      · exact ha
    refine cd_exit (xt_exit_then (xt_exit_then (xt_exit_block (xt_then (cd_seq (cd_drawh (ork [(0, 2), (1, 2), (2, 2), (3, 2), (4, 2), (5, 1), (6, 2), (7, 2), (8, 2), (9, 2), (10, 1), (11, 2), (12, 2), (13, 2)] .nil) (fun _ => true) mixed (by kernel_rfl) ?_))))))
    refine dp_v rfl (v_move rfl) (dp_v rfl (v_move rfl) (dp_v rfl (v_nilCheck rfl) (dp_v rfl (v_fieldAddr rfl fa117_0 rfl) (dp_v rfl (v_fieldAddr rfl fa115_1 rfl) (dr_v rfl (v_ld rfl ld3) ?_)))))
    refine dp_v rfl (v_move rfl) (dp_v rfl (v_nilCheck rfl) (dp_v rfl (v_fieldAddr rfl fa117_0 rfl) (dp_v rfl (v_fieldAddr rfl fa115_2 rfl) (dr_v rfl (v_ld rfl ld3) ?_))))
    refine dp_v rfl (v_add rfl rfl (by unfold I64 at *; omega)) (dp_v rfl (v_eql rfl rfl) (dp_v rfl (v_assign rfl) (dr_nil (nx_kp [6] rfl (nx_then (cd_ret ?_))))))
    have hv : (a == (μ.n.fr : Int) + μ.n.us) = true := by rw [hge]; simp; omega
    rw [hv]
    exact xt_rt rfl ⟨rfl, rfl⟩
end
end Go.Proofs.Ytmhmpjgkkpbnnaa
namespace Go.Ck
open Go
section
variable {c : Cx} {ops : Array Oper} {K : Act → World → Prop} {rest : List Oper} {e : Env} {h h' hr : SH}
/-- A call with effects, at a guard that says yes. -/
theorem st_clg {d g gd : Nat} {f : Operand} {xs : Array Operand} {ts : Array TypeId} {ty : TypeId} {pos : String} {after : Array Edge} {k : FuncId} {fi cp : Array Value} {vs : List Value} {args : Array Value} {hf : SH} {R : Value → SH → Prop} {want : Bool}
    (hg : ((ops[g]?).bind (·.dst)) = some gd) (hgv : e.get? gd = some (.bool want))
    (hv : e.ev? f = some (.func (.func k) fi cp)) (has : xs.toList.mapM e.ev? = some vs) (hE : Enters c.P k) (ha : fi ++ vs.toArray ++ cp = args) (ct : Ct c.P k args hf R)
    (hn : ∀ v h', R v h' → St c ops K rest ((d, v) :: e) (h' ++ hr)) (pk : Pk h hf hr := by repeat (first | exact Pk.nil | (apply Pk.cons; (repeat (first | exact Sel.here | apply Sel.there))))) (hd : d < c.n := by exact ltn rfl) :
    St c ops K (⟨some d, .call { callee := .value f, args := xs, argTypes := ts }, ty, pos, after, some (g, want)⟩ :: rest) e h := fun a w hk hh hs => by
  unfold LsW
  rw [if_pos (by simp [Region.wanted, yields_guard hg hgv hk])]
  unfold OpW OpV
  rw [Oper.semAt_eq _ _ _ (by simp), run_call hv has hE ha hk.evs]
  exact (ct hr w (hh.pk pk)).mono fun _ w' ⟨v, h', he, hR, hH, hS⟩ => ⟨v, he, hn v h' hR _ w' (hk.put v hd) hH (hs.trans hS)⟩
end
end Go.Ck
namespace Go.Proofs.Ytmhmpjgkkpbnnaa
open Go.Ck Fx Go.Hm Go.Hm.AM
attribute [local irreducible] St Cd Xt Nx DrL LsW
section
variable {L : MemL} {μ : Mem} {S R : Res} {m : AM} {ly ln lf : List Int} {φ : Int → Option Nat} {A : Store} {v : Value} {roots : List Int}
set_option maxRecDepth 100000 in
theorem check1_ct {p b1 : Nat} : Ct Try.prog 68 #[.pointer (some ⟨p, 0, none⟩), .pointer (some ⟨b1, 0, none⟩)] [] fun v h' => ∃ b2, v = .func (.func 69) #[] #[.pointer (some ⟨b1, 0, none⟩), .pointer (some ⟨b2, 0, none⟩)] ∧ h' = [pt b2 (cl [.pointer (some ⟨p, 0, none⟩)] 95)] := by
  refine ct_of (n := 5) Try.func68 rfl rfl (len rfl) fun hr w0 => ?_
  refine cd_seq (cd_region (st_bx rfl rfl fun b2 => ?_))
  refine st_v (v_assign rfl) (st_nil (nx_kp [1, 2, 3] rfl (nx_then (cd_seq (cd_region (st_v (v_makeFunc rfl rfl) (st_v (v_assign rfl) (st_nil (nx_kp [3] rfl (nx_then (cd_ret ?_)))))))))))
  exact xt_rt rfl ⟨b2, rfl, rfl⟩
set_option maxHeartbeats 4000000 in
set_option maxRecDepth 100000 in
theorem check_c (I : MI L μ S m) (h : AM.Good m ly ln lf φ A) : Reads Try.prog 26 #[.pointer (some ⟨L.mb, 0, none⟩)] (memSH L μ S) (.int .i64 0) := by
  have hoy := fun g1 g2 => orderedy_c (g1 := g1) (g2 := g2) I h
  have hon := fun g1 g2 => orderedn_c (g1 := g1) (g2 := g2) I h
  unfold memSH at hoy hon ⊢
  refine ct_of (n := 36) Try.func26 rfl rfl (len rfl) fun hr w0 => ?_
  simp only [List.cons_append, List.nil_append]
  refine cd_seq (cd_region (st_bx rfl rfl fun b1 => ?_))
  refine st_v (v_assign rfl) (st_nil (nx_kp [1, 2] rfl (nx_then (cd_seq (cd_seq (cd_region (st_v (v_ld rfl ld27) ?_)))))))
  refine st_clr rfl rfl en67 rfl (made_ct (L := L) (μ := μ)) ?_
  refine st_v (v_not rfl) (st_nil (nx_kp [1, 2, 6] rfl (nx_then (cd_false rfl ?_))))
  refine cd_skip (xt_then (cd_seq (cd_region (st_v (v_makeFunc rfl rfl) (st_v (v_assign rfl) (st_nil (nx_kp [1, 2, 3] rfl (nx_then (cd_seq (cd_seq (cd_drawh (ork [(0, 1), (1, 1), (2, 2), (3, 2), (4, 1), (5, 2), (6, 1), (7, 2), (8, 2), (9, 1), (10, 0), (11, 0), (12, 2), (13, 2), (14, 1), (15, 1), (16, 2), (17, 2), (18, 1), (19, 2), (20, 1), (21, 2), (22, 2), (23, 1), (24, 0), (25, 0), (26, 2), (27, 2)] .nil) (fun i => !(Nat.beq i 11 || Nat.beq i 25)) mixed (by kernel_rfl) ?_)))))))))))
  refine dr_v rfl (v_ld rfl ld27) ?_
  refine dr_v rfl (v_ld rfl ld27) ?_
  refine dp_v rfl (v_nilCheck rfl) (dp_v rfl (v_fieldAddr rfl fa100_1 rfl) (dr_v rfl (v_ld rfl ld95) ?_))
  refine dp_v rfl (v_move rfl) (dr_v rfl (v_ld rfl ld27) ?_)
  refine dp_v rfl (v_nilCheck rfl) (dp_v rfl (v_fieldAddr rfl fa100_1 rfl) (dr_v rfl (v_ld rfl ld95) ?_))
  refine dr_eff rfl (st_cl rfl rfl en68 rfl (check1_ct) ?_)
  rintro v' h' ⟨g2, rfl, rfl⟩
  simp only [List.cons_append, List.nil_append]
  refine dr_nx ?_
  refine dr_eff rfl (st_cl rfl rfl en74 rfl (hoy b1 g2) ?_)
  rintro v' h' ⟨rfl, rfl⟩
  simp only [List.cons_append, List.nil_append]
  refine dr_nx ?_
  refine dp_v rfl (v_not rfl) (dp_v rfl (v_move rfl) (dr_vg rfl rfl rfl (v_ld rfl ld27) ?_))
  refine dr_vg rfl rfl rfl (v_ld rfl ld27) ?_
  refine dp_vg rfl rfl rfl (v_nilCheck rfl) (dp_vg rfl rfl rfl (v_fieldAddr rfl fa100_2 rfl) (dr_vg rfl rfl rfl (v_ld rfl ld95) ?_))
  refine dp_vg rfl rfl rfl (v_move rfl) (dr_vg rfl rfl rfl (v_ld rfl ld27) ?_)
  refine dp_vg rfl rfl rfl (v_nilCheck rfl) (dp_vg rfl rfl rfl (v_fieldAddr rfl fa100_2 rfl) (dr_vg rfl rfl rfl (v_ld rfl ld95) ?_))
  refine dr_effg rfl rfl rfl (st_clg rfl rfl rfl rfl en68 rfl (check1_ct) ?_)
  rintro v' h' ⟨g3, rfl, rfl⟩
  simp only [List.cons_append, List.nil_append]
  refine dr_nx ?_
  refine dr_effg rfl rfl rfl (st_clg rfl rfl rfl rfl en74 rfl (hon b1 g3) ?_)
  rintro v' h' ⟨rfl, rfl⟩
  simp only [List.cons_append, List.nil_append]
  refine dr_nx ?_
  refine dp_vg rfl rfl rfl (v_not rfl) (dp_v rfl (v_pick_false rfl rfl) (dr_nil (nx_kp [2, 35] rfl (nx_then (cd_false rfl ?_)))))
  refine cd_skip (xt_then (cd_seq (cd_region (st_v (v_assign rfl) (st_nil (nx_kp [2] rfl (nx_then (cd_ret ?_))))))))
  exact xt_rt rfl ⟨rfl, rfl⟩
end
end Go.Proofs.Ytmhmpjgkkpbnnaa
namespace Go.Ck
open Go
theorem fill_two {u v : Value} (hu : u.oneCell' = true) (hv : v.oneCell' = true) (c0 : Array Value) (h0 : c0.size = 2) : Instr.fill (fun i => some (i * 1, 1)) c0 [(0, u), (1, v)] = some #[u, v] := by
  have hc : u.cells = #[u] := by cases u <;> first | rfl | (simp [Value.oneCell'] at hu)
  have hd : v.cells = #[v] := by cases v <;> first | rfl | (simp [Value.oneCell'] at hv)
  rcases c0 with ⟨_ | ⟨x, _ | ⟨y, _ | ⟨z, t⟩⟩⟩⟩
  · simp at h0
  · simp at h0
  · simp [Instr.fill, hc, hd]
  · simp at h0
section
variable {c : Cx} {Q : Exit → Act → World → Prop} {e : Env} {h k : SH}
theorem xt_mkstar {ex : Exit} (ks : SH) (pk : Pk h ks k) (hx : Xt c ex Q e (Res.star ks :: k)) : Xt c ex Q e h := fun a w hk hh hw => hx a w hk (star_iff.2 (hh.pk pk)) hw
end
end Go.Ck
namespace Go.Proofs.Ytmhmpjgkkpbnnaa
open Go.Ck Fx Go.Hm Go.Hm.AM
attribute [local irreducible] St Cd Xt Nx DrL LsW
set_option maxRecDepth 100000 in
theorem new_c {R : Res} {v : Value} {sh : List (List Bool)} {half young : Int} (h : Shp R v sh) (hl : sh.length ≤ 1000000) :
    Ct Try.prog 15 #[v, .int .i64 half, .int .i64 young] [R] fun u h' =>
      (newErr sh half young ≠ 0 ∧ u = .tuple #[.pointer none, .int .i64 (newErr sh half young)] ∧ h' = [R]) ∨
      (newErr sh half young = 0 ∧ ∃ L μ S, u = .tuple #[.pointer (some ⟨L.mb, 0, none⟩), .int .i64 0] ∧ MI L μ S (new' sh half young) ∧ h' = memSH L μ S ++ [R]) :=
  (new_ct h hl).mono fun u h' hu => hu.imp id fun ⟨h0, L, us, h1, h2, h3⟩ => by
    refine ⟨h0, L, _, _, h1, ⟨?_, h2.yn, h2.yo, h2.no, h2.sh⟩, h3⟩
    unfold newErr at h0
    split at h0
    · cases h0
    · split at h0
      · cases h0
      · rename_i _ h4
        simp only [Bool.or_eq_true, decide_eq_true_eq, not_or] at h4
        have := Rel.new (sh := sh) (half := half.toNat) (young := young.toNat) (by omega) (by omega)
        rw [show ((half.toNat : Nat) : Int) = half by omega, show ((young.toNat : Nat) : Int) = young by omega] at this
        exact this
def shp0 : List (List Bool) := [[false, true], []]
set_option maxRecDepth 100000 in
theorem shapes_ct : Ct Try.prog 39 #[] [] fun v h' => ∃ R, Shp R v shp0 ∧ h' = [R] := by
  refine ct_of (n := 4) Try.func39 rfl rfl (len rfl) fun hr w0 => ?_
  refine cd_seq (cd_region (st_v (v_assign rfl) (st_nil (nx_then (cd_seq (cd_region (st_buildSlice (cells := [.bool false, .bool true]) rfl Try.underlying73 inf4 rfl rfl (by kernel_rfl) (ltn rfl) fun b1 => ?_)))))))
  refine st_buildSlice0 Try.underlying73 inf4 (ltn rfl) fun b2 => ?_
  refine st_buildSlice (cells := [.slice (some ⟨b1, 0, none⟩) 2 2, .slice (some ⟨b2, 0, none⟩) 0 0]) rfl Try.underlying22 inf73 rfl rfl (fill_two rfl rfl _ (by simp)) (ltn rfl) fun b3 => ?_
  refine st_v (v_assign rfl) (st_nil (nx_kp [0] rfl (nx_then (cd_ret (xt_mkstar [pt b3 (cl [.slice (some ⟨b1, 0, none⟩) 2 2, .slice (some ⟨b2, 0, none⟩) 0 0] 73), pt b1 (cl [.bool false, .bool true] 4)] (by repeat (first | exact Pk.nil | (apply Pk.cons; (repeat (first | exact Sel.here | apply Sel.there))))) ?_)))))
  refine xt_rt rfl ⟨.star [pt b3 (cl [.slice (some ⟨b1, 0, none⟩) 2 2, .slice (some ⟨b2, 0, none⟩) 0 0] 73), pt b1 (cl [.bool false, .bool true] 4)], ⟨some ⟨b3, 0, none⟩, 2, rfl, .inr ⟨b3, 0, rfl, fun i hi => ?_⟩⟩, rfl⟩
  match i, hi with
  | 0, _ => exact ⟨.slice (some ⟨b1, 0, none⟩) 2 2, rd_star_mem (List.mem_cons_self ..) (rd_cl rfl), ⟨some ⟨b1, 0, none⟩, 2, rfl, .inr ⟨b1, 0, rfl, fun j hj => by
      match j, hj with
      | 0, _ => exact rd_star_mem (List.mem_cons_of_mem _ (List.mem_cons_self ..)) (rd_cl rfl)
      | 1, _ => exact rd_star_mem (List.mem_cons_of_mem _ (List.mem_cons_self ..)) (rd_cl rfl)⟩⟩⟩
  | 1, _ => exact ⟨.slice (some ⟨b2, 0, none⟩) 0 0, rd_star_mem (List.mem_cons_self ..) (rd_cl rfl), ⟨some ⟨b2, 0, none⟩, 0, rfl, .inl rfl⟩⟩
def sm0 : AM := new' shp0 40 10
def sm1 : AM := (sm0.alloc 0).2.2
def sm2 : AM := (sm1.alloc 0).2.2
def sm3 : AM := (sm2.alloc 0).2.2
def sm5 : AM := (sm3.set 1 1 4).2
def sm6 : AM := (sm5.minor [4, 1]).2.2
def sm7 : AM := (sm6.get 14 1).2.2
def sm8 : AM := (sm7.flip [14]).2.2
def sm9 : AM := (sm8.get 51 1).2.2
def sm10 : AM := (sm9.step 3).2.2
def sm11 : AM := (sm10.step 3).2.2
theorem se1 : (sm0.alloc 0).1 = 1 ∧ (sm0.alloc 0).2.1 = 0 := by decide +kernel
theorem se2 : (sm1.alloc 0).1 = 4 ∧ (sm1.alloc 0).2.1 = 0 := by decide +kernel
theorem se3 : (sm2.alloc 0).1 = 7 ∧ (sm2.alloc 0).2.1 = 0 := by decide +kernel
theorem se4 : (sm3.alloc 0).1 = 0 ∧ (sm3.alloc 0).2.1 = 14 := by decide +kernel
theorem se5 : (sm3.set 1 1 4).1 = 0 := by decide +kernel
theorem se6 : (sm5.minor [4, 1]).1 = [11, 14] ∧ (sm5.minor [4, 1]).2.1 = 0 ∧ sm5.minorErr [4, 1] = 0 := by decide +kernel
theorem se6r : sm6.room = (0, 6, 0) := by decide +kernel
theorem se7 : (sm6.get 14 1).1 = 11 ∧ (sm6.get 14 1).2.1 = 0 := by decide +kernel
theorem se7s : sm7.shapeOf 4 = (0, 5) := by decide +kernel
theorem se8 : (sm7.flip [14]).1 = [51] ∧ (sm7.flip [14]).2.1 = 0 ∧ sm7.minorErr [14] = 0 ∧ sm7.busy = false := by decide +kernel
theorem se8r : sm8.room = (0, 3, 3) := by decide +kernel
theorem se9 : (sm8.get 51 1).1 = 54 ∧ (sm8.get 51 1).2.1 = 0 := by decide +kernel
theorem se9r : sm9.room = (0, 6, 0) ∧ sm9.busy = true := by decide +kernel
theorem se10 : (sm9.step 3).1 = 3 ∧ (sm9.step 3).2.1 = 0 ∧ sm10.busy = true := by decide +kernel
theorem se11 : (sm10.step 3).1 = 0 ∧ (sm10.step 3).2.1 = 0 ∧ sm11.busy = false := by decide +kernel
/-- In order, somehow. -/
def Fine (m : AM) : Prop := ∃ ly ln lf φ A, AM.Good m ly ln lf φ A
section
variable {m : AM}
theorem Fine.alloc (h : Fine m) (s : Int) : Fine (m.alloc s).2.2 := by
  obtain ⟨ly, ln, lf, φ, A, h⟩ := h
  by_cases he : (m.alloc s).2.1 = 0
  · exact ⟨_, _, _, _, _, (h.alloc he).1⟩
  · rw [(alloc_err he).1]; exact ⟨ly, ln, lf, φ, A, h⟩
theorem good_none {ly ln lf : List Int} {φ : Int → Option Nat} {A : Store} (h : AM.Good m ly ln lf φ A) : AM.Good m ly ln lf (fun _ => none) A := ⟨h.g, Sim.none .., h.ym, h.rm, h.rn⟩
theorem Fine.set (h : Fine m) (t k v : Int) : Fine (m.set t k v).2 := by
  obtain ⟨ly, ln, lf, φ, A, h⟩ := h
  by_cases he : (m.set t k v).1 = 0
  · exact ⟨_, _, _, _, _, ((good_none h).set he (.inl ⟨rfl, rfl⟩)).1⟩
  · rw [set_err he]; exact ⟨ly, ln, lf, φ, A, h⟩
theorem Fine.get (h : Fine m) (t k : Int) : Fine (m.get t k).2.2 := by
  obtain ⟨ly, ln, lf, φ, A, h⟩ := h
  by_cases he : (m.get t k).2.1 = 0
  · obtain ⟨_, _, g, _⟩ := h.get he; exact ⟨_, _, _, _, _, g⟩
  · rw [(get_err he).1]; exact ⟨ly, ln, lf, φ, A, h⟩
theorem Fine.minor (h : Fine m) (roots : List Int) : Fine (m.minor roots).2.2 := by
  obtain ⟨ly, ln, lf, φ, A, h⟩ := h
  by_cases he : m.minorErr roots = 0
  · obtain ⟨_, _, g, _⟩ := h.minor he; exact ⟨_, _, _, _, _, g⟩
  · rw [minor_no he]; exact ⟨ly, ln, lf, φ, A, h⟩
theorem Fine.flip (h : Fine m) (roots : List Int) : Fine (m.flip roots).2.2 := by
  obtain ⟨ly, ln, lf, φ, A, h⟩ := h
  cases hb : m.busy with
  | true =>
    have : m.flip roots = ([], 12, m) := by unfold AM.flip; rw [if_pos hb]
    rw [this]; exact ⟨ly, ln, lf, φ, A, h⟩
  | false =>
    by_cases he : m.minorErr roots = 0
    · obtain ⟨_, _, _, g, _⟩ := h.flip hb he; exact ⟨_, _, _, _, _, g⟩
    · have hno := minor_no he
      have : m.flip roots = ([], m.minorErr roots, m) := by
        unfold AM.flip
        rw [if_neg (by rw [hb]; simp)]
        simp only
        rw [hno, if_pos he]
      rw [this]; exact ⟨ly, ln, lf, φ, A, h⟩
theorem Fine.step (h : Fine m) (w : Int) : Fine (m.step w).2.2 := by
  obtain ⟨ly, ln, lf, φ, A, h⟩ := h
  unfold AM.step
  split
  · exact ⟨ly, ln, lf, φ, A, h⟩
  · split
    · exact ⟨ly, ln, lf, φ, A, h⟩
    · rename_i hb
      have hb : m.busy = true := by simpa using hb
      simp only
      obtain ⟨ln', φ', g, _, _, _, _, _, _, g7, _, _, g10, _⟩ := h.steps w.toNat hb
      split
      · exact ⟨_, _, _, _, _, g⟩
      · exact ⟨_, _, _, _, _, g.fin g7 (by omega)⟩
end
theorem sf0 : Fine sm0 := ⟨_, _, _, _, _, Good.new (by decide) (by decide) (by decide) (by decide) (by decide) (by decide)⟩
theorem sf3 : Fine sm3 := ((sf0.alloc 0).alloc 0).alloc 0
theorem sf5 : Fine sm5 := sf3.set 1 1 4
theorem sf6 : Fine sm6 := sf5.minor [4, 1]
theorem sf7 : Fine sm7 := sf6.get 14 1
theorem sf8 : Fine sm8 := sf7.flip [14]
theorem sf9 : Fine sm9 := sf8.get 51 1
theorem sf10 : Fine sm10 := sf9.step 3
theorem sf11 : Fine sm11 := sf10.step 3
end Go.Proofs.Ytmhmpjgkkpbnnaa
namespace Go.Ck
open Go
section
variable {c : Cx} {ops : Array Oper} {K : Act → World → Prop} {rest : List Oper} {e : Env} {h : SH}
/-- An operation with an effect, at a guard that says yes. -/
theorem st_guard {d : Option Nat} {op : Op} {ty : TypeId} {pos : String} {after : Array Edge} {g gd : Nat} {want : Bool} (hd : ∀ k, op ≠ .defer k) (hg : ((ops[g]?).bind (·.dst)) = some gd) (hgv : e.get? gd = some (.bool want))
    (hs : St c ops K (⟨d, op, ty, pos, after, none⟩ :: rest) e h) : St c ops K (⟨d, op, ty, pos, after, some (g, want)⟩ :: rest) e h := fun a w hk hh hw => by
  have h1 := hs a w hk hh hw
  unfold LsW at h1 ⊢
  rw [if_pos (by simp [Region.wanted])] at h1
  rw [if_pos (by simp [Region.wanted, yields_guard hg hgv hk])]
  unfold OpW OpV at h1 ⊢
  rw [Oper.semAt_eq _ _ _ hd] at h1 ⊢
  exact h1
end
end Go.Ck
namespace Go.Proofs.Ytmhmpjgkkpbnnaa
open Go.Ck Fx Go.Hm Go.Hm.AM
attribute [local irreducible] St Cd Xt Nx DrL LsW
theorem eqi54 : EqI Try.prog 54 3 := EqI.of Try.underlying54 (by kernel_rfl) (by kernel_rfl) (by kernel_rfl) rfl
theorem rowI_pt {b : Nat} {l : List Int} : RowI (pt b (cl (ints l) 3)) (.slice (some ⟨b, 0, none⟩) l.length l.length) l := ⟨_, _, rfl, .inr ⟨b, 0, rfl, fun j hj => rd_cl (by simp [ints, hj])⟩⟩
set_option maxRecDepth 100000 in
theorem sameInts2_ct {R1 R2 : Res} {v1 v2 : Value} {l1 l2 : List Int} (h1 : RowI R1 v1 l1) (h2 : RowI R2 v2 l2) (hl : l1.length ≤ 1000000) : Reads Try.prog 21 #[v1, v2] [R1, R2] (.bool (l1 == l2)) :=
  Reads.unstar (sameInts_ct (RowI.star .here h1) (RowI.star (.there .here) h2) hl)
theorem rowI_vec {v : Value} {n : Nat} {l : List Int} {a : Option Addr} {cp : Nat} (hv : v = .slice a n cp) (ha : 0 < n → ∃ b, a = some ⟨b, 0, none⟩) (hn : l.length = n) : RowI (vec v 3 1 n (ints l)) v l := by
  subst hn
  refine ⟨a, cp, hv, ?_⟩
  by_cases h0 : l.length = 0
  · exact .inl (List.eq_nil_of_length_eq_zero h0)
  · obtain ⟨b, rfl⟩ := ha (by omega)
    exact .inr ⟨b, 0, rfl, fun j hj => by rw [Nat.zero_add]; exact rd_vec hv (by simp [ints, hj])⟩
set_option maxHeartbeats 8000000 in
set_option maxRecDepth 100000 in
theorem sanity_c : Ct Try.prog 14 #[] [] fun v h' => v = .bool true ∧ h' = [] := by
  refine ct_of (n := 209) Try.func14 rfl rfl (len rfl) fun hr w0 => ?_
  simp only [List.nil_append]
  refine cd_seq (cd_region (st_v (v_assign rfl) (st_nil (nx_then (cd_seq (cd_region (st_cl rfl rfl en39 rfl (shapes_ct) ?_)))))))
  rintro v' h' ⟨R, hR, rfl⟩
  simp only [List.cons_append, List.nil_append]
  refine st_cl rfl rfl en15 rfl (new_c hR (by decide)) ?_
  rintro v' h' hu
  rcases hu with ⟨h1, _⟩ | ⟨_, L, μ0, S, rfl, I0, rfl⟩
  · exact absurd (by decide) h1
  have I0 : MI L μ0 S sm0 := I0
  simp only [memSH, List.cons_append, List.nil_append]
  refine st_v (v_move rfl) (st_v (v_extract rfl rfl) (st_v (v_extract rfl rfl) (st_v (v_assign rfl) (st_v (v_assign rfl) (st_nil (nx_kp [0, 1, 2] rfl (nx_then (cd_seq (cd_seq (cd_region (st_v (v_move rfl) (st_v (v_neq rfl rfl) (st_v (v_move rfl) (st_vg rfl rfl (v_move rfl) (st_vg rfl rfl (v_eql_ptr_nil rfl rfl pt27) ?_)))))))))))))))
  refine st_v (v_pick_false rfl rfl) (st_nil (nx_kp [0, 1, 38] rfl (nx_then (cd_false rfl ?_))))
  refine cd_skip (xt_then (cd_seq (cd_region (st_v (v_move rfl) ?_))))
  obtain ⟨_, _, _, _, _, g0⟩ := sf0
  obtain ⟨_, _, _, _, _, g1⟩ := sf0.alloc 0
  obtain ⟨_, _, _, _, _, g2⟩ := (sf0.alloc 0).alloc 0
  obtain ⟨_, _, _, _, _, g3⟩ := sf3
  refine st_cl rfl rfl en33 rfl (alloc_c I0 g0 0) ?_
  rintro v' h' ⟨μ1, rfl, I1, rfl⟩
  have I1 : MI L μ1 S sm1 := I1
  rw [se1.1, se1.2]
  simp only [memSH, List.cons_append, List.nil_append]
  refine st_v (v_move rfl) (st_v (v_extract rfl rfl) (st_v (v_extract rfl rfl) (st_v (v_assign rfl) (st_v (v_assign rfl) (st_nil (nx_kp [0, 1, 3, 4] rfl (nx_then (cd_seq (cd_region (st_v (v_move rfl) (st_cl rfl rfl en33 rfl (alloc_c I1 g1 0) ?_)))))))))))
  rintro v' h' ⟨μ2, rfl, I2, rfl⟩
  have I2 : MI L μ2 S sm2 := I2
  rw [se2.1, se2.2]
  simp only [memSH, List.cons_append, List.nil_append]
  refine st_v (v_move rfl) (st_v (v_extract rfl rfl) (st_v (v_extract rfl rfl) (st_v (v_assign rfl) (st_v (v_assign rfl) (st_nil (nx_kp [0, 1, 3, 4, 5, 6] rfl (nx_then (cd_seq (cd_region (st_v (v_move rfl) (st_cl rfl rfl en33 rfl (alloc_c I2 g2 0) ?_)))))))))))
  rintro v' h' ⟨μ3, rfl, I3, rfl⟩
  have I3 : MI L μ3 S sm3 := I3
  rw [se3.1, se3.2]
  simp only [memSH, List.cons_append, List.nil_append]
  refine st_v (v_move rfl) (st_v (v_extract rfl rfl) (st_v (v_extract rfl rfl) (st_v (v_assign rfl) (st_v (v_assign rfl) (st_nil (nx_kp [0, 1, 3, 4, 5, 6, 7, 8] rfl (nx_then (cd_seq (cd_region (st_v (v_move rfl) (st_cl rfl rfl en33 rfl (alloc_c I3 g3 0) ?_)))))))))))
  rintro v' h' ⟨μ4, rfl, I4, rfl⟩
  have I4 : MI L μ4 S sm3 := by have e : (sm3.alloc 0).2.2 = sm3 := (alloc_err (by rw [se4.2]; decide)).1
                                rw [← e]; exact I4
  rw [se4.1, se4.2]
  simp only [memSH, List.cons_append, List.nil_append]
  refine st_v (v_move rfl) (st_v (v_extract rfl rfl) (st_v (v_extract rfl rfl) (st_v (v_assign rfl) (st_v (v_assign rfl) (st_nil (nx_kp [0, 1, 3, 4, 5, 6, 7, 8, 10] rfl (nx_then (cd_seq (cd_region (st_v (v_move rfl) (st_cl rfl rfl en40 rfl (set_c I4 g3 1 1 4) ?_)))))))))))
  rintro v' h' ⟨L5, μ5, rfl, I5, hL5, rfl⟩
  have I5 : MI L5 μ5 S sm5 := I5
  rw [se5, ← hL5]
  simp only [memSH, List.cons_append, List.nil_append]
  obtain ⟨_, _, _, _, _, g5⟩ := sf5
  refine st_v (v_assign rfl) (st_nil (nx_kp [0, 1, 3, 4, 5, 6, 7, 8, 10, 11] rfl (nx_then (cd_seq (cd_region (st_v (v_move rfl) (st_buildSlice (cells := [.int .i64 4, .int .i64 1]) rfl Try.underlying34 inf3 rfl rfl (by kernel_rfl) (ltn rfl) fun b63 => ?_)))))))
  refine st_cl rfl rfl en34 rfl (minor_c I5 g5 (rowI_pt (b := b63) (l := [4, 1])) (by decide)) ?_
  rintro v' h' ⟨sl6, L6, μ6, rfl, I6, hL6, rfl⟩
  have I6 : MI L6 μ6 S sm6 := I6
  rw [se6.1, se6.2.1, ← hL6]
  simp only [memSH, List.cons_append, List.nil_append]
  refine st_v (v_move rfl) (st_v (v_extract rfl rfl) (st_v (v_extract rfl rfl) (st_v (v_assign rfl) (st_v (v_assign rfl) (st_nil (nx_kp [0, 1, 3, 4, 5, 6, 7, 8, 10, 11, 12, 13] rfl (nx_then (cd_seq (cd_seq (cd_vecshape (v := sl6) (E := 3) (sz := 1) (n := 2) (l := ints [11, 14]) (by repeat (first | exact Sel.here | apply Sel.there)) fun sa6 sc6 hs6 ha6 => ?_))))))))))
  refine cd_region (st_v (v_move rfl) (st_v (v_neq rfl rfl) (st_v (v_move rfl) (st_vg rfl rfl (v_move rfl) (st_vg rfl rfl (v_neq rfl rfl) (st_v (v_pick_false rfl rfl) (st_v (v_move rfl) (st_vg rfl rfl (v_move rfl) (st_vg rfl rfl (v_neq rfl rfl) (st_v (v_pick_false rfl rfl) (st_v (v_move rfl) (st_vg rfl rfl (v_move rfl) (st_vg rfl rfl (v_neq rfl rfl) ?_)))))))))))))
  refine st_v (v_pick_false rfl rfl) (st_v (v_move rfl) (st_vg rfl rfl (v_move rfl) (st_vg rfl rfl (v_neq rfl rfl) (st_v (v_pick_false rfl rfl) (st_v (v_move rfl) (st_vg rfl rfl (v_move rfl) (st_vg rfl rfl (v_neq rfl rfl) (st_v (v_pick_false rfl rfl) (st_v (v_move rfl) (st_vg rfl rfl (v_move rfl) (st_vg rfl rfl (v_neq rfl rfl) (st_v (v_pick_false rfl rfl) (st_v (v_move rfl) ?_)))))))))))))
  refine st_vg rfl rfl (v_move rfl) (st_vg rfl rfl (v_neq rfl rfl) (st_v (v_pick_false rfl rfl) (st_v (v_move rfl) (st_vg rfl rfl (v_move rfl) (st_vg rfl rfl (v_neq rfl rfl) (st_v (v_pick_false rfl rfl) (st_v (v_move rfl) (st_vg rfl rfl (v_move rfl) (st_guard (by simp) rfl rfl (st_buildSlice (cells := [.int .i64 11, .int .i64 14]) rfl Try.underlying34 inf3 rfl rfl (by kernel_rfl) (ltn rfl) fun b103 => ?_))))))))))
  refine st_clrg rfl rfl rfl rfl en21 rfl (sameInts2_ct (l1 := [11, 14]) (l2 := [11, 14]) (rowI_vec hs6 ha6 rfl) (rowI_pt (b := b103) (l := [11, 14])) (by decide)) ?_
  rw [show (([11, 14] : List Int) == [11, 14]) = true by decide]
  refine st_vg rfl rfl (v_not rfl) (st_v (v_pick_false rfl rfl) (st_nil (nx_kp [0, 1, 12, 106] rfl (nx_then (cd_false rfl ?_)))))
  refine cd_skip (xt_then (cd_seq (cd_region (st_v (v_move rfl) ?_))))
  obtain ⟨_, _, _, _, _, g6⟩ := sf6
  refine st_clr rfl rfl en24 rfl (room_c I6) ?_
  rw [se6r]
  refine st_v (v_build (cells := ints [0, 6, 0]) rfl (fun _ => by kernel_rfl)) ?_
  refine st_v (v_eql_ints (xs := [0, 6, 0]) (ys := [0, 6, 0]) eqi54 rfl rfl rfl rfl) ?_
  rw [show (([0, 6, 0] : List Int) == [0, 6, 0]) = true by decide]
  refine st_v (v_assign rfl) (st_nil (nx_kp [0, 1, 12, 14] rfl (nx_then (cd_seq (cd_region (st_v (v_move rfl) (st_cl rfl rfl en41 rfl (get_c I6 g6 14 1) ?_)))))))
  rintro v' h' ⟨μ7, rfl, I7, rfl⟩
  have I7 : MI L6 μ7 S sm7 := I7
  rw [se7.1, se7.2]
  simp only [memSH, List.cons_append, List.nil_append]
  obtain ⟨_, _, _, _, _, g7⟩ := sf7
  refine st_v (v_move rfl) (st_v (v_extract rfl rfl) (st_v (v_extract rfl rfl) (st_v (v_assign rfl) (st_v (v_assign rfl) (st_nil (nx_kp [0, 1, 12, 14, 15, 16] rfl (nx_then (cd_seq (cd_region (st_v (v_move rfl) (st_clr rfl rfl en42 rfl (shape_c I7 g7 4) ?_)))))))))))
  rw [se7s]
  refine st_v (v_move rfl) (st_v (v_extract rfl rfl) (st_v (v_extract rfl rfl) (st_v (v_assign rfl) (st_v (v_assign rfl) (st_nil (nx_kp [0, 1, 12, 14, 15, 16, 18] rfl (nx_then (cd_seq (cd_region (st_v (v_move rfl) (st_buildSlice (cells := [.int .i64 14]) rfl Try.underlying34 inf3 rfl rfl (by kernel_rfl) (ltn rfl) fun b123 => ?_)))))))))))
  refine st_cl rfl rfl en43 rfl (flip_c I7 g7 (rowI_pt (b := b123) (l := [14])) (by decide)) ?_
  rintro v' h' ⟨sl8, L8, μ8, rfl, I8, hL8, rfl⟩
  have I8 : MI L8 μ8 S sm8 := I8
  rw [se8.1, se8.2.1, ← hL8]
  simp only [memSH, List.cons_append, List.nil_append]
  obtain ⟨_, _, _, _, _, g8⟩ := sf8
  refine st_v (v_move rfl) (st_v (v_extract rfl rfl) (st_v (v_extract rfl rfl) (st_v (v_assign rfl) (st_v (v_assign rfl) (st_nil (nx_kp [0, 1, 12, 14, 15, 16, 18, 19] rfl (nx_then (cd_seq (cd_region (st_v (v_move rfl) (st_clr rfl rfl en24 rfl (room_c I8) ?_)))))))))))
  rw [se8r]
  refine st_v (v_build (cells := ints [0, 3, 3]) rfl (fun _ => by kernel_rfl)) ?_
  refine st_v (v_eql_ints (xs := [0, 3, 3]) (ys := [0, 3, 3]) eqi54 rfl rfl rfl rfl) ?_
  rw [show (([0, 3, 3] : List Int) == [0, 3, 3]) = true by decide]
  refine st_v (v_assign rfl) (st_nil (nx_kp [0, 1, 12, 14, 15, 16, 18, 19, 20] rfl (nx_then (cd_seq (cd_region (st_v (v_move rfl) (st_cl rfl rfl en41 rfl (get_c I8 g8 51 1) ?_)))))))
  rintro v' h' ⟨μ9, rfl, I9, rfl⟩
  have I9 : MI L8 μ9 S sm9 := I9
  rw [se9.1, se9.2]
  simp only [memSH, List.cons_append, List.nil_append]
  obtain ⟨_, _, _, _, _, g9⟩ := sf9
  refine st_v (v_move rfl) (st_v (v_extract rfl rfl) (st_v (v_extract rfl rfl) (st_v (v_assign rfl) (st_v (v_assign rfl) (st_nil (nx_kp [0, 1, 12, 14, 15, 16, 18, 19, 20, 21, 22] rfl (nx_then (cd_seq (cd_region (st_v (v_move rfl) (st_clr rfl rfl en24 rfl (room_c I9) ?_)))))))))))
  rw [se9r.1]
  refine st_v (v_build (cells := ints [0, 6, 0]) rfl (fun _ => by kernel_rfl)) ?_
  refine st_v (v_eql_ints (xs := [0, 6, 0]) (ys := [0, 6, 0]) eqi54 rfl rfl rfl rfl) ?_
  rw [show (([0, 6, 0] : List Int) == [0, 6, 0]) = true by decide]
  refine st_v (v_assign rfl) (st_nil (nx_kp [0, 1, 12, 14, 15, 16, 18, 19, 20, 21, 22, 23] rfl (nx_then (cd_seq (cd_region (st_v (v_move rfl) (st_cl rfl rfl en31 rfl (step_c I9 g9 3 (by unfold I64; omega)) ?_)))))))
  rintro v' h' ⟨L10, μ10, rfl, I10, hL10, rfl⟩
  have I10 : MI L10 μ10 S sm10 := I10
  rw [se10.1, se10.2.1, ← hL10]
  simp only [memSH, List.cons_append, List.nil_append]
  obtain ⟨_, _, _, _, _, g10⟩ := sf10
  refine st_v (v_move rfl) (st_v (v_extract rfl rfl) (st_v (v_extract rfl rfl) (st_v (v_assign rfl) (st_v (v_assign rfl) (st_nil (nx_kp [0, 1, 12, 14, 15, 16, 18, 19, 20, 21, 22, 23, 24, 25] rfl (nx_then (cd_seq (cd_region (st_v (v_move rfl) (st_cl rfl rfl en31 rfl (step_c I10 g10 3 (by unfold I64; omega)) ?_)))))))))))
  rintro v' h' ⟨L11, μ11, rfl, I11, hL11, rfl⟩
  have I11 : MI L11 μ11 S sm11 := I11
  rw [se11.1, se11.2.1, ← hL11]
  simp only [memSH, List.cons_append, List.nil_append]
  obtain ⟨_, _, _, _, _, g11⟩ := sf11
  refine st_v (v_move rfl) (st_v (v_extract rfl rfl) (st_v (v_extract rfl rfl) (st_v (v_assign rfl) (st_v (v_assign rfl) (st_nil (nx_kp [0, 1, 12, 14, 15, 16, 18, 19, 20, 21, 22, 23, 24, 25, 26, 27] rfl (nx_then (cd_seq (cd_seq (cd_region (st_v (v_move rfl) (st_v (v_neq rfl rfl) (st_v (v_move rfl) (st_vg rfl rfl (v_move rfl) (st_vg rfl rfl (v_neq rfl rfl) ?_)))))))))))))))
  refine st_v (v_pick_false rfl rfl) (st_v (v_move rfl) (st_vg rfl rfl (v_move rfl) (st_vg rfl rfl (v_neq rfl rfl) (st_v (v_pick_false rfl rfl) (st_v (v_move rfl) (st_vg rfl rfl (v_move rfl) (st_vg rfl rfl (v_neq rfl rfl) (st_v (v_pick_false rfl rfl) (st_v (v_move rfl) (st_vg rfl rfl (v_move rfl) (st_vg rfl rfl (v_neq rfl rfl) (st_v (v_pick_false rfl rfl) (st_v (v_move rfl) ?_)))))))))))))
  refine st_vg rfl rfl (v_move rfl) (st_vg rfl rfl (v_neq rfl rfl) (st_v (v_pick_false rfl rfl) (st_v (v_move rfl) (st_vg rfl rfl (v_move rfl) (st_vg rfl rfl (v_neq rfl rfl) (st_v (v_pick_false rfl rfl) (st_v (v_move rfl) (st_vg rfl rfl (v_move rfl) (st_vg rfl rfl (v_neq rfl rfl) (st_v (v_pick_false rfl rfl) (st_v (v_move rfl) (st_vg rfl rfl (v_move rfl) (st_vg rfl rfl (v_neq rfl rfl) ?_)))))))))))))
  refine st_v (v_pick_false rfl rfl) (st_v (v_move rfl) (st_vg rfl rfl (v_move rfl) (st_vg rfl rfl (v_neq rfl rfl) (st_v (v_pick_false rfl rfl) (st_v (v_move rfl) (st_vg rfl rfl (v_move rfl) (st_clrg rfl rfl rfl rfl en23 rfl (busy_c I11) ?_)))))))
  rw [se11.2.2]
  refine st_v (v_pick_false rfl rfl) (st_nil (nx_kp [0, 1, 12, 14, 20, 23, 191] rfl (nx_then (cd_false rfl ?_))))
  refine cd_skip (xt_then (cd_seq (cd_vecshape (v := sl8) (E := 3) (sz := 1) (n := 1) (l := ints [51]) (by repeat (first | exact Sel.here | apply Sel.there)) fun sa8 sc8 hs8 ha8 => ?_)))
  refine cd_region (st_v (v_move rfl) (st_v (v_move rfl) (st_vg rfl rfl (v_move rfl) (st_v (v_pick_true rfl rfl) (st_v (v_move rfl) (st_vg rfl rfl (v_move rfl) (st_v (v_pick_true rfl rfl) (st_v (v_move rfl) (st_vg rfl rfl (v_move rfl) (st_guard (by simp) rfl rfl (st_buildSlice (cells := [.int .i64 51]) rfl Try.underlying34 inf3 rfl rfl (by kernel_rfl) (ltn rfl) fun b201 => ?_)))))))))))
  refine st_clrg rfl rfl rfl rfl en21 rfl (sameInts2_ct (l1 := [51]) (l2 := [51]) (rowI_vec hs8 ha8 rfl) (rowI_pt (b := b201) (l := [51])) (by decide)) ?_
  rw [show (([51] : List Int) == [51]) = true by decide]
  refine st_v (v_pick_true rfl rfl) (st_v (v_move rfl) (st_vg rfl rfl (v_move rfl) (st_clrg rfl rfl rfl rfl en26 rfl (check_c I11 g11) ?_)))
  refine st_vg rfl rfl (v_eql rfl rfl) (st_v (v_pick_true rfl rfl) (st_v (v_assign rfl) (st_nil (nx_kp [0] rfl (nx_then (cd_ret ?_))))))
  exact xt_rt rfl ⟨rfl, rfl⟩
end Go.Proofs.Ytmhmpjgkkpbnnaa
namespace Go.Ck
open Go
section
variable {P : Program} {e : Env} {h h' : SH} {ty : TypeId}
theorem v_rem {t t' : TypeId} {x y : Operand} {k : IntKind} {a b : Int} (hx : e.ev? x = some (.int k a)) (hy : e.ev? y = some (.int k b)) (hb : b ≠ 0) (hw : k.wrap (a.tmod b) = a.tmod b) : Vop P e h (.binOp .rem t x y t') ty (.int k (a.tmod b)) :=
  ⟨by simp, by simp, fun ρ w d pos after g hρ _ => by simp [execOp, hρ x _ hx, hρ y _ hy, eqGuard_rem, binOp_rem, Op.intDiv, hb, hw]⟩
end
end Go.Ck
namespace Go.Proofs.Ytmhmpjgkkpbnnaa
open Go.Ck Fx Go.Hm Go.Hm.AM
attribute [local irreducible] St Cd Xt Nx DrL LsW
def kindOf (n : Int) : Int := ((n.tmod 7) + 7).tmod 7
theorem tmod7 (n : Int) : -7 < n.tmod 7 ∧ n.tmod 7 < 7 := by
  have := Int.tmod_lt_of_pos n (b := 7) (by decide)
  have := Int.lt_tmod_of_pos n (b := 7) (by decide)
  omega
theorem kindOf_bd (n : Int) : 0 ≤ kindOf n ∧ kindOf n < 7 := by
  have h1 := tmod7 n
  unfold kindOf
  have h2 := Int.tmod_lt_of_pos (n.tmod 7 + 7) (b := 7) (by decide)
  have h3 := Int.tmod_nonneg (a := n.tmod 7 + 7) 7 (by omega)
  omega
set_option maxRecDepth 100000 in
theorem kind_ct {a b c d : Int} {v : Value} : Ct Try.prog 49 #[.agg #[.int .i64 a, .int .i64 b, .int .i64 c, .int .i64 d, v]] [] fun u h' => u = .int .i64 (kindOf a) ∧ h' = [] := by
  have h1 := tmod7 a
  have h2 := kindOf_bd a
  refine ct_of (n := 8) Try.func49 rfl rfl (len rfl) fun hr w0 => ?_
  simp only [List.nil_append]
  refine cd_seq (cd_region (st_bx rfl rfl fun b1 => ?_))
  refine st_v (v_assign rfl) (st_nil (nx_kp [1, 2] rfl (nx_then (cd_seq (cd_region (st_v (v_fieldAddr rfl fa38_0 rfl) (st_v (v_ld rfl ld3) ?_)))))))
  refine st_v (v_rem rfl rfl (by decide) (I64.wrap (by unfold I64; omega))) ?_
  refine st_v (v_add rfl rfl (by unfold I64 at *; omega)) (st_v (v_rem rfl rfl (by decide) (I64.wrap (by unfold I64; exact ⟨by unfold kindOf at h2; omega, by unfold kindOf at h2; omega⟩))) ?_)
  refine st_v (v_assign rfl) (st_nil (nx_kp [2] rfl (nx_then (cd_ret ?_))))
  exact xt_rt rfl ⟨rfl, rfl⟩
set_option maxRecDepth 100000 in
theorem called_nil_ct {a b c d : Int} {v : Value} (hd : I64 b) : Ct Try.prog 17 #[.pointer none, .agg #[.int .i64 a, .int .i64 b, .int .i64 c, .int .i64 d, v]] [] fun u h' => u = .tuple #[.int .i64 0, .slice none 0 0, .int .i64 12] ∧ h' = [] := by
  refine ct_of (n := 79) Try.func17 rfl rfl (len rfl) fun hr w0 => ?_
  simp only [List.nil_append]
  refine cd_seq (cd_region (st_bx rfl rfl fun b3 => ?_))
  refine st_v (v_assign rfl) (st_v (v_assign rfl) (st_v (v_assign rfl) (st_nil (nx_kp [0, 3, 4, 5, 6] rfl (nx_then (cd_seq (cd_region (st_v (v_assign rfl) (st_nil (nx_then (cd_seq (cd_region (st_v (v_assign rfl) (st_nil (nx_then (cd_seq (cd_region ?_)))))))))))))))))
  refine st_v (v_assign rfl) (st_nil (nx_then (cd_seq (cd_seq (cd_region (st_v (v_loadW rfl ld38 rfl (by repeat (first | exact Sel.here | apply Sel.there))) ?_))))))
  refine st_cl rfl rfl en49 rfl (kind_ct) ?_
  rintro v' h' ⟨rfl, rfl⟩
  simp only [List.nil_append]
  refine st_nil (nx_kp [0, 3, 4, 5, 6, 7, 8, 9, 11] rfl (nx_then (cd_block (cd_seq (cd_region (st_v (v_eql rfl rfl) (st_v (v_assign rfl) (st_nil (nx_kp [0, 3, 4, 5, 6, 7, 8, 9, 11, 19] rfl (nx_then (cd_cond rfl (fun c0 => ?_) (fun c0 => ?_))))))))))))
  · skip
    refine cd_region (st_v (v_move rfl) (st_v (v_fieldAddr rfl fa38_1 rfl) (st_v (v_ld rfl ld3) ?_)))
    refine st_cl rfl rfl en33 rfl (nil_alloc_ct) ?_
    rintro v' h' ⟨rfl, rfl⟩
    simp only [List.nil_append]
    refine st_v (v_move rfl) (st_v (v_extract rfl rfl) (st_v (v_extract rfl rfl) (st_v (v_assign rfl) (st_v (v_assign rfl) (st_nil (nx_kp [4, 5, 6, 7, 8, 9] rfl (nx_xt (xt_normal_block (xt_then (cd_seq (cd_region (st_v (v_move rfl) (st_v (v_move rfl) (st_v (v_move rfl) (st_v (v_assign rfl) ?_)))))))))))))))
    refine st_v (v_assign rfl) (st_v (v_assign rfl) (st_nil (nx_kp [4, 5, 6] rfl (nx_then (cd_ret ?_)))))
    exact xt_rt rfl ⟨rfl, rfl⟩
  · skip
    refine cd_seq (cd_region (st_v (v_eql rfl rfl) (st_v (v_assign rfl) (st_nil (nx_kp [0, 3, 4, 5, 6, 7, 8, 9, 11, 28] rfl (nx_then (cd_cond rfl (fun c1 => ?_) (fun c1 => ?_))))))))
    · skip
      refine cd_region (st_v (v_move rfl) (st_v (v_fieldAddr rfl fa38_1 rfl) (st_v (v_ld rfl ld3) ?_)))
      refine st_clr rfl rfl en42 rfl (nil_shape_ct) ?_
      refine st_v (v_move rfl) (st_v (v_extract rfl rfl) (st_v (v_extract rfl rfl) (st_v (v_assign rfl) (st_v (v_assign rfl) (st_nil (nx_kp [4, 5, 6, 7, 8, 9] rfl (nx_xt (xt_normal_block (xt_then (cd_seq (cd_region (st_v (v_move rfl) (st_v (v_move rfl) (st_v (v_move rfl) (st_v (v_assign rfl) ?_)))))))))))))))
      refine st_v (v_assign rfl) (st_v (v_assign rfl) (st_nil (nx_kp [4, 5, 6] rfl (nx_then (cd_ret ?_)))))
      exact xt_rt rfl ⟨rfl, rfl⟩
    · skip
      refine cd_seq (cd_region (st_v (v_eql rfl rfl) (st_v (v_assign rfl) (st_nil (nx_kp [0, 3, 4, 5, 6, 7, 8, 9, 11, 37] rfl (nx_then (cd_cond rfl (fun c2 => ?_) (fun c2 => ?_))))))))
      · skip
        refine cd_region (st_v (v_move rfl) (st_v (v_fieldAddr rfl fa38_1 rfl) (st_v (v_ld rfl ld3) ?_)))
        refine st_v (v_fieldAddr rfl fa38_2 rfl) (st_v (v_ld rfl ld3) ?_)
        refine st_cl rfl rfl en41 rfl (nil_get_ct) ?_
        rintro v' h' ⟨rfl, rfl⟩
        simp only [List.nil_append]
        refine st_v (v_move rfl) (st_v (v_extract rfl rfl) (st_v (v_extract rfl rfl) (st_v (v_assign rfl) (st_v (v_assign rfl) (st_nil (nx_kp [4, 5, 6, 7, 8, 9] rfl (nx_xt (xt_normal_block (xt_then (cd_seq (cd_region (st_v (v_move rfl) (st_v (v_move rfl) (st_v (v_move rfl) (st_v (v_assign rfl) ?_)))))))))))))))
        refine st_v (v_assign rfl) (st_v (v_assign rfl) (st_nil (nx_kp [4, 5, 6] rfl (nx_then (cd_ret ?_)))))
        exact xt_rt rfl ⟨rfl, rfl⟩
      · skip
        refine cd_seq (cd_region (st_v (v_eql rfl rfl) (st_v (v_assign rfl) (st_nil (nx_kp [0, 3, 4, 5, 6, 7, 8, 9, 11, 48] rfl (nx_then (cd_cond rfl (fun c3 => ?_) (fun c3 => ?_))))))))
        · skip
          refine cd_region (st_v (v_move rfl) (st_v (v_fieldAddr rfl fa38_1 rfl) (st_v (v_ld rfl ld3) ?_)))
          refine st_v (v_fieldAddr rfl fa38_2 rfl) (st_v (v_ld rfl ld3) ?_)
          refine st_v (v_fieldAddr rfl fa38_3 rfl) (st_v (v_ld rfl ld3) ?_)
          refine st_cl rfl rfl en40 rfl (nil_set_ct) ?_
          rintro v' h' ⟨rfl, rfl⟩
          simp only [List.nil_append]
          refine st_v (v_assign rfl) (st_nil (nx_kp [4, 5, 6, 7, 8, 9] rfl (nx_xt (xt_normal_block (xt_then (cd_seq (cd_region (st_v (v_move rfl) (st_v (v_move rfl) (st_v (v_move rfl) (st_v (v_assign rfl) (st_v (v_assign rfl) (st_v (v_assign rfl) (st_nil (nx_kp [4, 5, 6] rfl (nx_then (cd_ret ?_)))))))))))))))))
          exact xt_rt rfl ⟨rfl, rfl⟩
        · skip
          refine cd_seq (cd_region (st_v (v_eql rfl rfl) (st_v (v_assign rfl) (st_nil (nx_kp [0, 3, 4, 5, 6, 7, 8, 9, 11, 58] rfl (nx_then (cd_cond rfl (fun c4 => ?_) (fun c4 => ?_))))))))
          · skip
            refine cd_region (st_v (v_move rfl) (st_v (v_fieldAddr rfl fa38_4 rfl) (st_v (v_ld rfl ld34) ?_)))
            refine st_cl rfl rfl en34 rfl (nil_Minor_ct) ?_
            rintro v' h' ⟨rfl, rfl⟩
            simp only [List.nil_append]
            refine st_v (v_move rfl) (st_v (v_extract rfl rfl) (st_v (v_extract rfl rfl) (st_v (v_assign rfl) (st_v (v_assign rfl) (st_nil (nx_kp [4, 5, 6, 7, 8, 9] rfl (nx_xt (xt_normal_block (xt_then (cd_seq (cd_region (st_v (v_move rfl) (st_v (v_move rfl) (st_v (v_move rfl) (st_v (v_assign rfl) ?_)))))))))))))))
            refine st_v (v_assign rfl) (st_v (v_assign rfl) (st_nil (nx_kp [4, 5, 6] rfl (nx_then (cd_ret ?_)))))
            exact xt_rt rfl ⟨rfl, rfl⟩
          · skip
            refine cd_seq (cd_region (st_v (v_eql rfl rfl) (st_v (v_assign rfl) (st_nil (nx_kp [0, 3, 4, 5, 6, 7, 8, 9, 67] rfl (nx_then (cd_cond rfl (fun c5 => ?_) (fun c5 => ?_))))))))
            · skip
              refine cd_region (st_v (v_move rfl) (st_v (v_fieldAddr rfl fa38_4 rfl) (st_v (v_ld rfl ld34) ?_)))
              refine st_cl rfl rfl en43 rfl (nil_flip_ct) ?_
              rintro v' h' ⟨rfl, rfl⟩
              simp only [List.nil_append]
              refine st_v (v_move rfl) (st_v (v_extract rfl rfl) (st_v (v_extract rfl rfl) (st_v (v_assign rfl) (st_v (v_assign rfl) (st_nil (nx_kp [4, 5, 6, 7, 8, 9] rfl (nx_xt (xt_normal_block (xt_then (cd_seq (cd_region (st_v (v_move rfl) (st_v (v_move rfl) (st_v (v_move rfl) (st_v (v_assign rfl) ?_)))))))))))))))
              refine st_v (v_assign rfl) (st_v (v_assign rfl) (st_nil (nx_kp [4, 5, 6] rfl (nx_then (cd_ret ?_)))))
              exact xt_rt rfl ⟨rfl, rfl⟩
            · skip
              refine cd_region (st_v (v_move rfl) (st_v (v_fieldAddr rfl fa38_1 rfl) (st_v (v_ld rfl ld3) ?_)))
              refine st_cl rfl rfl en31 rfl (nil_step_ct) ?_
              rintro v' h' ⟨rfl, rfl⟩
              simp only [List.nil_append]
              refine st_v (v_move rfl) (st_v (v_extract rfl rfl) (st_v (v_extract rfl rfl) (st_v (v_assign rfl) (st_v (v_assign rfl) (st_nil (nx_kp [4, 5, 6, 7, 8, 9] rfl (nx_xt (xt_normal_block (xt_then (cd_seq (cd_region (st_v (v_move rfl) (st_v (v_move rfl) (st_v (v_move rfl) (st_v (v_assign rfl) ?_)))))))))))))))
              refine st_v (v_assign rfl) (st_v (v_assign rfl) (st_nil (nx_kp [4, 5, 6] rfl (nx_then (cd_ret ?_)))))
              exact xt_rt rfl ⟨rfl, rfl⟩
theorem rowI_nil (R : Res) : RowI R (.slice none 0 0) [] := ⟨none, 0, rfl, .inl rfl⟩
set_option maxRecDepth 100000 in
theorem samePics_nil_ct : Ct Try.prog 22 #[.agg #[.slice none 0 0, .slice none 0 0, .slice none 0 0], .agg #[.slice none 0 0, .slice none 0 0, .slice none 0 0]] [] fun v h' => v = .bool true ∧ h' = [] := by
  refine ct_of (n := 54) Try.func22 rfl rfl (len rfl) fun hr w0 => ?_
  simp only [List.nil_append]
  refine cd_seq (cd_region (st_bx rfl rfl fun b2 => ?_))
  refine st_bx rfl rfl fun b3 => ?_
  refine st_v (v_assign rfl) (st_nil (nx_kp [2, 3, 4] rfl (nx_then (cd_seq (cd_region (st_v (v_fieldAddr rfl fa42_0 rfl) (st_v (v_ld rfl ld34) ?_)))))))
  refine st_v (v_fieldAddr rfl fa42_0 rfl) (st_v (v_ld rfl ld34) ?_)
  refine st_clr rfl rfl en21 rfl (sameInts_ct (R := pt b2 (cl [.slice none 0 0, .slice none 0 0, .slice none 0 0] 42)) (rowI_nil _) (rowI_nil _) (Nat.zero_le _)) ?_
  rw [show (([] : List Int) == []) = true from rfl]
  refine st_v (v_assign rfl) (st_nil (nx_kp [2, 3, 4, 5] rfl (nx_then (cd_seq (cd_region (st_v (v_fieldAddr rfl fa42_2 rfl) (st_v (v_ld rfl ld34) ?_)))))))
  refine st_v (v_fieldAddr rfl fa42_2 rfl) (st_v (v_ld rfl ld34) ?_)
  refine st_clr rfl rfl en21 rfl (sameInts_ct (R := pt b2 (cl [.slice none 0 0, .slice none 0 0, .slice none 0 0] 42)) (rowI_nil _) (rowI_nil _) (Nat.zero_le _)) ?_
  rw [show (([] : List Int) == []) = true from rfl]
  refine st_v (v_assign rfl) (st_nil (nx_kp [2, 3, 4, 5, 6] rfl (nx_then (cd_seq (cd_seq (cd_region (st_v (v_move rfl) (st_v (v_not rfl) (st_v (v_move rfl) (st_vg rfl rfl (v_move rfl) (st_vg rfl rfl (v_not rfl) (st_v (v_pick_false rfl rfl) (st_v (v_move rfl) (st_vg rfl rfl (v_fieldAddr rfl fa42_1 rfl) (st_vg rfl rfl (v_ld rfl ld40) ?_)))))))))))))))
  refine st_vg rfl rfl (v_len rfl Try.underlying40) (st_vg rfl rfl (v_fieldAddr rfl fa42_1 rfl) (st_vg rfl rfl (v_ld rfl ld40) ?_))
  refine st_vg rfl rfl (v_len rfl Try.underlying40) (st_vg rfl rfl (v_neq rfl rfl) (st_v (v_pick_false rfl rfl) (st_nil (nx_kp [2, 3, 4, 33] rfl (nx_then (cd_false rfl ?_))))))
  refine cd_skip (xt_then (cd_seq (cd_seq (cd_region (st_v (v_assign rfl) (st_nil (nx_kp [2, 3, 4, 7] rfl (nx_then (cd_block (cd_lp (σ := Unit) (fun _ => [(2, .pointer (some ⟨b2, 0, none⟩)), (3, .pointer (some ⟨b3, 0, none⟩)), (7, .int .i64 0)]) (fun _ => pt b2 (cl [.slice none 0 0, .slice none 0 0, .slice none 0 0] 42) :: hr) (fun _ => True) (fun _ => 0) () trivial ?_))))))))))
  rintro ⟨⟩ _
  refine cd_seq (cd_seq (cd_region (st_v (v_move rfl) (st_v (v_fieldAddr rfl fa42_1 rfl) (st_v (v_ld rfl ld40) ?_)))))
  refine st_v (v_len rfl Try.underlying40) (st_v (v_lss rfl rfl) (st_nil (nx_kp [2, 3, 7, 38] rfl (nx_then (cd_false rfl ?_)))))
  refine cd_exit (xt_exit_then (xt_exit_then (xt_exit_block (xt_then (cd_seq (cd_region (st_v (v_assign rfl) (st_nil (nx_kp [4] rfl (nx_then (cd_ret ?_)))))))))))
  exact xt_rt rfl ⟨rfl, rfl⟩
set_option maxHeartbeats 4000000 in
set_option maxRecDepth 100000 in
theorem heapNil_c {a b c d : Int} {v : Value} (hb : I64 b) : Ct Try.prog 4 #[.agg #[.int .i64 a, .int .i64 b, .int .i64 c, .int .i64 d, v]] [] fun u h' => u = .bool true ∧ h' = [] := by
  refine ct_of (n := 69) Try.func4 rfl rfl (len rfl) fun hr w0 => ?_
  simp only [List.nil_append]
  refine cd_seq (cd_region (st_bx rfl rfl fun b1 => ?_))
  refine st_v (v_assign rfl) (st_nil (nx_kp [1, 2] rfl (nx_then (cd_seq (cd_region (st_v (v_assign rfl) (st_nil (nx_then (cd_seq (cd_region (st_v (v_move rfl) (st_v (v_loadW rfl ld38 rfl (by repeat (first | exact Sel.here | apply Sel.there))) ?_))))))))))))
  refine st_cl rfl rfl en17 rfl (called_nil_ct hb) ?_
  rintro v' h' ⟨rfl, rfl⟩
  simp only [List.nil_append]
  refine st_v (v_move rfl) (st_v (v_extract rfl rfl) (st_v (v_extract rfl rfl) (st_v (v_extract rfl rfl) (st_v (v_assign rfl) (st_v (v_assign rfl) (st_v (v_assign rfl) (st_nil (nx_kp [1, 2, 3, 4, 5, 6] rfl (nx_then (cd_seq (cd_region (st_v (v_move rfl) (st_v (v_fieldAddr rfl fa38_4 rfl) (st_v (v_ld rfl ld34) ?_))))))))))))))
  refine st_clr rfl rfl en19 rfl (nil_picture_ct) ?_
  refine st_v (v_move rfl) (st_v (v_extract rfl rfl) (st_v (v_extract rfl rfl) (st_alc al42 fun b7 => ?_)))
  refine st_stoW rfl rfl sz42 rfl rfl ?_
  refine st_v (v_assign rfl) (st_nil (nx_kp [2, 3, 4, 5, 6, 7, 8] rfl (nx_then (cd_seq (cd_region (st_v (v_loadW rfl ld42 rfl (by repeat (first | exact Sel.here | apply Sel.there))) ?_))))))
  refine st_v (v_build (cells := [.slice none 0 0, .slice none 0 0, .slice none 0 0]) rfl (fun _ => by kernel_rfl)) ?_
  refine st_cl rfl rfl en22 rfl (samePics_nil_ct) ?_
  rintro v' h' ⟨rfl, rfl⟩
  simp only [List.nil_append]
  refine st_v (v_assign rfl) (st_nil (nx_kp [2, 3, 4, 5, 6, 8, 9] rfl (nx_then (cd_seq (cd_region (st_cl rfl rfl en14 rfl (sanity_c) ?_))))))
  rintro v' h' ⟨rfl, rfl⟩
  simp only [List.nil_append]
  refine st_v (v_move rfl) (st_vg rfl rfl (v_move rfl) (st_vg rfl rfl (v_eql rfl rfl) (st_v (v_pick_true rfl rfl) (st_v (v_move rfl) (st_vg rfl rfl (v_move rfl) (st_vg rfl rfl (v_len rfl Try.underlying34) (st_vg rfl rfl (v_eql rfl rfl) (st_v (v_pick_true rfl rfl) (st_v (v_move rfl) (st_vg rfl rfl (v_move rfl) (st_vg rfl rfl (v_eql rfl rfl) (st_v (v_pick_true rfl rfl) (st_v (v_move rfl) ?_)))))))))))))
  refine st_vg rfl rfl (v_move rfl) (st_vg rfl rfl (v_eql rfl rfl) (st_v (v_pick_true rfl rfl) (st_v (v_move rfl) (st_vg rfl rfl (v_move rfl) (st_v (v_pick_true rfl rfl) (st_v (v_move rfl) (st_vg rfl rfl (v_move rfl) (st_clrg rfl rfl rfl rfl en23 rfl (nil_busy_ct) ?_))))))))
  refine st_vg rfl rfl (v_not rfl) (st_v (v_pick_true rfl rfl) (st_v (v_move rfl) (st_vg rfl rfl (v_move rfl) (st_clrg rfl rfl rfl rfl en24 rfl (nil_room_ct) ?_))))
  refine st_vg rfl rfl (v_build (cells := ints [0, 0, 0]) rfl (fun _ => by kernel_rfl)) ?_
  refine st_vg rfl rfl (v_eql_ints (xs := [0, 0, 0]) (ys := [0, 0, 0]) eqi54 rfl rfl rfl rfl) ?_
  rw [show (([0, 0, 0] : List Int) == [0, 0, 0]) = true by decide]
  refine st_v (v_pick_true rfl rfl) (st_v (v_move rfl) (st_vg rfl rfl (v_move rfl) (st_clrg rfl rfl rfl rfl en26 rfl (nil_check_ct) ?_)))
  refine st_vg rfl rfl (v_eql rfl rfl) (st_v (v_pick_true rfl rfl) (st_v (v_move rfl) (st_vg rfl rfl (v_move rfl) (st_clrg rfl rfl rfl rfl en27 rfl (nil_copy_ct) ?_))))
  refine st_vg rfl rfl (v_eql_ptr_nil rfl rfl pt27) (st_v (v_pick_true rfl rfl) (st_v (v_assign rfl) (st_nil (nx_kp [2] rfl (nx_then (cd_ret ?_))))))
  exact xt_rt rfl ⟨rfl, rfl⟩
end Go.Proofs.Ytmhmpjgkkpbnnaa
namespace Go.Ck
open Go Go.RowKit
theorem LdN.ofArr {P : Program} {T E : TypeId} {n k : Nat} (h : P.underlying T = some (.array k E)) (hs : Sz P T n) : LdN P T n := fun w b o vs hl hv => by
  have hi : (isAgg T).run P w = .ok true w := by unfold isAgg; simp only [Sem.run_bind, run_underlying h, Result.andThen_ok]; rfl
  have key : ∀ (k : Nat) (m : Nat) (acc : Array Value), m + k = n → acc = (vs.take m).toArray → (loadCellsFrom ⟨b, o, none⟩ m k acc).run P w = .ok vs.toArray w := by
    intro k
    induction k with
    | zero =>
      intro m acc hm ha
      have : m = n := by omega
      subst this
      simp [loadCellsFrom, ha, List.take_of_length_le (Nat.le_of_eq hl)]
    | succ k ih =>
      intro m acc hm ha
      have hmn : m < n := by omega
      have hc := hv m hmn
      have hlt : m < vs.length := by omega
      rw [List.getElem?_eq_getElem hlt] at hc
      unfold loadCellsFrom
      simp only [Sem.run_bind, run_load, Addr.add_lit, hc, Result.andThen_ok]
      refine ih (m + 1) _ (by omega) ?_
      rw [ha, List.take_succ_eq_append_getElem hlt]
      simp
  unfold Instr.loadAt loadVar loadCells
  simp only [Instr.sureAddr, Sem.run_bind, Sem.run_pure, Result.andThen_ok, hi, if_true, hs w, key n 0 #[] (by omega) (by simp)]
end Go.Ck
namespace Go.Hm.AM
theorem fwdL_len (y : Bool) : ∀ (ts : List Int) (m : AM), (fwdL y ts m).1.length = ts.length
  | [], _ => rfl
  | a :: ts, m => by simp only [fwdL, List.length_cons, fwdL_len y ts]
end Go.Hm.AM
namespace Go.Proofs.Ytmhmpjgkkpbnnaa
open Go.Ck Fx Go.Hm Go.Hm.AM
theorem fine_new {sh : List (List Bool)} {half young : Int} (h : newErr sh half young = 0) : Fine (AM.new' sh half young) := by
  unfold newErr at h
  split at h
  · cases h
  · rename_i h1
    split at h
    · cases h
    · rename_i h2
      simp only [Bool.or_eq_true, decide_eq_true_eq, not_or, bne_iff_ne, ne_eq, Decidable.not_not] at h1 h2
      obtain ⟨⟨hz, ha⟩, hb⟩ := h1
      unfold sized at hz
      by_cases hq : (decide (60 < (sh.length : Int)) || sh.any long) = true
      · rw [if_pos hq] at hz; cases hz
      · simp only [Bool.or_eq_true, decide_eq_true_eq, not_or, List.any_eq_true, not_exists, not_and] at hq
        exact ⟨_, _, _, _, _, Good.new (by omega) (by omega) (by omega) (by omega) (by omega) (fun l hl => by have := hq.2 l hl; unfold long at this; simp at this; omega)⟩
attribute [local irreducible] St Cd Xt Nx DrL LsW
section
variable {R : Res} {v : Value}
def fitRow (l : List Bool) : Bool := !((decide (8 < (l.length : Int)) && decide ((l.length : Int) ≤ 60)) || decide (70 < (l.length : Int)))
def fitp (sh : List (List Bool)) : Bool := sh.all fitRow && (decide ((sh.length : Int) ≤ 8) || (decide (60 < (sh.length : Int)) && decide ((sh.length : Int) ≤ 70)))
set_option maxRecDepth 100000 in
theorem fit_ct {sh : List (List Bool)} (h : Shp R v sh) (hl : sh.length ≤ maxLen) : Reads Try.prog 12 #[v] [R] (.bool (fitp sh)) := by
  obtain ⟨a, cp, hv, _⟩ := id h
  unfold maxLen at hl
  unfold fitp
  refine ct_of (n := 45) Try.func12 rfl rfl (len rfl) fun hr w0 => ?_
  refine cd_seq (cd_region (st_v (v_assign rfl) (st_nil (nx_then (cd_seq (cd_seq (cd_region (st_v (v_assign rfl) (st_nil (nx_then (cd_block (cd_loop (σ := Nat) (fun i => [(0, v), (3, .int .i64 (i : Nat))]) (fun _ => R :: hr) (fun i => i ≤ sh.length ∧ (sh.take i).all fitRow = true) (fun i => sh.length - i) 0 ⟨Nat.zero_le _, rfl⟩ ⟨rfl, rfl, trivial⟩ (Sub.refl _) ?_))))))))))))
  rintro i ⟨hi, hne⟩
  refine cd_seq (cd_seq (cd_region (st_v (v_move rfl) (st_v (v_move rfl) (st_v (v_len (congrArg some hv) Try.underlying22) (st_v (v_lss rfl rfl) (st_nil (nx_kp [0, 3, 7] rfl (nx_then (cd_cond rfl (fun hd => ?_) (fun hd => ?_)))))))))))
  · skip
    have hlt : i < sh.length := by simpa using hd
    obtain ⟨b, o, cp', u, hv', hrd, hu⟩ := h.row hlt
    obtain ⟨ua, ucp, hue, _⟩ := id hu
    subst hue
    refine cd_skip (xt_then (cd_seq (cd_block (cd_seq (cd_region (st_v (v_move rfl) (st_v (v_move rfl) (st_v (v_ixo i (congrArg some hv') rfl sl22 rfl hlt) (st_v (v_ld rfl ld73) ?_)))))))))
    refine st_v (v_len rfl Try.underlying73) (st_v (v_gtr rfl rfl) (st_v (v_move rfl) (st_cut (k := 14) (d := 23) (v := .bool (decide (8 < (sh[i].length : Int)) && decide ((sh[i].length : Int) ≤ 60))) (fun hcut => bool_want (b := decide (8 < (sh[i].length : Int))) true (fun hg => ?_) (fun hg => ?_)) ?_)))
    · refine st_sk rfl rfl hg ?_
      refine st_sk rfl rfl hg ?_
      refine st_sk rfl rfl hg ?_
      refine st_sk rfl rfl hg ?_
      refine st_sk rfl rfl hg ?_
      refine st_sk rfl rfl hg ?_
      refine st_v (v_pick_false (bool_ev rfl hg) rfl) ?_
      exact hcut _ (ssub_head (by first | rfl | (rw [hg]; rfl) | simp_all) (ssub_skip rfl (ssub_skip rfl (ssub_skip rfl (ssub_skip rfl (ssub_skip rfl (ssub_skip rfl (ssub_refl))))))))
    · skip
      refine st_vg rfl (bool_get rfl hg) (v_move rfl) (st_vg rfl (bool_get rfl hg) (v_move rfl) (st_vg rfl (bool_get rfl hg) (v_ixo i (congrArg some hv') rfl sl22 rfl hlt) (st_vg rfl (bool_get rfl hg) (v_ld rfl ld73) ?_)))
      refine st_vg rfl (bool_get rfl hg) (v_len rfl Try.underlying73) (st_vg rfl (bool_get rfl hg) (v_leq rfl rfl) (st_v (v_pick_true (bool_ev rfl hg) rfl) ?_))
      exact hcut _ (ssub_head (by first | rfl | (rw [hg]; rfl) | simp_all) (ssub_skip rfl (ssub_skip rfl (ssub_skip rfl (ssub_skip rfl (ssub_skip rfl (ssub_skip rfl (ssub_refl))))))))
    refine st_v (v_move rfl) (st_cut (k := 22) (d := 31) (v := .bool ((decide (8 < (sh[i].length : Int)) && decide ((sh[i].length : Int) ≤ 60)) || decide (70 < (sh[i].length : Int)))) (fun hcut => bool_want (b := (decide (8 < (sh[i].length : Int)) && decide ((sh[i].length : Int) ≤ 60))) false (fun hg => ?_) (fun hg => ?_)) ?_)
    · refine st_sk rfl rfl hg ?_
      refine st_sk rfl rfl hg ?_
      refine st_sk rfl rfl hg ?_
      refine st_sk rfl rfl hg ?_
      refine st_sk rfl rfl hg ?_
      refine st_sk rfl rfl hg ?_
      refine st_v (v_pick_true (bool_ev rfl hg) rfl) ?_
      exact hcut _ (ssub_head (by first | rfl | (rw [hg]; rfl) | simp_all) (ssub_skip rfl (ssub_skip rfl (ssub_skip rfl (ssub_skip rfl (ssub_skip rfl (ssub_skip rfl (ssub_refl))))))))
    · skip
      refine st_vg rfl (bool_get rfl hg) (v_move rfl) (st_vg rfl (bool_get rfl hg) (v_move rfl) (st_vg rfl (bool_get rfl hg) (v_ixo i (congrArg some hv') rfl sl22 rfl hlt) (st_vg rfl (bool_get rfl hg) (v_ld rfl ld73) ?_)))
      refine st_vg rfl (bool_get rfl hg) (v_len rfl Try.underlying73) (st_vg rfl (bool_get rfl hg) (v_gtr rfl rfl) (st_v (v_pick_false (bool_ev rfl hg) rfl) ?_))
      exact hcut _ (ssub_head (by first | rfl | (rw [hg]; rfl) | simp_all) (ssub_skip rfl (ssub_skip rfl (ssub_skip rfl (ssub_skip rfl (ssub_skip rfl (ssub_skip rfl (ssub_refl))))))))
    refine st_nil (nx_kp [0, 3, 31] rfl (nx_then (cd_cond rfl (fun he => ?_) (fun he => ?_))))
    · skip
      have hf : sh.all fitRow = false := by
        rw [Bool.eq_false_iff]; intro hall
        have := List.all_eq_true.1 hall _ (List.getElem_mem hlt)
        unfold fitRow at this; rw [he] at this; cases this
      rw [hf, Bool.false_and]
      refine cd_seq (cd_region (st_v (v_assign rfl) (st_nil (nx_kp [0, 2, 3] rfl (nx_then (cd_ret (xt_ret_block (xt_ret_then (xt_ret_then (xt_ret_block (xt_ret_then ?_)))))))))))
      exact xt_rt rfl ⟨rfl, rfl⟩
    · skip
      refine cd_skip (xt_normal_block (xt_then (cd_region (st_v (v_move rfl) (st_v (v_add rfl rfl (by unfold I64 at *; omega)) (st_v (v_assign rfl) (st_nil (nx_kp [0, 3] rfl (nx_xt ?_)))))))))
      refine xt_ag (i + 1) ⟨hlt, by rw [List.take_succ_eq_append_getElem hlt, List.all_append, hne, Bool.true_and]; simp only [List.all_cons, List.all_nil, Bool.and_true]; unfold fitRow; rw [he]; rfl⟩ (by omega)
  · skip
    have hge : sh.length ≤ i := by simpa using hd
    rw [List.take_of_length_le hge] at hne
    rw [hne, Bool.true_and]
    refine cd_exit (xt_exit_then (xt_exit_then (xt_exit_block (xt_then (cd_seq (cd_region (st_v (v_move rfl) (st_v (v_len (congrArg some hv) Try.underlying22) (st_v (v_leq rfl rfl) (st_v (v_move rfl) (st_cut (k := 13) (d := 44) (v := .bool (decide ((sh.length : Int) ≤ 8) || (decide (60 < (sh.length : Int)) && decide ((sh.length : Int) ≤ 70)))) (fun hcut => bool_want (b := decide ((sh.length : Int) ≤ 8)) false (fun hg => ?_) (fun hg => ?_)) ?_)))))))))))
    · refine st_sk rfl rfl hg ?_
      refine st_sk rfl rfl hg ?_
      refine st_sk rfl rfl hg ?_
      refine st_sk rfl rfl hg ?_
      refine st_sku rfl rfl ?_
      refine st_sku rfl rfl ?_
      refine st_sku rfl rfl ?_
      refine st_sk rfl rfl hg ?_
      refine st_v (v_pick_true (bool_ev rfl hg) rfl) ?_
      exact hcut _ (ssub_head (by first | rfl | (rw [hg]; rfl) | simp_all) (ssub_skip rfl (ssub_skip rfl (ssub_skip rfl (ssub_skip rfl (ssub_skip rfl (ssub_skip rfl (ssub_skip rfl (ssub_skip rfl (ssub_refl))))))))))
    · skip
      refine st_vg rfl (bool_get rfl hg) (v_move rfl) (st_vg rfl (bool_get rfl hg) (v_len (congrArg some hv) Try.underlying22) (st_vg rfl (bool_get rfl hg) (v_gtr rfl rfl) (st_vg rfl (bool_get rfl hg) (v_move rfl) (st_cut (k := 12) (d := 43) (v := .bool (decide (60 < (sh.length : Int)) && decide ((sh.length : Int) ≤ 70))) (fun hcut => bool_want (b := decide (60 < (sh.length : Int))) true (fun hg1 => ?_) (fun hg1 => ?_)) ?_))))
      · refine st_sk rfl rfl hg1 ?_
        refine st_sk rfl rfl hg1 ?_
        refine st_sk rfl rfl hg1 ?_
        refine st_vg rfl (bool_get rfl hg) (v_pick_false (bool_ev rfl hg1) rfl) ?_
        exact hcut _ (ssub_head (by first | rfl | (rw [hg1]; rfl) | simp_all) (ssub_skip rfl (ssub_skip rfl (ssub_skip rfl (ssub_refl)))))
      · skip
        refine st_vg rfl (bool_get rfl hg1) (v_move rfl) (st_vg rfl (bool_get rfl hg1) (v_len (congrArg some hv) Try.underlying22) (st_vg rfl (bool_get rfl hg1) (v_leq rfl rfl) (st_vg rfl (bool_get rfl hg) (v_pick_true (bool_ev rfl hg1) rfl) ?_)))
        exact hcut _ (ssub_head (by first | rfl | (rw [hg1]; rfl) | simp_all) (ssub_skip rfl (ssub_skip rfl (ssub_skip rfl (ssub_refl)))))
      refine st_v (v_pick_false (bool_ev rfl hg) rfl) ?_
      exact hcut _ (ssub_head (by first | rfl | (rw [hg]; rfl) | simp_all) (by repeat (first | exact ssub_refl | refine ssub_skip rfl ?_)))
    refine st_v (v_assign rfl) (st_nil (nx_kp [2] rfl (nx_then (cd_ret ?_))))
    exact xt_rt rfl ⟨rfl, rfl⟩
end
end Go.Proofs.Ytmhmpjgkkpbnnaa
