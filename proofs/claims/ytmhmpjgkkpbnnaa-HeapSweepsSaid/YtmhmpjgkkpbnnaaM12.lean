/-
  Two pictures held against each other. Conditions: what the heap holds, that sizes are small.
  The player of package heap: refers, keep, drop, copied, set, put, get, look. Conditions: what the heap holds, that the machine is in order.
  The player of package heap: copied, set, put, get, clear, flip, look. Conditions: what the heap holds, that the machine is in order.
  The player of package heap: get, clear, flip, look. Conditions: what the heap holds, that the machine is in order.
  The player of package heap: fresh. Conditions: what the heap holds, that the machine is in order.
  The player of package heap: the table of deeds, and one act. Conditions: what the heap holds, that the machine is in order.
  Package heap's Play: the player's acts from a fresh memory. Conditions: what the heap holds.
  What a list of acts reads as. No condition.
  Pictures and acts in blocks of their own, several kept as one; comparing what is equal. Conditions: what the heap holds, that the machine is in order.
  Package heap's Play: the player's acts from a fresh memory. Conditions: what the heap holds.
-/
import Derived.Test.YtmhmpjgkkpbnnaaM10
import Derived.Test.YtmhmpjgkkpbnnaaM4
import Derived.Test.YtmhmpjgkkpbnnaaM2
import Derived.Test.YtmhmpjgkkpbnnaaM11
namespace Go.Proofs.Ytmhmpjgkkpbnnaa
open Go.Ck Fx Go.Hm Go.Hm.AM
attribute [local irreducible] St Cd Xt Nx DrL LsW
section
variable {R : Res} {s1 f1 r1 s2 f2 r2 : Value} {p q : Pic}
def samePic (p q : Pic) : Bool := (p.shapes == q.shapes && p.roots == q.roots) && p.fields == q.fields
/-- A picture is small. -/
structure PicSz (p : Pic) : Prop where
  zs : p.shapes.length ≤ 1000000
  zr : p.roots.length ≤ 1000000
  zf : p.fields.length ≤ 1000000
  zx : ∀ x ∈ p.fields, x.length ≤ 1000000
theorem RowsI.shape {r : Res} {v : Value} {rows : List (List Int)} (h : RowsI r v rows) : ∃ a cp, v = .slice a rows.length cp := let ⟨a, cp, h, _⟩ := h; ⟨a, cp, h⟩
set_option maxHeartbeats 2000000 in
set_option maxRecDepth 100000 in
theorem samePictures_ct (h1 : PicV R s1 f1 r1 p) (h2 : PicV R s2 f2 r2 q) (zp : PicSz p) : Reads Try.prog 22 #[.agg #[s1, f1, r1], .agg #[s2, f2, r2]] [R] (.bool (samePic p q)) := by
  have z1 := zp.zs; have z2 := zp.zr; have z3 := zp.zf
  obtain ⟨fa1, fc1, hf1⟩ := h1.pf.shape
  obtain ⟨fa2, fc2, hf2⟩ := h2.pf.shape
  unfold samePic
  refine ct_of (n := 54) Try.func22 rfl rfl (len rfl) fun hr w0 => ?_
  simp only [List.cons_append, List.nil_append]
  refine cd_seq (cd_region (st_bx rfl rfl fun b2 => ?_))
  refine st_bx rfl rfl fun b3 => ?_
  refine st_v (v_assign rfl) (st_nil (nx_kp [2, 3, 4] rfl (nx_then (cd_seq (cd_region (st_v (v_fieldAddr rfl fa42_0 rfl) (st_v (v_ld rfl ld34) ?_)))))))
  refine st_v (v_fieldAddr rfl fa42_0 rfl) (st_v (v_ld rfl ld34) ?_)
  refine st_clr rfl rfl en21 rfl (sameInts_ct h1.ps h2.ps z1) ?_
  refine st_v (v_assign rfl) (st_nil (nx_kp [2, 3, 4, 5] rfl (nx_then (cd_seq (cd_region (st_v (v_fieldAddr rfl fa42_2 rfl) (st_v (v_ld rfl ld34) ?_)))))))
  refine st_v (v_fieldAddr rfl fa42_2 rfl) (st_v (v_ld rfl ld34) ?_)
  refine st_clr rfl rfl en21 rfl (sameInts_ct h1.pr h2.pr z2) ?_
  refine st_v (v_assign rfl) (st_nil (nx_kp [2, 3, 4, 5, 6] rfl (nx_then (cd_seq (cd_seq (cd_region (st_v (v_move rfl) (st_v (v_not rfl) (st_v (v_move rfl) (st_cut (k := 6) (d := 24) (v := .bool (!(p.shapes == q.shapes) || !(p.roots == q.roots))) (fun hcut => bool_want (b := !(p.shapes == q.shapes)) false (fun hg => ?_) (fun hg => ?_)) ?_))))))))))
  · refine st_sk rfl rfl hg ?_
    refine st_sk rfl rfl hg ?_
    refine st_v (v_pick_true (bool_ev rfl hg) rfl) ?_
    exact hcut _ (ssub_head (by first | rfl | (rw [hg]; rfl) | simp_all) (ssub_skip rfl (ssub_skip rfl (ssub_refl))))
  · skip
    refine st_vg rfl (bool_get rfl hg) (v_move rfl) (st_vg rfl (bool_get rfl hg) (v_not rfl) (st_v (v_pick_false (bool_ev rfl hg) rfl) ?_))
    exact hcut _ (ssub_head (by first | rfl | (rw [hg]; rfl) | simp_all) (ssub_skip rfl (ssub_skip rfl (ssub_refl))))
  refine st_v (v_move rfl) (st_cut (k := 15) (d := 33) (v := .bool ((!(p.shapes == q.shapes) || !(p.roots == q.roots)) || ((p.fields.length : Int) != q.fields.length))) (fun hcut => bool_want (b := !(p.shapes == q.shapes) || !(p.roots == q.roots)) false (fun hg => ?_) (fun hg => ?_)) ?_)
  · refine st_sk rfl rfl hg ?_
    refine st_sk rfl rfl hg ?_
    refine st_sk rfl rfl hg ?_
    refine st_sk rfl rfl hg ?_
    refine st_sk rfl rfl hg ?_
    refine st_sk rfl rfl hg ?_
    refine st_sk rfl rfl hg ?_
    refine st_v (v_pick_true (bool_ev rfl hg) rfl) ?_
    exact hcut _ (ssub_head (by first | rfl | (rw [hg]; rfl) | simp_all) (ssub_skip rfl (ssub_skip rfl (ssub_skip rfl (ssub_skip rfl (ssub_skip rfl (ssub_skip rfl (ssub_skip rfl (ssub_refl)))))))))
  · skip
    refine st_vg rfl (bool_get rfl hg) (v_fieldAddr rfl fa42_1 rfl) (st_vg rfl (bool_get rfl hg) (v_ld rfl ld40) ?_)
    refine st_vg rfl (bool_get rfl hg) (v_len (congrArg some hf1) Try.underlying40) (st_vg rfl (bool_get rfl hg) (v_fieldAddr rfl fa42_1 rfl) (st_vg rfl (bool_get rfl hg) (v_ld rfl ld40) ?_))
    refine st_vg rfl (bool_get rfl hg) (v_len (congrArg some hf2) Try.underlying40) (st_vg rfl (bool_get rfl hg) (v_neq rfl rfl) (st_v (v_pick_false (bool_ev rfl hg) rfl) ?_))
    exact hcut _ (ssub_head (by first | rfl | (rw [hg]; rfl) | simp_all) (ssub_skip rfl (ssub_skip rfl (ssub_skip rfl (ssub_skip rfl (ssub_skip rfl (ssub_skip rfl (ssub_skip rfl (ssub_refl)))))))))
  refine st_nil (nx_kp [2, 3, 4, 33] rfl (nx_then (cd_cond rfl (fun hc => ?_) (fun hc => ?_))))
  · skip
    have hres : ((p.shapes == q.shapes && p.roots == q.roots) && p.fields == q.fields) = false := by
      cases ha : p.shapes == q.shapes
      · rfl
      · cases hb : p.roots == q.roots
        · rfl
        · rw [ha, hb] at hc
          simp only [Bool.not_true, Bool.or_self, Bool.false_or, bne_iff_ne, ne_eq] at hc
          have : p.fields ≠ q.fields := fun e => hc (by rw [e])
          simp [this]
    rw [hres]
    refine cd_seq (cd_region (st_v (v_assign rfl) (st_nil (nx_kp [2, 3, 4] rfl (nx_then (cd_ret (xt_ret_then ?_)))))))
    exact xt_rt rfl ⟨rfl, rfl⟩
  · skip
    simp only [Bool.or_eq_false_iff, Bool.not_eq_false'] at hc
    obtain ⟨⟨ha, hb⟩, hlen⟩ := hc
    have hlen : p.fields.length = q.fields.length := by simp at hlen; omega
    rw [ha, hb, Bool.and_self, Bool.true_and]
    refine cd_skip (xt_then (cd_seq (cd_seq (cd_region (st_v (v_assign rfl) (st_nil (nx_kp [2, 3, 4, 7] rfl (nx_then (cd_block (cd_loop (σ := Nat) (fun i => [(2, .pointer (some ⟨b2, 0, none⟩)), (3, .pointer (some ⟨b3, 0, none⟩)), (7, .int .i64 (i : Nat))]) (fun _ => pt b2 (cl [s1, f1, r1] 42) :: pt b3 (cl [s2, f2, r2] 42) :: R :: hr) (fun i => i ≤ p.fields.length ∧ p.fields.take i = q.fields.take i) (fun i => p.fields.length - i) 0 ⟨Nat.zero_le _, rfl⟩ ⟨rfl, rfl, rfl, trivial⟩ (by repeat (first | exact Sub.refl _ | exact Sub.nil _ | refine Sub.sel (by repeat (first | exact Sel.here | apply Sel.there)) ?_ | apply Sub.cons)) ?_))))))))))
    rintro i ⟨hi, heq⟩
    refine cd_seq (cd_seq (cd_region (st_v (v_move rfl) (st_v (v_fieldAddr rfl fa42_1 rfl) (st_v (v_ld rfl ld40) ?_)))))
    refine st_v (v_len (congrArg some hf1) Try.underlying40) (st_v (v_lss rfl rfl) (st_nil (nx_kp [2, 3, 7, 38] rfl (nx_then (cd_cond rfl (fun hd => ?_) (fun hd => ?_))))))
    · skip
      have hlt : i < p.fields.length := by simpa using hd
      have hlt2 : i < q.fields.length := by omega
      obtain ⟨ba, oa, ca, ua, hva, hra, hwa⟩ := h1.pf.row hlt
      obtain ⟨bb, ob, cb, ub, hvb, hrb, hwb⟩ := h2.pf.row hlt2
      obtain ⟨xa, ya, hxa, _⟩ := id hwa
      obtain ⟨xb, yb, hxb, _⟩ := id hwb
      subst hxa hxb
      refine cd_skip (xt_then (cd_seq (cd_block (cd_seq (cd_drawh (ork [(0, 2), (1, 1), (2, 2), (3, 2), (4, 1), (5, 2), (6, 1), (7, 2), (8, 2), (9, 1), (10, 1), (11, 2)] .nil) (fun _ => true) mixed (by kernel_rfl) ?_)))))
      refine dp_v rfl (v_fieldAddr rfl fa42_1 rfl) (dr_v rfl (v_ld rfl ld40) ?_)
      refine dp_v rfl (v_move rfl) (dp_v rfl (v_ixo i (congrArg some hva) rfl sl40 rfl hlt) (dr_v rfl (v_ld rfl ld34) ?_))
      refine dp_v rfl (v_fieldAddr rfl fa42_1 rfl) (dr_v rfl (v_ld rfl ld40) ?_)
      refine dp_v rfl (v_move rfl) (dp_v rfl (v_ixo i (congrArg some hvb) rfl sl40 rfl hlt2) (dr_v rfl (v_ld rfl ld34) ?_))
      refine dr_clr rfl rfl rfl en21 rfl (sameInts_ct hwa hwb (zp.zx _ (List.getElem_mem hlt))) ?_
      refine dp_v rfl (v_assign rfl) (dr_nil (nx_kp [2, 3, 7, 8] rfl (nx_then (cd_seq (cd_region (st_v (v_move rfl) (st_v (v_not rfl) (st_nil (nx_kp [2, 3, 7, 53] rfl (nx_then (cd_cond rfl (fun he => ?_) (fun he => ?_))))))))))))
      · skip
        have hne : p.fields[i] ≠ q.fields[i] := by simpa using he
        have hres : (p.fields == q.fields) = false := by
          have : p.fields ≠ q.fields := fun e => hne (by simp [e])
          simp [this]
        rw [hres]
        refine cd_seq (cd_region (st_v (v_assign rfl) (st_nil (nx_kp [2, 3, 4, 7] rfl (nx_then (cd_ret (xt_ret_block (xt_ret_then (xt_ret_then (xt_ret_block (xt_ret_then ?_)))))))))))
        exact xt_rt rfl ⟨rfl, rfl⟩
      · skip
        have he2 : p.fields[i] = q.fields[i] := by simpa using he
        refine cd_skip (xt_normal_block (xt_then (cd_region (st_v (v_move rfl) (st_v (v_add rfl rfl (by unfold I64 at *; omega)) (st_v (v_assign rfl) (st_nil (nx_kp [2, 3, 7] rfl (nx_xt ?_)))))))))
        refine xt_ag (i + 1) ⟨hlt, by rw [List.take_succ_eq_append_getElem hlt, List.take_succ_eq_append_getElem hlt2, heq, he2]⟩ (by omega)
    · skip
      have hge : p.fields.length ≤ i := by simpa using hd
      have hres : (p.fields == q.fields) = true := by
        rw [List.take_of_length_le hge, List.take_of_length_le (by omega)] at heq
        simp [heq]
      rw [hres]
      refine cd_exit (xt_exit_then (xt_exit_then (xt_exit_block (xt_then (cd_seq (cd_region (st_v (v_assign rfl) (st_nil (nx_kp [4] rfl (nx_then (cd_ret ?_)))))))))))
      exact xt_rt rfl ⟨rfl, rfl⟩
end
end Go.Proofs.Ytmhmpjgkkpbnnaa
namespace Go.Proofs.Ytmhmpjgkkpbnnaa
open Go.Ck Fx Go.Hm Go.Hm.AM
attribute [local irreducible] St Cd Xt Nx DrL LsW
section
variable {L : MemL} {μ : Mem} {S : Res} {m : AM} {ly ln lf : List Int} {φ : Int → Option Nat} {A : Store} {r : List Int} {rv : Value} {pb : Nat} {en : Bool}
set_option maxRecDepth 100000 in
theorem field_c (I : MI L μ S m) (h : AM.Good m ly ln lf φ A) (t k : Int) : ∃ p, Reads Try.prog 92 #[.pointer (some ⟨L.mb, 0, none⟩), .int .i64 t, .int .i64 k] (fldSH L μ S) (.tuple #[.pointer p, .bool (if m.fe t k = 0 then m.ref t k else false), .int .i64 (m.fe t k)]) := by
  obtain ⟨p, b, e, hF⟩ := fld_total L μ t k
  have hct := field_ct hF (I.r.oky h.g) (I.r.okn h.g) I.yn I.shp' (I.r.shl h.g) (I.r.spy h.g) (I.r.spn h.g)
  refine ⟨p, ?_⟩
  have hcur := I.r.cur h.g t
  unfold Mem.cur at hcur
  have rowy : μ.y.begins t = true → shAt μ.sh (μ.y.wd t) = m.row t := fun hb => by
    rw [I.r.by_ h.g, Bool.and_eq_true, decide_eq_true_eq] at hb
    rw [I.r.wdy h.g ((h.g.isY_iff hb.2).1 hb.1), shAt_row I.r]
  have rown : μ.n.begins t = true → shAt μ.sh (μ.n.wd t) = m.row t := fun hb => by
    rw [I.r.bn h.g, Bool.and_eq_true, decide_eq_true_eq, isO_iff] at hb
    rw [I.r.wdn h.g ((h.g.o.hd t hb.1.1 hb.1.2).1 hb.2), shAt_row I.r]
  have key : e = m.fe t k ∧ b = (if m.fe t k = 0 then m.ref t k else false) := by
    unfold AM.fe AM.ref
    cases hF with
    | none h1 h2 => rw [h1, h2] at hcur; rw [← hcur]; exact ⟨rfl, rfl⟩
    | argy h1 h2 => rw [h1] at hcur; rw [rowy h1] at h2; rw [← hcur, Bool.true_or, if_neg (by simp), if_pos h2]; exact ⟨rfl, rfl⟩
    | argn h1 h2 h3 => rw [h1, h2] at hcur; rw [rown h2] at h3; rw [← hcur, Bool.false_or, if_neg (by simp), if_pos h3]; exact ⟨rfl, rfl⟩
    | y h1 h2 => rw [h1] at hcur; rw [rowy h1] at h2 ⊢; rw [← hcur, Bool.true_or, if_neg (by simp), if_neg (by rw [h2]; simp)]; exact ⟨rfl, rfl⟩
    | n h1 h2 h3 => rw [h1, h2] at hcur; rw [rown h2] at h3 ⊢; rw [← hcur, Bool.false_or, if_neg (by simp), if_neg (by rw [h3]; simp)]; exact ⟨rfl, rfl⟩
  rw [← key.2, ← key.1]
  exact hct
/-- Where a player lies. -/
def plR (pb mb : Nat) (rv : Value) (en : Bool) : Res := pt pb (cl [.pointer (some ⟨mb, 0, none⟩), rv, .bool en] 140)
def playSH (L : MemL) (μ : Mem) (S : Res) (pb : Nat) (rv : Value) (r : List Int) (en : Bool) : SH := memSH L μ S ++ [plR pb L.mb rv en, vec rv 3 1 r.length (ints r)]
theorem rdx_eq {x : Int} (h : oob x r = false) : ∃ j : Nat, x = j ∧ ∃ hj : j < r.length, rdx r x = r[j] := by
  unfold oob at h
  simp only [Bool.or_eq_false_iff, decide_eq_false_iff_not, Int.not_lt, Int.not_le] at h
  refine ⟨x.toNat, by omega, by omega, ?_⟩
  unfold rdx; rw [List.getD_eq_getElem?_getD, List.getElem?_eq_getElem (by omega)]; rfl
set_option maxRecDepth 100000 in
theorem refers_c (I : MI L μ S m) (h : AM.Good m ly ln lf φ A) {x k : Int} {want : Bool} (hx : oob x r = false) :
    Reads Try.prog 132 #[.pointer (some ⟨pb, 0, none⟩), .int .i64 x, .int .i64 k, .bool want] (playSH L μ S pb rv r en) (.int .i64 (m.kinded (rdx r x) k want)) := by
  obtain ⟨j, rfl, hj, hrd⟩ := rdx_eq hx
  rw [hrd]
  obtain ⟨p, hf⟩ := field_c I h r[j] k
  unfold fldSH at hf
  unfold playSH memSH plR AM.kinded
  refine ct_of (n := 37) Try.func132 rfl rfl (len rfl) fun hr w0 => ?_
  refine cd_vecshape (v := rv) (E := 3) (sz := 1) (n := r.length) (l := ints r) (by repeat (first | exact Sel.here | apply Sel.there)) fun ra rcp hrv hra => ?_
  obtain ⟨rb, rfl⟩ := hra (by omega)
  have hrd : Rd (vec rv 3 1 r.length (ints r)) ⟨rb, j, none⟩ (.int .i64 r[j]) := rd_vec hrv (by simp [ints, hj])
  simp only [List.cons_append, List.nil_append]
  refine cd_seq (cd_region (st_v (v_assign rfl) (st_nil (nx_then (cd_seq (cd_drawh (ork [(0, 2), (1, 2), (2, 2), (3, 1), (4, 2), (5, 2), (6, 2), (7, 1), (8, 2), (9, 2), (10, 1), (11, 2), (12, 1), (13, 2), (14, 2), (15, 2), (16, 2), (17, 2), (18, 2), (19, 2)] .nil) (fun _ => true) mixed (by kernel_rfl) ?_))))))
  refine dp_v rfl (v_move rfl) (dp_v rfl (v_nilCheck rfl) (dp_v rfl (v_fieldAddr rfl fa140_0 rfl) (dr_v rfl (v_ld rfl ld27) ?_)))
  refine dp_v rfl (v_move rfl) (dp_v rfl (v_nilCheck rfl) (dp_v rfl (v_fieldAddr rfl fa140_1 rfl) (dr_v rfl (v_ld rfl ld34) ?_)))
  refine dp_v rfl (v_move rfl) (dp_v rfl (v_idx j (congrArg some hrv) rfl sl34 rfl hj) (dr_v rfl (v_ld rfl ld3) ?_))
  refine dp_v rfl (v_move rfl) (dr_clr rfl rfl rfl en92 rfl (hf) ?_)
  refine dp_v rfl (v_move rfl) (dp_v rfl (v_extract rfl rfl) (dp_v rfl (v_extract rfl rfl) (dp_v rfl (v_extract rfl rfl) (dp_v rfl (v_assign rfl) (dp_v rfl (v_assign rfl) (dp_v rfl (v_assign rfl) (dr_nil (nx_kp [3, 8, 10, 11] rfl (nx_then (cd_seq (cd_seq (cd_region (st_v (v_move rfl) (st_v (v_eql rfl rfl) (st_v (v_move rfl) ?_)))))))))))))))
  refine st_cut (k := 7) (d := 35) (v := .bool ((m.fe r[j] k == 0) && !(m.ref r[j] k == want))) (fun hcut => bool_want (b := m.fe r[j] k == 0) true (fun hg => ?_) (fun hg => ?_)) ?_
  · refine st_sk rfl rfl hg ?_
    refine st_sk rfl rfl hg ?_
    refine st_sk rfl rfl hg ?_
    refine st_v (v_pick_false (bool_ev rfl hg) rfl) ?_
    exact hcut _ (ssub_head (by first | rfl | (rw [hg]; rfl) | simp_all) (ssub_skip rfl (ssub_skip rfl (ssub_skip rfl (ssub_refl)))))
  · skip
    refine st_vg rfl (bool_get rfl hg) (v_move rfl) (st_vg rfl (bool_get rfl hg) (v_move rfl) (st_vg rfl (bool_get rfl hg) (v_neq_bool Try.underlying4 rfl rfl) (st_v (v_pick_true (bool_ev rfl hg) rfl) ?_)))
    exact hcut _ (ssub_head (by first | rfl | (rw [hg]; rfl) | simp_all) (ssub_skip rfl (ssub_skip rfl (ssub_skip rfl (ssub_refl)))))
  refine st_nil (nx_kp [8, 11, 35] rfl (nx_then (cd_cond rfl (fun hc => ?_) (fun hc => ?_))))
  · skip
    rw [Bool.and_eq_true, beq_iff_eq] at hc
    rw [if_pos hc.1, if_pos (show (m.ref r[j] k != want) = true from hc.2)]
    refine cd_seq (cd_region (st_v (v_assign rfl) (st_nil (nx_kp [8, 11] rfl (nx_then (cd_ret (xt_ret_then ?_)))))))
    exact xt_rt rfl ⟨rfl, rfl⟩
  · skip
    have hk : (if m.fe r[j] k = 0 then (if m.ref r[j] k != want then (1 : Int) else 0) else m.fe r[j] k) = m.fe r[j] k := by
      by_cases he : m.fe r[j] k = 0
      · rw [he] at hc ⊢
        simp only [beq_self_eq_true, Bool.true_and] at hc
        rw [if_pos rfl, if_neg (by rw [show (m.ref r[j] k != want) = false from hc]; simp)]
      · rw [if_neg he]
    rw [hk]
    refine cd_skip (xt_then (cd_seq (cd_region (st_v (v_move rfl) (st_v (v_assign rfl) (st_nil (nx_kp [8] rfl (nx_then (cd_ret ?_)))))))))
    exact xt_rt rfl ⟨rfl, rfl⟩
/-- What an act of the player leaves. -/
def Acted (L : MemL) (S : Res) (pb : Nat) (en : Bool) (q : Int × AM × List Int) (u : Value) (h' : SH) : Prop := ∃ L' μ' rv', u = .int .i64 q.1 ∧ MI L' μ' S q.2.1 ∧ L'.mb = L.mb ∧ h' = playSH L' μ' S pb rv' q.2.2 en
set_option maxRecDepth 100000 in
theorem keep_c {mb : Nat} {l : List Int} {sl : Value} {e : Int} : Ct Try.prog 133 #[.pointer (some ⟨pb, 0, none⟩), sl, .int .i64 e] [plR pb mb rv en, vec rv 3 1 r.length (ints r), vec sl 3 1 l.length (ints l)] fun u h' => ∃ rv', u = .int .i64 e ∧ h' = [plR pb mb rv' en, vec rv' 3 1 (if e = 0 then l else r).length (ints (if e = 0 then l else r))] := by
  unfold plR
  refine ct_of (n := 14) Try.func133 rfl rfl (len rfl) fun hr w0 => ?_
  refine cd_vecshape (v := sl) (E := 3) (sz := 1) (n := l.length) (l := ints l) (by repeat (first | exact Sel.here | apply Sel.there)) fun sa scp hsv hsa => ?_
  have hone : sl.oneCell' = true := by rw [hsv]; rfl
  simp only [List.cons_append, List.nil_append]
  refine cd_seq (cd_region (st_v (v_assign rfl) (st_nil (nx_then (cd_seq (cd_seq (cd_region (st_v (v_move rfl) (st_v (v_eql rfl rfl) (st_nil (nx_kp [0, 1, 2, 6, 8] rfl (nx_then (cd_cond rfl (fun hc => ?_) (fun hc => ?_))))))))))))))
  · skip
    have he : e = 0 := by simpa using hc
    rw [if_pos he]
    refine cd_region (st_v (v_move rfl) (st_v (v_move rfl) (st_v (v_nilCheck rfl) (st_v (v_fieldAddr rfl fa140_1 rfl) (st_sto rfl rfl sz34 ?_)))))
    refine st_nil (nx_kp [2, 6] rfl (nx_then (cd_seq (cd_region (st_v (v_move rfl) (st_v (v_assign rfl) (st_nil (nx_kp [6] rfl (nx_then (cd_ret ?_))))))))))
    exact xt_rt rfl ⟨sl, rfl, rfl⟩
  · skip
    have he : ¬ e = 0 := by simpa using hc
    rw [if_neg he]
    refine cd_skip (xt_then (cd_seq (cd_region (st_v (v_move rfl) (st_v (v_assign rfl) (st_nil (nx_kp [6] rfl (nx_then (cd_ret ?_)))))))))
    exact xt_rt rfl ⟨rv, rfl, rfl⟩
/-- A row that is not empty, opened. -/
theorem cd_row {c : Cx} {x : Code} {Q : Exit → Act → World → Prop} {e : Env} {h h' : SH} {v : Value} {n : Nat} {l : List Value} (hn : 0 < n) (s : Sel h (vec v 3 1 n l) h') (h1 : ∀ b cp j, v = .slice (some ⟨b, 0, none⟩) n cp → OpenRow v 1 n l b cp j → Cd c x Q e (pt b (cl (l ++ j) 3) :: h')) : Cd c x Q e h :=
  cd_open s (fun h0 hn0 _ => by omega) fun b cp j ho => h1 b cp j ho.1 ho
set_option maxRecDepth 100000 in
theorem drop_c (I : MI L μ S m) {a b c k : Int} (ha : oob a r = false) : Ct Try.prog 125 #[.pointer (some ⟨pb, 0, none⟩), .agg #[.int .i64 k, .int .i64 a, .int .i64 b, .int .i64 c]] (playSH L μ S pb rv r en) (Acted L S pb en (0, m, r.set a.toNat 0)) := by
  obtain ⟨j, rfl, hj, _⟩ := rdx_eq ha
  unfold playSH memSH plR
  refine ct_of (n := 12) Try.func125 rfl rfl (len rfl) fun hr w0 => ?_
  refine cd_row (v := rv) (n := r.length) (l := ints r) (by omega) (by repeat (first | exact Sel.here | apply Sel.there)) fun b3 cp3 j3 hrv ho => ?_
  have hlen : j < (ints r ++ j3).length := by rw [List.length_append, ints_length]; omega
  refine cd_seq (cd_region (st_bx rfl rfl fun b3 => ?_))
  refine st_v (v_assign rfl) (st_nil (nx_kp [0, 3, 4] rfl (nx_then (cd_seq (cd_drawh (ork [(0, 2), (1, 2), (2, 2), (3, 1), (4, 2), (5, 1), (6, 2), (7, 0)] .nil) (fun i => !(Nat.beq i 7)) mixed (by kernel_rfl) ?_)))))
  refine dp_v rfl (v_move rfl) (dp_v rfl (v_nilCheck rfl) (dp_v rfl (v_fieldAddr rfl fa140_1 rfl) (dr_v rfl (v_ld rfl ld34) ?_)))
  refine dp_v rfl (v_fieldAddr rfl fa78_1 rfl) (dr_v rfl (v_ld rfl ld3) ?_)
  refine dp_v rfl (v_idx j (congrArg some hrv) rfl sl34 rfl hj) (dr_eff rfl (st_sto rfl rfl sz3 (dr_nx ?_)))
  refine dr_nil (nx_kp [4] rfl (nx_then (cd_seq (cd_region (st_v (v_assign rfl) (st_nil (nx_then (cd_ret ?_))))))))
  rw [set_ints hj]
  refine xt_shut (E := 3) (l' := ints (r.set j 0)) ho (by simp [ints]) (by repeat (first | exact Sel.here | apply Sel.there)) ?_
  refine xt_rt rfl ⟨L, μ, rv, rfl, I, rfl, rfl⟩ ?_
  unfold playSH memSH plR
  rw [List.length_set, Int.toNat_natCast]
  simp only [List.cons_append, List.nil_append]
  exact (by repeat (first | exact Sub.refl _ | exact Sub.nil _ | refine Sub.sel (by repeat (first | exact Sel.here | apply Sel.there)) ?_ | apply Sub.cons))
end
end Go.Proofs.Ytmhmpjgkkpbnnaa
namespace Go.Proofs.Ytmhmpjgkkpbnnaa
open Go.Ck Fx Go.Hm Go.Hm.AM
attribute [local irreducible] St Cd Xt Nx DrL LsW
section
variable {L : MemL} {μ : Mem} {S : Res} {m : AM} {ly ln lf : List Int} {φ : Int → Option Nat} {A : Store} {r : List Int} {rv : Value} {pb : Nat} {en : Bool} {k a b c : Int}
set_option maxRecDepth 100000 in
theorem copied_c (I : MI L μ S m) (ha : oob a r = false) (hb : oob b r = false) : Ct Try.prog 126 #[.pointer (some ⟨pb, 0, none⟩), .agg #[.int .i64 k, .int .i64 a, .int .i64 b, .int .i64 c]] (playSH L μ S pb rv r en) (Acted L S pb en (0, m, r.set a.toNat (rdx r b))) := by
  obtain ⟨j, rfl, hj, _⟩ := rdx_eq ha
  obtain ⟨i, rfl, hi, hri⟩ := rdx_eq hb
  rw [hri]
  unfold playSH memSH plR
  refine ct_of (n := 20) Try.func126 rfl rfl (len rfl) fun hr w0 => ?_
  refine cd_row (v := rv) (n := r.length) (l := ints r) (by omega) (by repeat (first | exact Sel.here | apply Sel.there)) fun b3 cp3 j3 hrv ho => ?_
  have hlen : j < (ints r ++ j3).length := by rw [List.length_append, ints_length]; omega
  have hrd : Rd (pt b3 (cl (ints r ++ j3) 3)) ⟨b3, i, none⟩ (.int .i64 r[i]) := by rw [← getD_lt (d := 0) hi]; exact rd_ints hi
  refine cd_seq (cd_region (st_bx rfl rfl fun b3 => ?_))
  refine st_v (v_assign rfl) (st_nil (nx_kp [0, 3, 4] rfl (nx_then (cd_seq (cd_drawh (ork [(0, 2), (1, 2), (2, 2), (3, 1), (4, 2), (5, 1), (6, 2), (7, 2), (8, 2), (9, 1), (10, 2), (11, 1), (12, 2), (13, 1), (14, 2), (15, 0)] .nil) (fun i => !(Nat.beq i 15)) mixed (by kernel_rfl) ?_)))))
  refine dp_v rfl (v_move rfl) (dp_v rfl (v_nilCheck rfl) (dp_v rfl (v_fieldAddr rfl fa140_1 rfl) (dr_v rfl (v_ld rfl ld34) ?_)))
  refine dp_v rfl (v_fieldAddr rfl fa78_1 rfl) (dr_v rfl (v_ld rfl ld3) ?_)
  refine dp_v rfl (v_move rfl) (dp_v rfl (v_nilCheck rfl) (dp_v rfl (v_fieldAddr rfl fa140_1 rfl) (dr_v rfl (v_ld rfl ld34) ?_)))
  refine dp_v rfl (v_fieldAddr rfl fa78_2 rfl) (dr_v rfl (v_ld rfl ld3) ?_)
  refine dp_v rfl (v_idx i (congrArg some hrv) rfl sl34 rfl hi) (dr_v rfl (v_ld rfl ld3) ?_)
  refine dp_v rfl (v_idx j (congrArg some hrv) rfl sl34 rfl hj) (dr_eff rfl (st_sto rfl rfl sz3 (dr_nx ?_)))
  refine dr_nil (nx_kp [4] rfl (nx_then (cd_seq (cd_region (st_v (v_assign rfl) (st_nil (nx_then (cd_ret ?_))))))))
  rw [set_ints hj]
  refine xt_shut (E := 3) (l' := ints (r.set j r[i])) ho (by simp [ints]) (by repeat (first | exact Sel.here | apply Sel.there)) ?_
  refine xt_rt rfl ⟨L, μ, rv, rfl, I, rfl, rfl⟩ ?_
  unfold playSH memSH plR
  rw [List.length_set, Int.toNat_natCast]
  simp only [List.cons_append, List.nil_append]
  exact (by repeat (first | exact Sub.refl _ | exact Sub.nil _ | refine Sub.sel (by repeat (first | exact Sel.here | apply Sel.there)) ?_ | apply Sub.cons))
set_option maxHeartbeats 2000000 in
set_option maxRecDepth 100000 in
theorem pset_c (I : MI L μ S m) (h : AM.Good m ly ln lf φ A) (ha : oob a r = false) (hb : oob b r = false) : Ct Try.prog 123 #[.pointer (some ⟨pb, 0, none⟩), .agg #[.int .i64 k, .int .i64 a, .int .i64 b, .int .i64 c]] (playSH L μ S pb rv r en) (Acted L S pb en (AM.setA m r ⟨k, a, b, c⟩)) := by
  have hrf := refers_c (pb := pb) (rv := rv) (en := en) (k := c) (want := true) I h ha
  obtain ⟨j, rfl, hj, hrj⟩ := rdx_eq ha
  unfold playSH memSH plR at hrf
  unfold AM.setA
  dsimp only
  rw [hrj] at hrf ⊢
  unfold playSH memSH plR
  refine ct_of (n := 38) Try.func123 rfl rfl (len rfl) fun hr w0 => ?_
  refine cd_vecshape (v := rv) (E := 3) (sz := 1) (n := r.length) (l := ints r) (by repeat (first | exact Sel.here | apply Sel.there)) fun ra rcp hrv hra => ?_
  obtain ⟨rb, rfl⟩ := hra (by omega)
  have hrd : Rd (vec rv 3 1 r.length (ints r)) ⟨rb, j, none⟩ (.int .i64 r[j]) := rd_vec hrv (by simp [ints, hj])
  simp only [List.cons_append, List.nil_append] at hrf ⊢
  refine cd_seq (cd_region (st_bx rfl rfl fun b3 => ?_))
  refine st_v (v_assign rfl) (st_nil (nx_kp [0, 3, 4] rfl (nx_then (cd_seq (cd_seq (cd_region (st_v (v_move rfl) (st_v (v_fieldAddr rfl fa78_1 rfl) (st_v (v_ld rfl ld3) ?_)))))))))
  refine st_v (v_fieldAddr rfl fa78_3 rfl) (st_v (v_ld rfl ld3) ?_)
  refine st_clr rfl rfl en132 rfl (hrf) ?_
  refine st_v (v_assign rfl) (st_nil (nx_kp [0, 3, 4, 5] rfl (nx_then (cd_seq (cd_region (st_v (v_move rfl) (st_v (v_neq rfl rfl) (st_nil (nx_kp [0, 3, 4, 5, 13] rfl (nx_then (cd_cond rfl (fun hc => ?_) (fun hc => ?_))))))))))))
  · skip
    rw [if_pos (show m.kinded r[j] c true ≠ 0 by simpa using hc)]
    refine cd_seq (cd_region (st_v (v_move rfl) (st_v (v_assign rfl) (st_nil (nx_kp [0, 3, 4] rfl (nx_then (cd_ret (xt_ret_then (xt_rt rfl ⟨L, μ, rv, rfl, I, rfl, rfl⟩ ?_)))))))))
    unfold playSH memSH plR
    simp only [List.cons_append, List.nil_append]
    exact (by repeat (first | exact Sub.refl _ | exact Sub.nil _ | refine Sub.sel (by repeat (first | exact Sel.here | apply Sel.there)) ?_ | apply Sub.cons))
  · skip
    rw [if_neg (show ¬ m.kinded r[j] c true ≠ 0 by simpa using hc)]
    obtain ⟨i, rfl, hi, hri⟩ := rdx_eq hb
    rw [hri]
    have hrd2 : Rd (vec rv 3 1 r.length (ints r)) ⟨rb, i, none⟩ (.int .i64 r[i]) := rd_vec hrv (by simp [ints, hi])
    have hst := set_c I h r[j] c r[i]
    unfold memSH at hst
    refine cd_skip (xt_then (cd_seq (cd_drawh (ork [(0, 2), (1, 2), (2, 2), (3, 1), (4, 2), (5, 2), (6, 2), (7, 1), (8, 2), (9, 1), (10, 2), (11, 1), (12, 2), (13, 1), (14, 2), (15, 2), (16, 2), (17, 1), (18, 2), (19, 1), (20, 2), (21, 1), (22, 0), (23, 2)] .nil) (fun i => !(Nat.beq i 22)) mixed (by kernel_rfl) ?_)))
    refine dp_v rfl (v_move rfl) (dp_v rfl (v_nilCheck rfl) (dp_v rfl (v_fieldAddr rfl fa140_0 rfl) (dr_v rfl (v_ld rfl ld27) ?_)))
    refine dp_v rfl (v_move rfl) (dp_v rfl (v_nilCheck rfl) (dp_v rfl (v_fieldAddr rfl fa140_1 rfl) (dr_v rfl (v_ld rfl ld34) ?_)))
    refine dp_v rfl (v_fieldAddr rfl fa78_1 rfl) (dr_v rfl (v_ld rfl ld3) ?_)
    refine dp_v rfl (v_idx j (congrArg some hrv) rfl sl34 rfl hj) (dr_v rfl (v_ld rfl ld3) ?_)
    refine dp_v rfl (v_fieldAddr rfl fa78_3 rfl) (dr_v rfl (v_ld rfl ld3) ?_)
    refine dp_v rfl (v_move rfl) (dp_v rfl (v_nilCheck rfl) (dp_v rfl (v_fieldAddr rfl fa140_1 rfl) (dr_v rfl (v_ld rfl ld34) ?_)))
    refine dp_v rfl (v_fieldAddr rfl fa78_2 rfl) (dr_v rfl (v_ld rfl ld3) ?_)
    refine dp_v rfl (v_idx i (congrArg some hrv) rfl sl34 rfl hi) (dr_v rfl (v_ld rfl ld3) ?_)
    refine dr_eff rfl (st_cl rfl rfl en40 rfl (hst) ?_)
    rintro v' h' ⟨L', μ', rfl, I', hL, rfl⟩
    simp only [List.cons_append, List.nil_append]
    refine dr_nx ?_
    refine dp_v rfl (v_assign rfl) (dr_nil (nx_kp [4] rfl (nx_then (cd_ret (xt_rt rfl ⟨L', μ', rv, rfl, I', hL, rfl⟩ ?_)))))
    unfold playSH memSH plR
    rw [hL]
    simp only [List.cons_append, List.nil_append]
    exact (by repeat (first | exact Sub.refl _ | exact Sub.nil _ | refine Sub.sel (by repeat (first | exact Sel.here | apply Sel.there)) ?_ | apply Sub.cons))
set_option maxHeartbeats 2000000 in
set_option maxRecDepth 100000 in
theorem pput_c (I : MI L μ S m) (h : AM.Good m ly ln lf φ A) (ha : oob a r = false) (_ : True) : Ct Try.prog 124 #[.pointer (some ⟨pb, 0, none⟩), .agg #[.int .i64 k, .int .i64 a, .int .i64 b, .int .i64 c]] (playSH L μ S pb rv r en) (Acted L S pb en (AM.putA m r ⟨k, a, b, c⟩)) := by
  have hrf := refers_c (pb := pb) (rv := rv) (en := en) (k := c) (want := false) I h ha
  obtain ⟨j, rfl, hj, hrj⟩ := rdx_eq ha
  unfold playSH memSH plR at hrf
  unfold AM.putA
  dsimp only
  rw [hrj] at hrf ⊢
  unfold playSH memSH plR
  refine ct_of (n := 32) Try.func124 rfl rfl (len rfl) fun hr w0 => ?_
  refine cd_vecshape (v := rv) (E := 3) (sz := 1) (n := r.length) (l := ints r) (by repeat (first | exact Sel.here | apply Sel.there)) fun ra rcp hrv hra => ?_
  obtain ⟨rb, rfl⟩ := hra (by omega)
  have hrd : Rd (vec rv 3 1 r.length (ints r)) ⟨rb, j, none⟩ (.int .i64 r[j]) := rd_vec hrv (by simp [ints, hj])
  simp only [List.cons_append, List.nil_append] at hrf ⊢
  refine cd_seq (cd_region (st_bx rfl rfl fun b3 => ?_))
  refine st_v (v_assign rfl) (st_nil (nx_kp [0, 3, 4] rfl (nx_then (cd_seq (cd_seq (cd_region (st_v (v_move rfl) (st_v (v_fieldAddr rfl fa78_1 rfl) (st_v (v_ld rfl ld3) ?_)))))))))
  refine st_v (v_fieldAddr rfl fa78_3 rfl) (st_v (v_ld rfl ld3) ?_)
  refine st_clr rfl rfl en132 rfl (hrf) ?_
  refine st_v (v_assign rfl) (st_nil (nx_kp [0, 3, 4, 5] rfl (nx_then (cd_seq (cd_region (st_v (v_move rfl) (st_v (v_neq rfl rfl) (st_nil (nx_kp [0, 3, 4, 5, 13] rfl (nx_then (cd_cond rfl (fun hc => ?_) (fun hc => ?_))))))))))))
  · skip
    rw [if_pos (show m.kinded r[j] c false ≠ 0 by simpa using hc)]
    refine cd_seq (cd_region (st_v (v_move rfl) (st_v (v_assign rfl) (st_nil (nx_kp [0, 3, 4] rfl (nx_then (cd_ret (xt_ret_then (xt_rt rfl ⟨L, μ, rv, rfl, I, rfl, rfl⟩ ?_)))))))))
    unfold playSH memSH plR
    simp only [List.cons_append, List.nil_append]
    exact (by repeat (first | exact Sub.refl _ | exact Sub.nil _ | refine Sub.sel (by repeat (first | exact Sel.here | apply Sel.there)) ?_ | apply Sub.cons))
  · skip
    rw [if_neg (show ¬ m.kinded r[j] c false ≠ 0 by simpa using hc)]
    have hst := set_c I h r[j] c b
    unfold memSH at hst
    refine cd_skip (xt_then (cd_seq (cd_drawh (ork [(0, 2), (1, 2), (2, 2), (3, 1), (4, 2), (5, 2), (6, 2), (7, 1), (8, 2), (9, 1), (10, 2), (11, 1), (12, 2), (13, 1), (14, 2), (15, 1), (16, 0), (17, 2)] .nil) (fun i => !(Nat.beq i 16)) mixed (by kernel_rfl) ?_)))
    refine dp_v rfl (v_move rfl) (dp_v rfl (v_nilCheck rfl) (dp_v rfl (v_fieldAddr rfl fa140_0 rfl) (dr_v rfl (v_ld rfl ld27) ?_)))
    refine dp_v rfl (v_move rfl) (dp_v rfl (v_nilCheck rfl) (dp_v rfl (v_fieldAddr rfl fa140_1 rfl) (dr_v rfl (v_ld rfl ld34) ?_)))
    refine dp_v rfl (v_fieldAddr rfl fa78_1 rfl) (dr_v rfl (v_ld rfl ld3) ?_)
    refine dp_v rfl (v_idx j (congrArg some hrv) rfl sl34 rfl hj) (dr_v rfl (v_ld rfl ld3) ?_)
    refine dp_v rfl (v_fieldAddr rfl fa78_3 rfl) (dr_v rfl (v_ld rfl ld3) ?_)
    refine dp_v rfl (v_fieldAddr rfl fa78_2 rfl) (dr_v rfl (v_ld rfl ld3) ?_)
    refine dr_eff rfl (st_cl rfl rfl en40 rfl (hst) ?_)
    rintro v' h' ⟨L', μ', rfl, I', hL, rfl⟩
    simp only [List.cons_append, List.nil_append]
    refine dr_nx ?_
    refine dp_v rfl (v_assign rfl) (dr_nil (nx_kp [4] rfl (nx_then (cd_ret (xt_rt rfl ⟨L', μ', rv, rfl, I', hL, rfl⟩ ?_)))))
    unfold playSH memSH plR
    rw [hL]
    simp only [List.cons_append, List.nil_append]
    exact (by repeat (first | exact Sub.refl _ | exact Sub.nil _ | refine Sub.sel (by repeat (first | exact Sel.here | apply Sel.there)) ?_ | apply Sub.cons))
end
end Go.Proofs.Ytmhmpjgkkpbnnaa
namespace Go.Proofs.Ytmhmpjgkkpbnnaa
open Go.Ck Fx Go.Hm Go.Hm.AM
attribute [local irreducible] St Cd Xt Nx DrL LsW
section
variable {L : MemL} {μ : Mem} {S : Res} {m : AM} {ly ln lf : List Int} {φ : Int → Option Nat} {A : Store} {r : List Int} {rv : Value} {pb : Nat} {en : Bool} {k a b c : Int}
set_option maxHeartbeats 2000000 in
set_option maxRecDepth 100000 in
theorem pget_c (I : MI L μ S m) (h : AM.Good m ly ln lf φ A) (ha : oob a r = false) (hb : oob b r = false) : Ct Try.prog 122 #[.pointer (some ⟨pb, 0, none⟩), .agg #[.int .i64 k, .int .i64 a, .int .i64 b, .int .i64 c]] (playSH L μ S pb rv r en) (Acted L S pb en (AM.getA m r ⟨k, a, b, c⟩)) := by
  have hrf := refers_c (pb := pb) (rv := rv) (en := en) (k := c) (want := true) I h hb
  obtain ⟨j, rfl, hj, hrj⟩ := rdx_eq hb
  obtain ⟨i, rfl, hi, _⟩ := rdx_eq ha
  unfold playSH memSH plR at hrf
  unfold AM.getA
  dsimp only
  rw [hrj] at hrf ⊢
  unfold playSH memSH plR
  refine ct_of (n := 46) Try.func122 rfl rfl (len rfl) fun hr w0 => ?_
  refine cd_vecshape (v := rv) (E := 3) (sz := 1) (n := r.length) (l := ints r) (by repeat (first | exact Sel.here | apply Sel.there)) fun ra rcp hrv hra => ?_
  obtain ⟨rb, rfl⟩ := hra (by omega)
  have hrd : Rd (vec rv 3 1 r.length (ints r)) ⟨rb, j, none⟩ (.int .i64 r[j]) := rd_vec hrv (by simp [ints, hj])
  simp only [List.cons_append, List.nil_append] at hrf ⊢
  refine cd_seq (cd_region (st_bx rfl rfl fun b3 => ?_))
  refine st_v (v_assign rfl) (st_nil (nx_kp [0, 3, 4] rfl (nx_then (cd_seq (cd_seq (cd_region (st_v (v_move rfl) (st_v (v_fieldAddr rfl fa78_2 rfl) (st_v (v_ld rfl ld3) ?_)))))))))
  refine st_v (v_fieldAddr rfl fa78_3 rfl) (st_v (v_ld rfl ld3) ?_)
  refine st_clr rfl rfl en132 rfl (hrf) ?_
  refine st_v (v_assign rfl) (st_nil (nx_kp [0, 3, 4, 5] rfl (nx_then (cd_seq (cd_region (st_v (v_move rfl) (st_v (v_neq rfl rfl) (st_nil (nx_kp [0, 3, 4, 5, 15] rfl (nx_then (cd_cond rfl (fun hc => ?_) (fun hc => ?_))))))))))))
  · skip
    rw [if_pos (show m.kinded r[j] c true ≠ 0 by simpa using hc)]
    refine cd_seq (cd_region (st_v (v_move rfl) (st_v (v_assign rfl) (st_nil (nx_kp [0, 3, 4] rfl (nx_then (cd_ret (xt_ret_then (xt_rt rfl ⟨L, μ, rv, rfl, I, rfl, rfl⟩ ?_)))))))))
    unfold playSH memSH plR
    simp only [List.cons_append, List.nil_append]
    exact (by repeat (first | exact Sub.refl _ | exact Sub.nil _ | refine Sub.sel (by repeat (first | exact Sel.here | apply Sel.there)) ?_ | apply Sub.cons))
  · skip
    rw [if_neg (show ¬ m.kinded r[j] c true ≠ 0 by simpa using hc)]
    have hst := get_c I h r[j] c
    unfold memSH at hst
    refine cd_skip (xt_then (cd_seq (cd_drawh (ork [(0, 2), (1, 2), (2, 2), (3, 1), (4, 2), (5, 2), (6, 2), (7, 1), (8, 2), (9, 1), (10, 2), (11, 1), (12, 2), (13, 1), (14, 0), (15, 2), (16, 2), (17, 2), (18, 2), (19, 2)] .nil) (fun i => !(Nat.beq i 14)) mixed (by kernel_rfl) ?_)))
    refine dp_v rfl (v_move rfl) (dp_v rfl (v_nilCheck rfl) (dp_v rfl (v_fieldAddr rfl fa140_0 rfl) (dr_v rfl (v_ld rfl ld27) ?_)))
    refine dp_v rfl (v_move rfl) (dp_v rfl (v_nilCheck rfl) (dp_v rfl (v_fieldAddr rfl fa140_1 rfl) (dr_v rfl (v_ld rfl ld34) ?_)))
    refine dp_v rfl (v_fieldAddr rfl fa78_2 rfl) (dr_v rfl (v_ld rfl ld3) ?_)
    refine dp_v rfl (v_idx j (congrArg some hrv) rfl sl34 rfl hj) (dr_v rfl (v_ld rfl ld3) ?_)
    refine dp_v rfl (v_fieldAddr rfl fa78_3 rfl) (dr_v rfl (v_ld rfl ld3) ?_)
    refine dr_eff rfl (st_cl rfl rfl en41 rfl (hst) ?_)
    rintro v' h' ⟨μ', rfl, I', rfl⟩
    simp only [List.cons_append, List.nil_append]
    refine dr_nx ?_
    refine dp_v rfl (v_move rfl) (dp_v rfl (v_extract rfl rfl) (dp_v rfl (v_extract rfl rfl) (dp_v rfl (v_assign rfl) (dp_v rfl (v_assign rfl) (dr_nil (nx_kp [0, 3, 4, 6, 7] rfl (nx_then (cd_seq (cd_seq (cd_region (st_v (v_move rfl) (st_v (v_eql rfl rfl) (st_nil (nx_kp [0, 3, 4, 6, 7, 36] rfl (nx_then (cd_cond rfl (fun he => ?_) (fun he => ?_)))))))))))))))))
    · skip
      have he' : (m.get r[j] c).2.1 = 0 := by simpa using he
      rw [if_pos he']
      refine cd_row (v := rv) (n := r.length) (l := ints r) (by omega) (by repeat (first | exact Sel.here | apply Sel.there)) fun b3 cp3 j3 hrv3 ho => ?_
      have hlen : i < (ints r ++ j3).length := by rw [List.length_append, ints_length]; omega
      refine cd_drawh (ork [(0, 2), (1, 2), (2, 2), (3, 1), (4, 2), (5, 1), (6, 2), (7, 2), (8, 0)] .nil) (fun i => !(Nat.beq i 8)) mixed (by kernel_rfl) ?_
      refine dp_v rfl (v_move rfl) (dp_v rfl (v_nilCheck rfl) (dp_v rfl (v_fieldAddr rfl fa140_1 rfl) (dr_v rfl (v_ld rfl ld34) ?_)))
      refine dp_v rfl (v_fieldAddr rfl fa78_1 rfl) (dr_v rfl (v_ld rfl ld3) ?_)
      refine dp_v rfl (v_move rfl) (dp_v rfl (v_idx i (congrArg some hrv3) rfl sl34 rfl hi) (dr_eff rfl (st_sto rfl rfl sz3 (dr_nx ?_))))
      refine dr_nil (nx_kp [4, 7] rfl (nx_then (cd_seq (cd_region (st_v (v_move rfl) (st_v (v_assign rfl) (st_nil (nx_kp [4] rfl (nx_then (cd_ret ?_))))))))))
      rw [show (ints r ++ j3).set i (#[Value.int IntKind.i64 (m.get r[j] c).1, Value.int IntKind.i64 (m.get r[j] c).2.1][0]) = _ from set_ints hi]
      refine xt_shut (E := 3) (l' := ints (r.set i (m.get r[j] c).1)) ho (by simp [ints]) (by repeat (first | exact Sel.here | apply Sel.there)) ?_
      refine xt_rt rfl ⟨L, μ', rv, rfl, I', rfl, rfl⟩ ?_
      unfold playSH memSH plR
      rw [List.length_set, Int.toNat_natCast]
      simp only [List.cons_append, List.nil_append]
      exact (by repeat (first | exact Sub.refl _ | exact Sub.nil _ | refine Sub.sel (by repeat (first | exact Sel.here | apply Sel.there)) ?_ | apply Sub.cons))
    · skip
      have he' : ¬ (m.get r[j] c).2.1 = 0 := by simpa using he
      rw [if_neg he']
      refine cd_skip (xt_then (cd_seq (cd_region (st_v (v_move rfl) (st_v (v_assign rfl) (st_nil (nx_kp [4] rfl (nx_then (cd_ret (xt_rt rfl ⟨L, μ', rv, rfl, I', rfl, rfl⟩ ?_))))))))))
      unfold playSH memSH plR
      simp only [List.cons_append, List.nil_append]
      exact (by repeat (first | exact Sub.refl _ | exact Sub.nil _ | refine Sub.sel (by repeat (first | exact Sel.here | apply Sel.there)) ?_ | apply Sub.cons))
set_option maxHeartbeats 2000000 in
set_option maxRecDepth 100000 in
theorem pclear_c (I : MI L μ S m) (h : AM.Good m ly ln lf φ A) (hrl : r.length ≤ 1000000) : Ct Try.prog 127 #[.pointer (some ⟨pb, 0, none⟩), .agg #[.int .i64 k, .int .i64 a, .int .i64 b, .int .i64 c]] (playSH L μ S pb rv r en) (Acted L S pb en (AM.clr en m r)) := by
  unfold AM.clr
  unfold playSH memSH plR
  refine ct_of (n := 22) Try.func127 rfl rfl (len rfl) fun hr w0 => ?_
  refine cd_vecshape (v := rv) (E := 3) (sz := 1) (n := r.length) (l := ints r) (by repeat (first | exact Sel.here | apply Sel.there)) fun ra rcp hrv hra => ?_
  have hri : RowI (vec rv 3 1 r.length (ints r)) rv r := rowI_vec hrv hra rfl
  have hone : rv.oneCell' = true := by rw [hrv]; rfl
  have hm := minor_c I h hri hrl
  unfold memSH at hm
  simp only [List.cons_append, List.nil_append] at hm ⊢
  refine cd_seq (cd_region (st_bx rfl rfl fun b3 => ?_))
  refine st_v (v_assign rfl) (st_nil (nx_kp [0, 4] rfl (nx_then (cd_seq (cd_seq (cd_region (st_v (v_move rfl) (st_v (v_nilCheck rfl) (st_v (v_fieldAddr rfl fa140_2 rfl) (st_v (v_ld rfl ld4) ?_))))))))))
  refine st_nil (nx_kp [0, 4, 8] rfl (nx_then (cd_cond rfl (fun hc => ?_) (fun hc => ?_))))
  · skip
    subst hc
    refine cd_seq (cd_region (st_v (v_assign rfl) (st_nil (nx_kp [0, 4] rfl (nx_then (cd_ret (xt_ret_then (xt_rt rfl ⟨L, μ, rv, rfl, I, rfl, rfl⟩ ?_))))))))
    unfold playSH memSH plR
    simp only [List.cons_append, List.nil_append]
    exact (by repeat (first | exact Sub.refl _ | exact Sub.nil _ | refine Sub.sel (by repeat (first | exact Sel.here | apply Sel.there)) ?_ | apply Sub.cons))
  · skip
    have hc : en = false := by simpa using hc
    subst hc
    refine cd_skip (xt_then (cd_seq (cd_drawh (ork [(0, 2), (1, 2), (2, 2), (3, 2), (4, 1), (5, 2), (6, 2), (7, 2), (8, 1), (9, 0), (10, 2), (11, 2), (12, 0), (13, 2)] .nil) (fun i => !(Nat.beq i 9 || Nat.beq i 12)) mixed (by kernel_rfl) ?_)))
    refine dp_v rfl (v_move rfl) (dp_v rfl (v_move rfl) (dp_v rfl (v_nilCheck rfl) (dp_v rfl (v_fieldAddr rfl fa140_0 rfl) (dr_v rfl (v_ld rfl ld27) ?_))))
    refine dp_v rfl (v_move rfl) (dp_v rfl (v_nilCheck rfl) (dp_v rfl (v_fieldAddr rfl fa140_1 rfl) (dr_v rfl (v_ld rfl ld34) ?_)))
    refine dr_eff rfl (st_cl rfl rfl en34 rfl (hm) ?_)
    rintro v' h' ⟨sl, L', μ', rfl, I', hL, rfl⟩
    simp only [List.cons_append, List.nil_append]
    refine dr_nx ?_
    refine dp_v rfl (v_extract rfl rfl) (dp_v rfl (v_extract rfl rfl) ?_)
    have hk := keep_c (pb := pb) (mb := L.mb) (en := false) (rv := rv) (r := r) (l := (m.minor r).1) (sl := sl) (e := (m.minor r).2.1)
    unfold plR at hk
    refine dr_eff rfl (st_cl rfl rfl en133 rfl (hk) ?_)
    rintro v' h' ⟨rv', rfl, rfl⟩
    simp only [List.cons_append, List.nil_append]
    refine dr_nx ?_
    refine dp_v rfl (v_assign rfl) (dr_nil (nx_kp [4] rfl (nx_then (cd_ret (xt_rt rfl ⟨L', μ', rv', rfl, I', hL, rfl⟩ ?_)))))
    unfold playSH memSH plR
    rw [hL]
    simp only [List.cons_append, List.nil_append]
    exact (by repeat (first | exact Sub.refl _ | exact Sub.nil _ | refine Sub.sel (by repeat (first | exact Sel.here | apply Sel.there)) ?_ | apply Sub.cons))
set_option maxHeartbeats 2000000 in
set_option maxRecDepth 100000 in
theorem pflip_c (I : MI L μ S m) (h : AM.Good m ly ln lf φ A) (hrl : r.length ≤ 1000000) : Ct Try.prog 128 #[.pointer (some ⟨pb, 0, none⟩), .agg #[.int .i64 k, .int .i64 a, .int .i64 b, .int .i64 c]] (playSH L μ S pb rv r en) (Acted L S pb en (AM.flp en m r)) := by
  unfold AM.flp
  unfold playSH memSH plR
  refine ct_of (n := 22) Try.func128 rfl rfl (len rfl) fun hr w0 => ?_
  refine cd_vecshape (v := rv) (E := 3) (sz := 1) (n := r.length) (l := ints r) (by repeat (first | exact Sel.here | apply Sel.there)) fun ra rcp hrv hra => ?_
  have hri : RowI (vec rv 3 1 r.length (ints r)) rv r := rowI_vec hrv hra rfl
  have hone : rv.oneCell' = true := by rw [hrv]; rfl
  have hm := flip_c I h hri hrl
  unfold memSH at hm
  simp only [List.cons_append, List.nil_append] at hm ⊢
  refine cd_seq (cd_region (st_bx rfl rfl fun b3 => ?_))
  refine st_v (v_assign rfl) (st_nil (nx_kp [0, 4] rfl (nx_then (cd_seq (cd_seq (cd_region (st_v (v_move rfl) (st_v (v_nilCheck rfl) (st_v (v_fieldAddr rfl fa140_2 rfl) (st_v (v_ld rfl ld4) ?_))))))))))
  refine st_nil (nx_kp [0, 4, 8] rfl (nx_then (cd_cond rfl (fun hc => ?_) (fun hc => ?_))))
  · skip
    subst hc
    refine cd_seq (cd_region (st_v (v_assign rfl) (st_nil (nx_kp [0, 4] rfl (nx_then (cd_ret (xt_ret_then (xt_rt rfl ⟨L, μ, rv, rfl, I, rfl, rfl⟩ ?_))))))))
    unfold playSH memSH plR
    simp only [List.cons_append, List.nil_append]
    exact (by repeat (first | exact Sub.refl _ | exact Sub.nil _ | refine Sub.sel (by repeat (first | exact Sel.here | apply Sel.there)) ?_ | apply Sub.cons))
  · skip
    have hc : en = false := by simpa using hc
    subst hc
    refine cd_skip (xt_then (cd_seq (cd_drawh (ork [(0, 2), (1, 2), (2, 2), (3, 2), (4, 1), (5, 2), (6, 2), (7, 2), (8, 1), (9, 0), (10, 2), (11, 2), (12, 0), (13, 2)] .nil) (fun i => !(Nat.beq i 9 || Nat.beq i 12)) mixed (by kernel_rfl) ?_)))
    refine dp_v rfl (v_move rfl) (dp_v rfl (v_move rfl) (dp_v rfl (v_nilCheck rfl) (dp_v rfl (v_fieldAddr rfl fa140_0 rfl) (dr_v rfl (v_ld rfl ld27) ?_))))
    refine dp_v rfl (v_move rfl) (dp_v rfl (v_nilCheck rfl) (dp_v rfl (v_fieldAddr rfl fa140_1 rfl) (dr_v rfl (v_ld rfl ld34) ?_)))
    refine dr_eff rfl (st_cl rfl rfl en43 rfl (hm) ?_)
    rintro v' h' ⟨sl, L', μ', rfl, I', hL, rfl⟩
    simp only [List.cons_append, List.nil_append]
    refine dr_nx ?_
    refine dp_v rfl (v_extract rfl rfl) (dp_v rfl (v_extract rfl rfl) ?_)
    have hk := keep_c (pb := pb) (mb := L.mb) (en := false) (rv := rv) (r := r) (l := (m.flip r).1) (sl := sl) (e := (m.flip r).2.1)
    unfold plR at hk
    refine dr_eff rfl (st_cl rfl rfl en133 rfl (hk) ?_)
    rintro v' h' ⟨rv', rfl, rfl⟩
    simp only [List.cons_append, List.nil_append]
    refine dr_nx ?_
    refine dp_v rfl (v_assign rfl) (dr_nil (nx_kp [4] rfl (nx_then (cd_ret (xt_rt rfl ⟨L', μ', rv', rfl, I', hL, rfl⟩ ?_)))))
    unfold playSH memSH plR
    rw [hL]
    simp only [List.cons_append, List.nil_append]
    exact (by repeat (first | exact Sub.refl _ | exact Sub.nil _ | refine Sub.sel (by repeat (first | exact Sel.here | apply Sel.there)) ?_ | apply Sub.cons))
set_option maxHeartbeats 2000000 in
set_option maxRecDepth 100000 in
theorem plook_c (I : MI L μ S m) (h : AM.Good m ly ln lf φ A) (ha : I64 a) : Ct Try.prog 129 #[.pointer (some ⟨pb, 0, none⟩), .agg #[.int .i64 k, .int .i64 a, .int .i64 b, .int .i64 c]] (playSH L μ S pb rv r en) (Acted L S pb en (AM.lok en m r ⟨k, a, b, c⟩)) := by
  unfold AM.lok
  unfold playSH memSH plR
  refine ct_of (n := 22) Try.func129 rfl rfl (len rfl) fun hr w0 => ?_
  have hm := step_c I h a ha
  unfold memSH at hm
  simp only [List.cons_append, List.nil_append] at hm ⊢
  refine cd_seq (cd_region (st_bx rfl rfl fun b3 => ?_))
  refine st_v (v_assign rfl) (st_nil (nx_kp [0, 3, 4] rfl (nx_then (cd_seq (cd_seq (cd_region (st_v (v_move rfl) (st_v (v_nilCheck rfl) (st_v (v_fieldAddr rfl fa140_2 rfl) (st_v (v_ld rfl ld4) ?_))))))))))
  refine st_nil (nx_kp [0, 3, 4, 10] rfl (nx_then (cd_cond rfl (fun hc => ?_) (fun hc => ?_))))
  · skip
    subst hc
    refine cd_seq (cd_region (st_v (v_assign rfl) (st_nil (nx_kp [0, 3, 4] rfl (nx_then (cd_ret (xt_ret_then (xt_rt rfl ⟨L, μ, rv, rfl, I, rfl, rfl⟩ ?_))))))))
    unfold playSH memSH plR
    simp only [List.cons_append, List.nil_append]
    exact (by repeat (first | exact Sub.refl _ | exact Sub.nil _ | refine Sub.sel (by repeat (first | exact Sel.here | apply Sel.there)) ?_ | apply Sub.cons))
  · skip
    have hc : en = false := by simpa using hc
    subst hc
    refine cd_skip (xt_then (cd_seq (cd_drawh (ork [(0, 2), (1, 2), (2, 2), (3, 1), (4, 2), (5, 1), (6, 0), (7, 2), (8, 2), (9, 2), (10, 2), (11, 2)] .nil) (fun i => !(Nat.beq i 6)) mixed (by kernel_rfl) ?_)))
    refine dp_v rfl (v_move rfl) (dp_v rfl (v_nilCheck rfl) (dp_v rfl (v_fieldAddr rfl fa140_0 rfl) (dr_v rfl (v_ld rfl ld27) ?_)))
    refine dp_v rfl (v_fieldAddr rfl fa78_1 rfl) (dr_v rfl (v_ld rfl ld3) ?_)
    refine dr_eff rfl (st_cl rfl rfl en31 rfl (hm) ?_)
    rintro v' h' ⟨L', μ', rfl, I', hL, rfl⟩
    simp only [List.cons_append, List.nil_append]
    refine dr_nx ?_
    refine dp_v rfl (v_move rfl) (dp_v rfl (v_extract rfl rfl) (dp_v rfl (v_extract rfl rfl) (dp_v rfl (v_assign rfl) (dp_v rfl (v_assign rfl) (dr_nil (nx_kp [4, 6] rfl (nx_then (cd_seq (cd_region (st_v (v_move rfl) (st_v (v_assign rfl) (st_nil (nx_kp [4] rfl (nx_then (cd_ret (xt_rt rfl ⟨L', μ', rv, rfl, I', hL, rfl⟩ ?_))))))))))))))))
    unfold playSH memSH plR
    rw [hL]
    simp only [List.cons_append, List.nil_append]
    exact (by repeat (first | exact Sub.refl _ | exact Sub.nil _ | refine Sub.sel (by repeat (first | exact Sel.here | apply Sel.there)) ?_ | apply Sub.cons))
end
end Go.Proofs.Ytmhmpjgkkpbnnaa
namespace Go.Proofs.Ytmhmpjgkkpbnnaa
open Go.Ck Fx Go.Hm Go.Hm.AM
attribute [local irreducible] St Cd Xt Nx DrL LsW
section
variable {L : MemL} {μ : Mem} {S : Res} {m : AM} {ly ln lf : List Int} {φ : Int → Option Nat} {A : Store} {r : List Int} {rv : Value} {pb : Nat} {en : Bool} {k a b c : Int}
theorem clr_fine (h : AM.Good m ly ln lf φ A) (he : (AM.clr en m r).1 = 0) : (∃ ly ln lf φ A, AM.Good (AM.clr en m r).2.1 ly ln lf φ A) ∧ (AM.clr en m r).2.2.length = r.length ∧ (AM.clr en m r).2.1.sh = m.sh := by
  unfold AM.clr at he ⊢
  cases en
  · simp only [Bool.false_eq_true, if_false] at he ⊢
    have hm : m.minorErr r = 0 := by
      by_cases hq : m.minorErr r = 0
      · exact hq
      · rw [minor_no hq] at he; exact absurd he hq
    obtain ⟨ln', φ', g, ⟨hl, _⟩, hs, _⟩ := h.minor hm
    rw [if_pos he]
    exact ⟨⟨_, _, _, _, _, g⟩, hl, hs⟩
  · simp only [if_true]
    exact ⟨⟨_, _, _, _, _, h⟩, trivial, trivial⟩
set_option maxHeartbeats 4000000 in
set_option maxRecDepth 100000 in
theorem fresh_c (I : MI L μ S m) (h : AM.Good m ly ln lf φ A) (hrl : r.length ≤ 1000000) (ha : oob a r = false) : Ct Try.prog 121 #[.pointer (some ⟨pb, 0, none⟩), .agg #[.int .i64 k, .int .i64 a, .int .i64 b, .int .i64 c]] (playSH L μ S pb rv r en) (Acted L S pb en (AM.fresh en m r ⟨k, a, b, c⟩)) := by
  have hpc := pclear_c (pb := pb) (rv := rv) (en := en) (k := k) (a := a) (b := b) (c := c) I h hrl
  obtain ⟨i, rfl, hi, _⟩ := rdx_eq ha
  have oy := I.r.oky h.g
  have hl := I.r.shl h.g
  obtain ⟨a0, cp0, hv, hrow⟩ := id I.shp
  have hroom := room_ct (l := L.y) (s := μ.y) oy
  rw [I.r.y.us, I.r.y.ln] at hroom
  unfold playSH memSH plR at hpc
  unfold AM.fresh AM.tight
  dsimp only
  unfold playSH memSH plR
  refine ct_of (n := 100) Try.func121 rfl rfl (len rfl) fun hr w0 => ?_
  simp only [List.cons_append, List.nil_append] at hpc ⊢
  refine cd_seq (cd_region (st_bx rfl rfl fun b3 => ?_))
  refine st_v (v_assign rfl) (st_nil (nx_kp [0, 3, 4] rfl (nx_then (cd_seq (cd_seq (cd_drawh (ork [(0, 2), (1, 1), (2, 2), (3, 2), (4, 2), (5, 1), (6, 2), (7, 2), (8, 2), (9, 1), (10, 2), (11, 2), (12, 1), (13, 2), (14, 2), (15, 2)] .nil) (fun _ => true) mixed (by kernel_rfl) ?_))))))
  refine dp_v rfl (v_fieldAddr rfl fa78_2 rfl) (dr_v rfl (v_ld rfl ld3) ?_)
  refine dp_v rfl (v_lss rfl rfl) (dp_v rfl (v_move rfl) (dr_cut (k := 12) (d := 24) (v := .bool (decide (b < 0) || decide ((m.sh.length : Int) ≤ b))) (fun hcut => bool_want (b := decide (b < 0)) false (fun hg => ?_) (fun hg => ?_)) ?_))
  · refine dp_sk rfl rfl rfl hg ?_
    refine dr_sk rfl rfl rfl hg ?_
    refine dp_sk rfl rfl rfl hg ?_
    refine dp_sk rfl rfl rfl hg ?_
    refine dp_sk rfl rfl rfl hg ?_
    refine dr_sk rfl rfl rfl hg ?_
    refine dp_sk rfl rfl rfl hg ?_
    refine dp_sk rfl rfl rfl hg ?_
    refine dr_sk rfl rfl rfl hg ?_
    refine dp_sk rfl rfl rfl hg ?_
    refine dp_sk rfl rfl rfl hg ?_
    refine dp_v rfl (v_pick_true (bool_ev rfl hg) rfl) ?_
    exact hcut _ (ssub_head (by first | rfl | (rw [hg]; rfl) | simp_all) (ssub_skip rfl (ssub_skip rfl (ssub_skip rfl (ssub_skip rfl (ssub_skip rfl (ssub_skip rfl (ssub_skip rfl (ssub_skip rfl (ssub_skip rfl (ssub_skip rfl (ssub_skip rfl (ssub_refl)))))))))))))
  · skip
    refine dp_vg rfl rfl (bool_get rfl hg) (v_fieldAddr rfl fa78_2 rfl) (dr_vg rfl rfl (bool_get rfl hg) (v_ld rfl ld3) ?_)
    refine dp_vg rfl rfl (bool_get rfl hg) (v_move rfl) (dp_vg rfl rfl (bool_get rfl hg) (v_nilCheck rfl) (dp_vg rfl rfl (bool_get rfl hg) (v_fieldAddr rfl fa140_0 rfl) (dr_vg rfl rfl (bool_get rfl hg) (v_ld rfl ld27) ?_)))
    refine dp_vg rfl rfl (bool_get rfl hg) (v_nilCheck rfl) (dp_vg rfl rfl (bool_get rfl hg) (v_fieldAddr rfl fa100_0 rfl) (dr_vg rfl rfl (bool_get rfl hg) (v_ld rfl ld22) ?_))
    refine dp_vg rfl rfl (bool_get rfl hg) (v_len (congrArg some hv) Try.underlying22) (dp_vg rfl rfl (bool_get rfl hg) (v_geq rfl rfl) (dp_v rfl (v_pick_false (bool_ev rfl hg) rfl) ?_))
    exact hcut _ (ssub_head (by first | rfl | (rw [hg]; rfl) | simp_all) (ssub_skip rfl (ssub_skip rfl (ssub_skip rfl (ssub_skip rfl (ssub_skip rfl (ssub_skip rfl (ssub_skip rfl (ssub_skip rfl (ssub_skip rfl (ssub_skip rfl (ssub_skip rfl (ssub_refl)))))))))))))
  refine dr_nil (nx_kp [0, 3, 4, 24] rfl (nx_then (cd_cond rfl (fun hc => ?_) (fun hc => ?_))))
  · skip
    rw [if_pos hc]
    refine cd_seq (cd_region (st_v (v_assign rfl) (st_nil (nx_kp [0, 3, 4] rfl (nx_then (cd_ret (xt_ret_then (xt_rt rfl ⟨L, μ, rv, rfl, I, rfl, rfl⟩ ?_))))))))
    unfold playSH memSH plR
    simp only [List.cons_append, List.nil_append]
    exact (by repeat (first | exact Sub.refl _ | exact Sub.nil _ | refine Sub.sel (by repeat (first | exact Sel.here | apply Sel.there)) ?_ | apply Sub.cons))
  · skip
    rw [if_neg (by rw [hc]; simp)]
    simp only [Bool.or_eq_false_iff, decide_eq_false_iff_not, Int.not_lt, Int.not_le] at hc
    have hk : b.toNat < m.sh.length := by omega
    obtain ⟨b1, o1, cp1, u, hv', hu, a2, cp2, hu2, _⟩ := I.shp.row hk
    have hsz : m.sh[b.toNat].length ≤ 100 := by
      have := hl.at b
      rw [I.r.sh, show shAt m.sh b = m.sh[b.toNat] by unfold shAt; exact getD_lt hk] at this
      exact this
    have hg0 : m.sh.getD b.toNat [] = m.sh[b.toNat] := getD_lt hk
    have hY : (μ.y.ws.length : Int) = m.Y := I.r.y.ln
    refine cd_skip (xt_then (cd_seq (cd_drawh (ork [(0, 2), (1, 2), (2, 2), (3, 1), (4, 2), (5, 2), (6, 1), (7, 2), (8, 1), (9, 2), (10, 1), (11, 2), (12, 2), (13, 2)] .nil) (fun _ => true) mixed (by kernel_rfl) ?_)))
    refine dp_v rfl (v_move rfl) (dp_v rfl (v_nilCheck rfl) (dp_v rfl (v_fieldAddr rfl fa140_0 rfl) (dr_v rfl (v_ld rfl ld27) ?_)))
    refine dp_v rfl (v_nilCheck rfl) (dp_v rfl (v_fieldAddr rfl fa100_0 rfl) (dr_v rfl (v_ld rfl ld22) ?_))
    refine dp_v rfl (v_fieldAddr rfl fa78_2 rfl) (dr_v rfl (v_ld rfl ld3) ?_)
    refine dp_v rfl (v_ixo _ (congrArg some hv') rfl sl22 (Int.toNat_of_nonneg hc.1).symm hk) (dr_v rfl (v_ld rfl ld73) ?_)
    refine dp_v rfl (v_len (congrArg some hu2) Try.underlying73) (dp_v rfl (v_add rfl rfl (by unfold I64 at *; omega)) (dp_v rfl (v_assign rfl) (dr_nil (nx_kp [0, 3, 4, 5] rfl (nx_then (cd_seq (cd_seq (cd_region (st_v (v_move rfl) (st_v (v_nilCheck rfl) (st_v (v_fieldAddr rfl fa140_2 rfl) (st_v (v_ld rfl ld4) ?_))))))))))))
    refine st_v (v_not rfl) (st_v (v_move rfl) (st_cut (k := 19) (d := 56) (v := .bool (!en && decide (m.Y - (m.new - 1) < 1 + ((m.sh[b.toNat].length : Nat) : Int)))) (fun hcut => bool_want (b := !en) true (fun hg => ?_) (fun hg => ?_)) ?_))
    · refine st_sk rfl rfl hg ?_
      refine st_sk rfl rfl hg ?_
      refine st_sk rfl rfl hg ?_
      refine st_sk rfl rfl hg ?_
      refine st_sk rfl rfl hg ?_
      refine st_sk rfl rfl hg ?_
      refine st_sk rfl rfl hg ?_
      refine st_sk rfl rfl hg ?_
      refine st_sk rfl rfl hg ?_
      refine st_sk rfl rfl hg ?_
      refine st_sk rfl rfl hg ?_
      refine st_sk rfl rfl hg ?_
      refine st_v (v_pick_false (bool_ev rfl hg) rfl) ?_
      exact hcut _ (ssub_head (by first | rfl | (rw [hg]; rfl) | simp_all) (ssub_skip rfl (ssub_skip rfl (ssub_skip rfl (ssub_skip rfl (ssub_skip rfl (ssub_skip rfl (ssub_skip rfl (ssub_skip rfl (ssub_skip rfl (ssub_skip rfl (ssub_skip rfl (ssub_skip rfl (ssub_refl))))))))))))))
    · skip
      refine st_vg rfl (bool_get rfl hg) (v_move rfl) (st_vg rfl (bool_get rfl hg) (v_nilCheck rfl) (st_vg rfl (bool_get rfl hg) (v_fieldAddr rfl fa140_0 rfl) (st_vg rfl (bool_get rfl hg) (v_ld rfl ld27) ?_)))
      refine st_vg rfl (bool_get rfl hg) (v_nilCheck rfl) (st_vg rfl (bool_get rfl hg) (v_fieldAddr rfl fa100_1 rfl) (st_vg rfl (bool_get rfl hg) (v_ld rfl ld95) ?_))
      refine st_vg rfl (bool_get rfl hg) (v_nilCheck rfl) (st_vg rfl (bool_get rfl hg) (v_fieldAddr rfl fa117_0 rfl) (st_clrg rfl (bool_get rfl hg) rfl rfl en83 rfl (hroom) ?_))
      refine st_vg rfl (bool_get rfl hg) (v_move rfl) (st_vg rfl (bool_get rfl hg) (v_lss rfl rfl) (st_v (v_pick_true (bool_ev rfl hg) rfl) ?_))
      exact hcut _ (ssub_head (by first | rfl | (rw [hg]; rfl) | simp_all) (ssub_skip rfl (ssub_skip rfl (ssub_skip rfl (ssub_skip rfl (ssub_skip rfl (ssub_skip rfl (ssub_skip rfl (ssub_skip rfl (ssub_skip rfl (ssub_skip rfl (ssub_skip rfl (ssub_skip rfl (ssub_refl))))))))))))))
    refine st_v (v_move rfl) (st_cut (k := 35) (d := 72) (v := .bool ((!en && decide (m.Y - (m.new - 1) < 1 + ((m.sh[b.toNat].length : Nat) : Int))) && decide (1 + ((m.sh[b.toNat].length : Nat) : Int) ≤ (μ.y.ws.length : Int)))) (fun hcut => bool_want (b := (!en && decide (m.Y - (m.new - 1) < 1 + ((m.sh[b.toNat].length : Nat) : Int)))) true (fun hg => ?_) (fun hg => ?_)) ?_)
    · refine st_sk rfl rfl hg ?_
      refine st_sk rfl rfl hg ?_
      refine st_sk rfl rfl hg ?_
      refine st_sk rfl rfl hg ?_
      refine st_sk rfl rfl hg ?_
      refine st_sk rfl rfl hg ?_
      refine st_sk rfl rfl hg ?_
      refine st_sk rfl rfl hg ?_
      refine st_sk rfl rfl hg ?_
      refine st_sk rfl rfl hg ?_
      refine st_sk rfl rfl hg ?_
      refine st_sk rfl rfl hg ?_
      refine st_sk rfl rfl hg ?_
      refine st_sk rfl rfl hg ?_
      refine st_v (v_pick_false (bool_ev rfl hg) rfl) ?_
      exact hcut _ (ssub_head (by first | rfl | (rw [hg]; rfl) | simp_all) (ssub_skip rfl (ssub_skip rfl (ssub_skip rfl (ssub_skip rfl (ssub_skip rfl (ssub_skip rfl (ssub_skip rfl (ssub_skip rfl (ssub_skip rfl (ssub_skip rfl (ssub_skip rfl (ssub_skip rfl (ssub_skip rfl (ssub_skip rfl (ssub_refl))))))))))))))))
    · skip
      refine st_vg rfl (bool_get rfl hg) (v_move rfl) (st_vg rfl (bool_get rfl hg) (v_move rfl) (st_vg rfl (bool_get rfl hg) (v_nilCheck rfl) (st_vg rfl (bool_get rfl hg) (v_fieldAddr rfl fa140_0 rfl) (st_vg rfl (bool_get rfl hg) (v_ld rfl ld27) ?_))))
      refine st_vg rfl (bool_get rfl hg) (v_nilCheck rfl) (st_vg rfl (bool_get rfl hg) (v_fieldAddr rfl fa100_1 rfl) (st_vg rfl (bool_get rfl hg) (v_ld rfl ld95) ?_))
      refine st_vg rfl (bool_get rfl hg) (v_nilCheck rfl) (st_vg rfl (bool_get rfl hg) (v_fieldAddr rfl fa117_0 rfl) (st_vg rfl (bool_get rfl hg) (v_fieldAddr rfl fa115_0 rfl) (st_vg rfl (bool_get rfl hg) (v_ld rfl ld34) ?_)))
      refine st_vg rfl (bool_get rfl hg) (v_len rfl Try.underlying34) (st_vg rfl (bool_get rfl hg) (v_leq rfl rfl) (st_v (v_pick_true (bool_ev rfl hg) rfl) ?_))
      exact hcut _ (ssub_head (by first | rfl | (rw [hg]; rfl) | simp_all) (ssub_skip rfl (ssub_skip rfl (ssub_skip rfl (ssub_skip rfl (ssub_skip rfl (ssub_skip rfl (ssub_skip rfl (ssub_skip rfl (ssub_skip rfl (ssub_skip rfl (ssub_skip rfl (ssub_skip rfl (ssub_skip rfl (ssub_skip rfl (ssub_refl))))))))))))))))
    refine st_nil (nx_kp [0, 3, 4, 72] rfl (nx_then ?_))
    rw [hY]
    refine cd_cond rfl (fun hd => ?_) (fun hd => ?_)
    · skip
      rw [if_pos (show _ = true by rw [hg0]; exact hd)]
      refine cd_seq (cd_region (st_v (v_move rfl) (st_v (v_loadW rfl ld78 rfl (by repeat (first | exact Sel.here | apply Sel.there))) ?_)))
      refine st_cl rfl rfl en127 rfl (hpc) ?_
      rintro v' h' ⟨L1, μ1, rv1, rfl, I1, hL1, rfl⟩
      unfold playSH memSH plR
      simp only [List.cons_append, List.nil_append]
      refine st_v (v_assign rfl) (st_nil (nx_kp [0, 3, 4, 6] rfl (nx_then (cd_seq (cd_region (st_v (v_move rfl) (st_v (v_neq rfl rfl) (st_nil (nx_kp [0, 3, 4, 6, 77] rfl (nx_then (cd_cond rfl (fun hz => ?_) (fun hz => ?_))))))))))))
      · skip
        have hz' : (AM.clr en m r).1 ≠ 0 := by simpa using hz
        rw [if_pos hz']
        refine cd_seq (cd_region (st_v (v_move rfl) (st_v (v_assign rfl) (st_nil (nx_kp [0, 3, 4] rfl (nx_then (cd_ret (xt_ret_then (xt_rt rfl ⟨L1, μ1, rv1, rfl, I1, hL1, rfl⟩ ?_)))))))))
        unfold playSH memSH plR
        rw [hL1]
        simp only [List.cons_append, List.nil_append]
        exact (by repeat (first | exact Sub.refl _ | exact Sub.nil _ | refine Sub.sel (by repeat (first | exact Sel.here | apply Sel.there)) ?_ | apply Sub.cons))
      · skip
        have hz' : ¬ (AM.clr en m r).1 ≠ 0 := by simpa using hz
        rw [if_neg hz']
        refine cd_skip (xt_then (cd_seq (cd_drawh (ork [(0, 2), (1, 2), (2, 2), (3, 1), (4, 2), (5, 1), (6, 0), (7, 2), (8, 2), (9, 2), (10, 2), (11, 2)] .nil) (fun i => !(Nat.beq i 6)) mixed (by kernel_rfl) ?_)))
        refine dp_v rfl (v_move rfl) (dp_v rfl (v_nilCheck rfl) (dp_v rfl (v_fieldAddr rfl fa140_0 rfl) (dr_v rfl (v_ld rfl ld27) ?_)))
        refine dp_v rfl (v_fieldAddr rfl fa78_2 rfl) (dr_v rfl (v_ld rfl ld3) ?_)
        have hz0 : (AM.clr en m r).1 = 0 := by simpa using hz'
        obtain ⟨⟨ly1, ln1, lf1, φ1, A1, h1⟩, hlen1, hsh1⟩ := clr_fine h hz0
        have hi1 : i < (AM.clr en m r).2.2.length := by omega
        have hal := alloc_c I1 h1 b
        unfold memSH at hal
        simp only [List.cons_append, List.nil_append] at hal ⊢
        refine dr_eff rfl (st_cl rfl rfl en33 rfl (hal) ?_)
        rintro v' h' ⟨μ2, rfl, I2, rfl⟩
        simp only [List.cons_append, List.nil_append]
        refine dr_nx ?_
        refine dp_v rfl (v_move rfl) (dp_v rfl (v_extract rfl rfl) (dp_v rfl (v_extract rfl rfl) (dp_v rfl (v_assign rfl) (dp_v rfl (v_assign rfl) (dr_nil (nx_kp [0, 3, 4, 7, 8] rfl (nx_then (cd_seq (cd_seq (cd_region (st_v (v_move rfl) (st_v (v_eql rfl rfl) (st_nil (nx_kp [0, 3, 4, 7, 8, 90] rfl (nx_then (cd_cond rfl (fun he => ?_) (fun he => ?_)))))))))))))))))
        · skip
          have he' : ((AM.clr en m r).2.1.alloc b).2.1 = 0 := by simpa using he
          refine cd_row (v := rv1) (n := (AM.clr en m r).2.2.length) (l := ints (AM.clr en m r).2.2) (by omega) (by repeat (first | exact Sel.here | apply Sel.there)) fun b3 cp3 j3 hrv3 ho => ?_
          have hlen : i < (ints (AM.clr en m r).2.2 ++ j3).length := by rw [List.length_append, ints_length]; omega
          refine cd_drawh (ork [(0, 2), (1, 2), (2, 2), (3, 1), (4, 2), (5, 1), (6, 2), (7, 2), (8, 0)] .nil) (fun i => !(Nat.beq i 8)) mixed (by kernel_rfl) ?_
          refine dp_v rfl (v_move rfl) (dp_v rfl (v_nilCheck rfl) (dp_v rfl (v_fieldAddr rfl fa140_1 rfl) (dr_v rfl (v_ld rfl ld34) ?_)))
          refine dp_v rfl (v_fieldAddr rfl fa78_1 rfl) (dr_v rfl (v_ld rfl ld3) ?_)
          refine dp_v rfl (v_move rfl) (dp_v rfl (v_idx i (congrArg some hrv3) rfl sl34 rfl hi1) (dr_eff rfl (st_sto rfl rfl sz3 (dr_nx ?_))))
          refine dr_nil (nx_kp [4, 8] rfl (nx_then (cd_seq (cd_region (st_v (v_move rfl) (st_v (v_assign rfl) (st_nil (nx_kp [4] rfl (nx_then (cd_ret ?_))))))))))
          rw [show (ints (AM.clr en m r).2.2 ++ j3).set i (#[Value.int IntKind.i64 ((AM.clr en m r).2.1.alloc b).1, Value.int IntKind.i64 ((AM.clr en m r).2.1.alloc b).2.1][0]) = _ from set_ints hi1]
          refine xt_shut (E := 3) (l' := ints ((AM.clr en m r).2.2.set i ((AM.clr en m r).2.1.alloc b).1)) ho (by simp [ints]) (by repeat (first | exact Sel.here | apply Sel.there)) ?_
          have hna : (newAt (AM.clr en m r).2.1 (AM.clr en m r).2.2 ⟨k, (i : Int), b, c⟩).2.2 = ((AM.clr en m r).2.2).set i (((AM.clr en m r).2.1).alloc b).1 := by unfold newAt; dsimp only; rw [if_pos he']; rfl
          refine xt_rt rfl ⟨L1, μ2, rv1, rfl, I2, hL1, rfl⟩ ?_
          unfold playSH memSH plR
          rw [hna, hL1, List.length_set]
          simp only [List.cons_append, List.nil_append]
          exact (by repeat (first | exact Sub.refl _ | exact Sub.nil _ | refine Sub.sel (by repeat (first | exact Sel.here | apply Sel.there)) ?_ | apply Sub.cons))
        · skip
          have he' : ¬ ((AM.clr en m r).2.1.alloc b).2.1 = 0 := by simpa using he
          refine cd_skip (xt_then (cd_seq (cd_region (st_v (v_move rfl) (st_v (v_assign rfl) (st_nil (nx_kp [4] rfl (nx_then (cd_ret ?_)))))))))
          have hna : (newAt (AM.clr en m r).2.1 (AM.clr en m r).2.2 ⟨k, (i : Int), b, c⟩).2.2 = (AM.clr en m r).2.2 := by unfold newAt; dsimp only; rw [if_neg he']
          refine xt_rt rfl ⟨L1, μ2, rv1, rfl, I2, hL1, rfl⟩ ?_
          unfold playSH memSH plR
          rw [hna, hL1]
          simp only [List.cons_append, List.nil_append]
          exact (by repeat (first | exact Sub.refl _ | exact Sub.nil _ | refine Sub.sel (by repeat (first | exact Sel.here | apply Sel.there)) ?_ | apply Sub.cons))
    · skip
      rw [if_neg (show ¬ _ = true by rw [hg0, hd]; simp)]
      refine cd_skip (xt_then (cd_seq (cd_drawh (ork [(0, 2), (1, 2), (2, 2), (3, 1), (4, 2), (5, 1), (6, 0), (7, 2), (8, 2), (9, 2), (10, 2), (11, 2)] .nil) (fun i => !(Nat.beq i 6)) mixed (by kernel_rfl) ?_)))
      refine dp_v rfl (v_move rfl) (dp_v rfl (v_nilCheck rfl) (dp_v rfl (v_fieldAddr rfl fa140_0 rfl) (dr_v rfl (v_ld rfl ld27) ?_)))
      refine dp_v rfl (v_fieldAddr rfl fa78_2 rfl) (dr_v rfl (v_ld rfl ld3) ?_)
      have hal := alloc_c I h b
      unfold memSH at hal
      simp only [List.cons_append, List.nil_append] at hal ⊢
      refine dr_eff rfl (st_cl rfl rfl en33 rfl (hal) ?_)
      rintro v' h' ⟨μ2, rfl, I2, rfl⟩
      simp only [List.cons_append, List.nil_append]
      refine dr_nx ?_
      refine dp_v rfl (v_move rfl) (dp_v rfl (v_extract rfl rfl) (dp_v rfl (v_extract rfl rfl) (dp_v rfl (v_assign rfl) (dp_v rfl (v_assign rfl) (dr_nil (nx_kp [0, 3, 4, 7, 8] rfl (nx_then (cd_seq (cd_seq (cd_region (st_v (v_move rfl) (st_v (v_eql rfl rfl) (st_nil (nx_kp [0, 3, 4, 7, 8, 90] rfl (nx_then (cd_cond rfl (fun he => ?_) (fun he => ?_)))))))))))))))))
      · skip
        have he' : (m.alloc b).2.1 = 0 := by simpa using he
        refine cd_row (v := rv) (n := r.length) (l := ints r) (by omega) (by repeat (first | exact Sel.here | apply Sel.there)) fun b3 cp3 j3 hrv3 ho => ?_
        have hlen : i < (ints r ++ j3).length := by rw [List.length_append, ints_length]; omega
        refine cd_drawh (ork [(0, 2), (1, 2), (2, 2), (3, 1), (4, 2), (5, 1), (6, 2), (7, 2), (8, 0)] .nil) (fun i => !(Nat.beq i 8)) mixed (by kernel_rfl) ?_
        refine dp_v rfl (v_move rfl) (dp_v rfl (v_nilCheck rfl) (dp_v rfl (v_fieldAddr rfl fa140_1 rfl) (dr_v rfl (v_ld rfl ld34) ?_)))
        refine dp_v rfl (v_fieldAddr rfl fa78_1 rfl) (dr_v rfl (v_ld rfl ld3) ?_)
        refine dp_v rfl (v_move rfl) (dp_v rfl (v_idx i (congrArg some hrv3) rfl sl34 rfl hi) (dr_eff rfl (st_sto rfl rfl sz3 (dr_nx ?_))))
        refine dr_nil (nx_kp [4, 8] rfl (nx_then (cd_seq (cd_region (st_v (v_move rfl) (st_v (v_assign rfl) (st_nil (nx_kp [4] rfl (nx_then (cd_ret ?_))))))))))
        rw [show (ints r ++ j3).set i (#[Value.int IntKind.i64 (m.alloc b).1, Value.int IntKind.i64 (m.alloc b).2.1][0]) = _ from set_ints hi]
        refine xt_shut (E := 3) (l' := ints (r.set i (m.alloc b).1)) ho (by simp [ints]) (by repeat (first | exact Sel.here | apply Sel.there)) ?_
        have hna : (newAt m r ⟨k, (i : Int), b, c⟩).2.2 = (r).set i ((m).alloc b).1 := by unfold newAt; dsimp only; rw [if_pos he']; rfl
        refine xt_rt rfl ⟨L, μ2, rv, rfl, I2, (show L.mb = L.mb from rfl), rfl⟩ ?_
        unfold playSH memSH plR
        rw [hna, List.length_set]
        simp only [List.cons_append, List.nil_append]
        exact (by repeat (first | exact Sub.refl _ | exact Sub.nil _ | refine Sub.sel (by repeat (first | exact Sel.here | apply Sel.there)) ?_ | apply Sub.cons))
      · skip
        have he' : ¬ (m.alloc b).2.1 = 0 := by simpa using he
        refine cd_skip (xt_then (cd_seq (cd_region (st_v (v_move rfl) (st_v (v_assign rfl) (st_nil (nx_kp [4] rfl (nx_then (cd_ret ?_)))))))))
        have hna : (newAt m r ⟨k, (i : Int), b, c⟩).2.2 = r := by unfold newAt; dsimp only; rw [if_neg he']
        refine xt_rt rfl ⟨L, μ2, rv, rfl, I2, (show L.mb = L.mb from rfl), rfl⟩ ?_
        unfold playSH memSH plR
        rw [hna]
        simp only [List.cons_append, List.nil_append]
        exact (by repeat (first | exact Sub.refl _ | exact Sub.nil _ | refine Sub.sel (by repeat (first | exact Sel.here | apply Sel.there)) ?_ | apply Sub.cons))
end
end Go.Proofs.Ytmhmpjgkkpbnnaa
namespace Go.Ck
open Go Go.RowKit
section
variable {P : Program} {e : Env} {h : SH} {ty : TypeId}
theorem v_ixArrN {T E : TypeId} {x y : Operand} {b o n k s : Nat} {kd : IntKind} {i : Int} (hx : e.ev? x = some (.pointer (some ⟨b, o, none⟩))) (hy : e.ev? y = some (.int kd i)) (hT : P.underlying T = some (.array n E)) (hE : Sz P E s) (hi : i = (k : Int)) (hk : k < n) :
    Vop P e h (.indexAddr T x y) ty (.pointer (some ⟨b, o + k * s, none⟩)) :=
  ⟨by simp, by simp, fun ρ w d pos after g hρ _ => by
    subst hi
    have h0 : (0 : Int) ≤ k ∧ (k : Int) < n := by omega
    simp only [execOp, hρ x _ hx, hρ y _ hy, Instr.indexAt, Instr.sureAddr, Sem.run_bind, asIntOf, Sem.run_pure, Result.andThen_ok, run_underlying hT, if_pos h0, hE w, Int.toNat_natCast, Addr.add_lit]⟩
end
end Go.Ck
namespace Go.Proofs.Ytmhmpjgkkpbnnaa
open Go.Ck Fx Go.Hm Go.Hm.AM
attribute [local irreducible] St Cd Xt Nx DrL LsW
theorem ld172 : LdN Try.prog 172 30 := LdN.ofArr Try.underlying172 sz172
/-- A deed: its function, and whether it takes a root, and another. -/
def deed (f : Nat) (a b : Bool) : List Value := [.func (.func f) #[] #[], .bool a, .bool b]
def deedL : List Value := [.nilFunc, .bool false, .bool false] ++ deed 121 true false ++ deed 122 true true ++ deed 123 true true ++ deed 124 true false ++ deed 125 true false ++ deed 126 true true ++ deed 127 false false ++ deed 128 false false ++ deed 129 false false
set_option maxRecDepth 100000 in
theorem deeds_ct : Ct Try.prog 114 #[] [] fun u h' => u = .agg deedL.toArray ∧ h' = [] := by
  refine ct_of (n := 11) Try.func114 rfl rfl (len rfl) fun hr w0 => ?_
  refine cd_seq (cd_region (st_alc al172 fun b0 => ?_))
  refine st_nil (nx_then (cd_seq (cd_region (st_v (v_build (cells := deed 121 true false) rfl (fun _ => by kernel_rfl)) ?_))))
  refine st_v (v_build (cells := deed 122 true true) rfl (fun _ => by kernel_rfl)) ?_
  refine st_v (v_build (cells := deed 123 true true) rfl (fun _ => by kernel_rfl)) ?_
  refine st_v (v_build (cells := deed 124 true false) rfl (fun _ => by kernel_rfl)) ?_
  refine st_v (v_build (cells := deed 125 true false) rfl (fun _ => by kernel_rfl)) ?_
  refine st_v (v_build (cells := deed 126 true true) rfl (fun _ => by kernel_rfl)) ?_
  refine st_v (v_build (cells := deed 127 false false) rfl (fun _ => by kernel_rfl)) ?_
  refine st_v (v_build (cells := deed 128 false false) rfl (fun _ => by kernel_rfl)) ?_
  refine st_v (v_build (cells := deed 129 false false) rfl (fun _ => by kernel_rfl)) ?_
  refine st_v (v_build (cells := deedL) rfl (fun _ => by kernel_rfl)) ?_
  refine st_stoW rfl rfl sz172 rfl rfl ?_
  refine st_nil (nx_kp [0] rfl (nx_then (cd_ret ?_)))
  exact xt_retV (.cellN rfl ld172 rfl (by repeat (first | exact Sel.here | apply Sel.there)) .nil) ⟨rfl, rfl⟩ (by repeat (first | exact Sub.refl _ | exact Sub.nil _ | refine Sub.sel (by repeat (first | exact Sel.here | apply Sel.there)) ?_ | apply Sub.cons))
theorem deedL_at {j : Nat} (h1 : 1 ≤ j) (h9 : j ≤ 9) : deedL[3 * j]? = some (.func (.func (120 + j)) #[] #[]) ∧ deedL[3 * j + 1]? = some (.bool (rootA j)) ∧ deedL[3 * j + 2]? = some (.bool (rootB j)) := by
  have : ∀ j : Fin 10, 1 ≤ j.val → deedL[3 * j.val]? = some (.func (.func (120 + j.val)) #[] #[]) ∧ deedL[3 * j.val + 1]? = some (.bool (rootA (j.val : Nat))) ∧ deedL[3 * j.val + 2]? = some (.bool (rootB (j.val : Nat))) := by
    intro j hj
    match j with
    | ⟨0, _⟩ => simp at hj
    | ⟨1, _⟩ => exact ⟨rfl, rfl, rfl⟩
    | ⟨2, _⟩ => exact ⟨rfl, rfl, rfl⟩
    | ⟨3, _⟩ => exact ⟨rfl, rfl, rfl⟩
    | ⟨4, _⟩ => exact ⟨rfl, rfl, rfl⟩
    | ⟨5, _⟩ => exact ⟨rfl, rfl, rfl⟩
    | ⟨6, _⟩ => exact ⟨rfl, rfl, rfl⟩
    | ⟨7, _⟩ => exact ⟨rfl, rfl, rfl⟩
    | ⟨8, _⟩ => exact ⟨rfl, rfl, rfl⟩
    | ⟨9, _⟩ => exact ⟨rfl, rfl, rfl⟩
  exact this ⟨j, by omega⟩ h1
section
variable {L : MemL} {μ : Mem} {S : Res} {m : AM} {ly ln lf : List Int} {φ : Int → Option Nat} {A : Store} {r : List Int} {rv : Value} {pb : Nat} {en : Bool} {k a b c : Int}
theorem en_deed {j : Nat} (h1 : 1 ≤ j) (h9 : j ≤ 9) : Enters Try.prog (120 + j) := by
  have : j = 1 ∨ j = 2 ∨ j = 3 ∨ j = 4 ∨ j = 5 ∨ j = 6 ∨ j = 7 ∨ j = 8 ∨ j = 9 := by omega
  rcases this with rfl | rfl | rfl | rfl | rfl | rfl | rfl | rfl | rfl
  · exact en121
  · exact en122
  · exact en123
  · exact en124
  · exact en125
  · exact en126
  · exact en127
  · exact en128
  · exact en129
set_option maxRecDepth 100000 in
theorem deed_c (I : MI L μ S m) (h : AM.Good m ly ln lf φ A) (hrl : r.length ≤ 1000000) (ha64 : I64 a) {j : Nat} (h1 : 1 ≤ j) (h9 : j ≤ 9) (hk : k = j) (hac : ((rootA k && oob a r) || (rootB k && oob b r)) = false) :
    Ct Try.prog (120 + j) #[.pointer (some ⟨pb, 0, none⟩), .agg #[.int .i64 k, .int .i64 a, .int .i64 b, .int .i64 c]] (playSH L μ S pb rv r en) (Acted L S pb en (AM.act en m r ⟨k, a, b, c⟩)) := by
  unfold AM.act
  rw [if_neg (by simp; omega)]
  dsimp only
  rw [hac, if_neg (by simp)]
  subst hk
  simp only [Bool.or_eq_false_iff] at hac
  have : j = 1 ∨ j = 2 ∨ j = 3 ∨ j = 4 ∨ j = 5 ∨ j = 6 ∨ j = 7 ∨ j = 8 ∨ j = 9 := by omega
  rcases this with rfl | rfl | rfl | rfl | rfl | rfl | rfl | rfl | rfl
  · exact fresh_c I h hrl (by simpa [rootA] using hac.1)
  · exact pget_c I h (by simpa [rootA] using hac.1) (by simpa [rootB] using hac.2)
  · exact pset_c I h (by simpa [rootA] using hac.1) (by simpa [rootB] using hac.2)
  · exact pput_c I h (by simpa [rootA] using hac.1) trivial
  · exact drop_c I (by simpa [rootA] using hac.1)
  · exact copied_c I (by simpa [rootA] using hac.1) (by simpa [rootB] using hac.2)
  · exact pclear_c I h hrl
  · exact pflip_c I h hrl
  · exact plook_c I h ha64
set_option maxHeartbeats 2000000 in
set_option maxRecDepth 100000 in
theorem act_c (I : MI L μ S m) (h : AM.Good m ly ln lf φ A) (hrl : r.length ≤ 1000000) (ha64 : I64 a) : Ct Try.prog 79 #[.pointer (some ⟨pb, 0, none⟩), .agg #[.int .i64 k, .int .i64 a, .int .i64 b, .int .i64 c]] (playSH L μ S pb rv r en) (Acted L S pb en (AM.act en m r ⟨k, a, b, c⟩)) := by
  have hdc := fun {j : Nat} h1 h9 hk hac => deed_c (pb := pb) (rv := rv) (en := en) (k := k) (a := a) (b := b) (c := c) (j := j) I h hrl ha64 h1 h9 hk hac
  unfold playSH memSH plR at hdc
  unfold playSH memSH plR
  refine ct_of (n := 61) Try.func79 rfl rfl (len rfl) fun hr w0 => ?_
  refine cd_vecshape (v := rv) (E := 3) (sz := 1) (n := r.length) (l := ints r) (by repeat (first | exact Sel.here | apply Sel.there)) fun ra rcp hrv hra => ?_
  simp only [List.cons_append, List.nil_append] at hdc ⊢
  refine cd_seq (cd_region (st_bx rfl rfl fun b3 => ?_))
  refine st_v (v_assign rfl) (st_nil (nx_kp [0, 3, 4] rfl (nx_then (cd_seq (cd_region (st_cl rfl rfl en114 rfl (deeds_ct) ?_))))))
  rintro v' h' ⟨rfl, rfl⟩
  simp only [List.nil_append]
  refine st_alc al172 fun b5 => ?_
  refine st_stoW rfl rfl sz172 rfl rfl ?_
  refine st_nil (nx_kp [0, 3, 4, 5] rfl (nx_then (cd_seq (cd_seq (cd_region (st_v (v_fieldAddr rfl fa78_0 rfl) (st_v (v_ld rfl ld3) ?_)))))))
  refine st_v (v_lss rfl rfl) (st_v (v_move rfl) (st_cut (k := 8) (d := 15) (v := .bool (decide (k < 1) || decide (9 < k))) (fun hcut => bool_want (b := decide (k < 1)) false (fun hg => ?_) (fun hg => ?_)) ?_))
  · refine st_sk rfl rfl hg ?_
    refine st_sk rfl rfl hg ?_
    refine st_sk rfl rfl hg ?_
    refine st_v (v_pick_true (bool_ev rfl hg) rfl) ?_
    exact hcut _ (ssub_head (by first | rfl | (rw [hg]; rfl) | simp_all) (ssub_skip rfl (ssub_skip rfl (ssub_skip rfl (ssub_refl)))))
  · skip
    refine st_vg rfl (bool_get rfl hg) (v_fieldAddr rfl fa78_0 rfl) (st_vg rfl (bool_get rfl hg) (v_ld rfl ld3) ?_)
    refine st_vg rfl (bool_get rfl hg) (v_gtr rfl rfl) (st_v (v_pick_false (bool_ev rfl hg) rfl) ?_)
    exact hcut _ (ssub_head (by first | rfl | (rw [hg]; rfl) | simp_all) (ssub_skip rfl (ssub_skip rfl (ssub_skip rfl (ssub_refl)))))
  refine st_nil (nx_kp [0, 3, 4, 5, 15] rfl (nx_then (cd_cond rfl (fun hc => ?_) (fun hc => ?_))))
  · skip
    refine cd_seq (cd_region (st_v (v_assign rfl) (st_nil (nx_kp [0, 3, 4, 5] rfl (nx_then (cd_ret (xt_ret_then ?_)))))))
    rw [show AM.act en m r ⟨k, a, b, c⟩ = (1, m, r) by unfold AM.act; rw [if_pos hc]]
    refine xt_rt rfl ⟨L, μ, rv, rfl, I, rfl, rfl⟩ ?_
    unfold playSH memSH plR
    simp only [List.cons_append, List.nil_append]
    exact (by repeat (first | exact Sub.refl _ | exact Sub.nil _ | refine Sub.sel (by repeat (first | exact Sel.here | apply Sel.there)) ?_ | apply Sub.cons))
  · skip
    have hc0 := hc
    simp only [Bool.or_eq_false_iff, decide_eq_false_iff_not, Int.not_lt] at hc
    obtain ⟨j, hj⟩ : ∃ j : Nat, k = j := ⟨k.toNat, by omega⟩
    have h1 : 1 ≤ j := by omega
    have h9 : j ≤ 9 := by omega
    obtain ⟨q0, q1, q2⟩ := deedL_at h1 h9
    refine cd_skip (xt_then (cd_seq (cd_region (st_v (v_fieldAddr rfl fa78_0 rfl) (st_v (v_ld rfl ld3) ?_)))))
    have hq : ∀ i (hi : i < 3), deedL[0 + j * 3 + i]? = some (([.func (.func (120 + j)) #[] #[], .bool (rootA j), .bool (rootB j)] : List Value)[i]) := fun i hi => by
      match i, hi with
      | 0, _ => rw [show 0 + j * 3 + 0 = 3 * j by omega, q0]; rfl
      | 1, _ => rw [show 0 + j * 3 + 1 = 3 * j + 1 by omega, q1]; rfl
      | 2, _ => rw [show 0 + j * 3 + 2 = 3 * j + 2 by omega, q2]; rfl
    refine st_v (v_ixArrN (k := j) rfl rfl Try.underlying172 sz171 hj (by omega)) (st_v (v_loadR (vs := [.func (.func (120 + j)) #[] #[], .bool (rootA j), .bool (rootB j)]) rfl ld171 rfl (by repeat (first | exact Sel.here | apply Sel.there)) (fun i hi => rd_cl (hq i hi))) ?_)
    refine st_alc al171 fun b6 => ?_
    refine st_stoW rfl rfl sz171 rfl rfl ?_
    refine st_nil (nx_kp [0, 3, 4, 6] rfl (nx_then (cd_seq (cd_seq (cd_drawh (ork [(0, 2), (1, 1), (2, 2), (3, 2), (4, 1), (5, 2), (6, 2), (7, 2), (8, 1), (9, 2), (10, 2), (11, 2), (12, 1), (13, 2), (14, 2), (15, 2), (16, 2), (17, 2), (18, 2), (19, 1), (20, 2), (21, 2), (22, 1), (23, 2), (24, 2), (25, 2), (26, 1), (27, 2), (28, 2), (29, 2), (30, 1), (31, 2), (32, 2), (33, 2), (34, 2), (35, 2)] .nil) (fun _ => true) mixed (by kernel_rfl) ?_)))))
    refine dp_v rfl (v_fieldAddr rfl fa171_1 rfl) (dr_v rfl (v_ld rfl ld4) ?_)
    refine dp_v rfl (v_move rfl) (dr_cut (k := 14) (d := 36) (v := .bool (rootA j && (decide (a < 0) || decide ((r.length : Int) ≤ a)))) (fun hcut => bool_want (b := rootA j) true (fun hg => ?_) (fun hg => ?_)) ?_)
    · refine dp_sk rfl rfl rfl hg ?_
      refine dr_sk rfl rfl rfl hg ?_
      refine dp_sk rfl rfl rfl hg ?_
      refine dp_sk rfl rfl rfl hg ?_
      refine dp_sku rfl rfl rfl ?_
      refine dr_sku rfl rfl rfl ?_
      refine dp_sku rfl rfl rfl ?_
      refine dp_sku rfl rfl rfl ?_
      refine dp_sku rfl rfl rfl ?_
      refine dr_sku rfl rfl rfl ?_
      refine dp_sku rfl rfl rfl ?_
      refine dp_sku rfl rfl rfl ?_
      refine dp_sk rfl rfl rfl hg ?_
      refine dp_v rfl (v_pick_false (bool_ev rfl hg) rfl) ?_
      exact hcut _ (ssub_head (by first | rfl | (rw [hg]; rfl) | simp_all) (ssub_skip rfl (ssub_skip rfl (ssub_skip rfl (ssub_skip rfl (ssub_skip rfl (ssub_skip rfl (ssub_skip rfl (ssub_skip rfl (ssub_skip rfl (ssub_skip rfl (ssub_skip rfl (ssub_skip rfl (ssub_skip rfl (ssub_refl)))))))))))))))
    · skip
      refine dp_vg rfl rfl (bool_get rfl hg) (v_fieldAddr rfl fa78_1 rfl) (dr_vg rfl rfl (bool_get rfl hg) (v_ld rfl ld3) ?_)
      refine dp_vg rfl rfl (bool_get rfl hg) (v_lss rfl rfl) (dp_vg rfl rfl (bool_get rfl hg) (v_move rfl) (dr_cut (k := 9) (d := 35) (v := .bool (decide (a < 0) || decide ((r.length : Int) ≤ a))) (fun hcut => bool_want (b := decide (a < 0)) false (fun hg1 => ?_) (fun hg1 => ?_)) ?_))
      · refine dp_sk rfl rfl rfl hg1 ?_
        refine dr_sk rfl rfl rfl hg1 ?_
        refine dp_sk rfl rfl rfl hg1 ?_
        refine dp_sk rfl rfl rfl hg1 ?_
        refine dp_sk rfl rfl rfl hg1 ?_
        refine dr_sk rfl rfl rfl hg1 ?_
        refine dp_sk rfl rfl rfl hg1 ?_
        refine dp_sk rfl rfl rfl hg1 ?_
        refine dp_vg rfl rfl (bool_get rfl hg) (v_pick_true (bool_ev rfl hg1) rfl) ?_
        exact hcut _ (ssub_head (by first | rfl | (rw [hg1]; rfl) | simp_all) (ssub_skip rfl (ssub_skip rfl (ssub_skip rfl (ssub_skip rfl (ssub_skip rfl (ssub_skip rfl (ssub_skip rfl (ssub_skip rfl (ssub_refl))))))))))
      · skip
        refine dp_vg rfl rfl (bool_get rfl hg1) (v_fieldAddr rfl fa78_1 rfl) (dr_vg rfl rfl (bool_get rfl hg1) (v_ld rfl ld3) ?_)
        refine dp_vg rfl rfl (bool_get rfl hg1) (v_move rfl) (dp_vg rfl rfl (bool_get rfl hg1) (v_nilCheck rfl) (dp_vg rfl rfl (bool_get rfl hg1) (v_fieldAddr rfl fa140_1 rfl) (dr_vg rfl rfl (bool_get rfl hg1) (v_ld rfl ld34) ?_)))
        refine dp_vg rfl rfl (bool_get rfl hg1) (v_len (congrArg some hrv) Try.underlying34) (dp_vg rfl rfl (bool_get rfl hg1) (v_geq rfl rfl) (dp_vg rfl rfl (bool_get rfl hg) (v_pick_false (bool_ev rfl hg1) rfl) ?_))
        exact hcut _ (ssub_head (by first | rfl | (rw [hg1]; rfl) | simp_all) (ssub_skip rfl (ssub_skip rfl (ssub_skip rfl (ssub_skip rfl (ssub_skip rfl (ssub_skip rfl (ssub_skip rfl (ssub_skip rfl (ssub_refl))))))))))
      refine dp_v rfl (v_pick_true (bool_ev rfl hg) rfl) ?_
      exact hcut _ (ssub_head (by first | rfl | (rw [hg]; rfl) | simp_all) (by repeat (first | exact ssub_refl | refine ssub_skip rfl ?_)))
    refine dp_v rfl (v_move rfl) (dr_cut (k := 18) (d := 55) (v := .bool ((rootA j && (decide (a < 0) || decide ((r.length : Int) ≤ a))) || (rootB j && (decide (b < 0) || decide ((r.length : Int) ≤ b))))) (fun hcut => bool_want (b := (rootA j && (decide (a < 0) || decide ((r.length : Int) ≤ a)))) false (fun hg => ?_) (fun hg => ?_)) ?_)
    · refine dp_sk rfl rfl rfl hg ?_
      refine dr_sk rfl rfl rfl hg ?_
      refine dp_sk rfl rfl rfl hg ?_
      refine dp_sku rfl rfl rfl ?_
      refine dr_sku rfl rfl rfl ?_
      refine dp_sku rfl rfl rfl ?_
      refine dp_sku rfl rfl rfl ?_
      refine dp_sku rfl rfl rfl ?_
      refine dr_sku rfl rfl rfl ?_
      refine dp_sku rfl rfl rfl ?_
      refine dp_sku rfl rfl rfl ?_
      refine dp_sku rfl rfl rfl ?_
      refine dr_sku rfl rfl rfl ?_
      refine dp_sku rfl rfl rfl ?_
      refine dp_sku rfl rfl rfl ?_
      refine dp_sku rfl rfl rfl ?_
      refine dp_sk rfl rfl rfl hg ?_
      refine dp_v rfl (v_pick_true (bool_ev rfl hg) rfl) ?_
      exact hcut _ (ssub_head (by first | rfl | (rw [hg]; rfl) | simp_all) (ssub_skip rfl (ssub_skip rfl (ssub_skip rfl (ssub_skip rfl (ssub_skip rfl (ssub_skip rfl (ssub_skip rfl (ssub_skip rfl (ssub_skip rfl (ssub_skip rfl (ssub_skip rfl (ssub_skip rfl (ssub_skip rfl (ssub_skip rfl (ssub_skip rfl (ssub_skip rfl (ssub_skip rfl (ssub_refl)))))))))))))))))))
    · skip
      refine dp_vg rfl rfl (bool_get rfl hg) (v_fieldAddr rfl fa171_2 rfl) (dr_vg rfl rfl (bool_get rfl hg) (v_ld rfl ld4) ?_)
      refine dp_vg rfl rfl (bool_get rfl hg) (v_move rfl) (dr_cut (k := 14) (d := 54) (v := .bool (rootB j && (decide (b < 0) || decide ((r.length : Int) ≤ b)))) (fun hcut => bool_want (b := rootB j) true (fun hg1 => ?_) (fun hg1 => ?_)) ?_)
      · refine dp_sk rfl rfl rfl hg1 ?_
        refine dr_sk rfl rfl rfl hg1 ?_
        refine dp_sk rfl rfl rfl hg1 ?_
        refine dp_sk rfl rfl rfl hg1 ?_
        refine dp_sku rfl rfl rfl ?_
        refine dr_sku rfl rfl rfl ?_
        refine dp_sku rfl rfl rfl ?_
        refine dp_sku rfl rfl rfl ?_
        refine dp_sku rfl rfl rfl ?_
        refine dr_sku rfl rfl rfl ?_
        refine dp_sku rfl rfl rfl ?_
        refine dp_sku rfl rfl rfl ?_
        refine dp_sk rfl rfl rfl hg1 ?_
        refine dp_vg rfl rfl (bool_get rfl hg) (v_pick_false (bool_ev rfl hg1) rfl) ?_
        exact hcut _ (ssub_head (by first | rfl | (rw [hg1]; rfl) | simp_all) (ssub_skip rfl (ssub_skip rfl (ssub_skip rfl (ssub_skip rfl (ssub_skip rfl (ssub_skip rfl (ssub_skip rfl (ssub_skip rfl (ssub_skip rfl (ssub_skip rfl (ssub_skip rfl (ssub_skip rfl (ssub_skip rfl (ssub_refl)))))))))))))))
      · skip
        refine dp_vg rfl rfl (bool_get rfl hg1) (v_fieldAddr rfl fa78_2 rfl) (dr_vg rfl rfl (bool_get rfl hg1) (v_ld rfl ld3) ?_)
        refine dp_vg rfl rfl (bool_get rfl hg1) (v_lss rfl rfl) (dp_vg rfl rfl (bool_get rfl hg1) (v_move rfl) (dr_cut (k := 9) (d := 53) (v := .bool (decide (b < 0) || decide ((r.length : Int) ≤ b))) (fun hcut => bool_want (b := decide (b < 0)) false (fun hg2 => ?_) (fun hg2 => ?_)) ?_))
        · refine dp_sk rfl rfl rfl hg2 ?_
          refine dr_sk rfl rfl rfl hg2 ?_
          refine dp_sk rfl rfl rfl hg2 ?_
          refine dp_sk rfl rfl rfl hg2 ?_
          refine dp_sk rfl rfl rfl hg2 ?_
          refine dr_sk rfl rfl rfl hg2 ?_
          refine dp_sk rfl rfl rfl hg2 ?_
          refine dp_sk rfl rfl rfl hg2 ?_
          refine dp_vg rfl rfl (bool_get rfl hg1) (v_pick_true (bool_ev rfl hg2) rfl) ?_
          exact hcut _ (ssub_head (by first | rfl | (rw [hg2]; rfl) | simp_all) (ssub_skip rfl (ssub_skip rfl (ssub_skip rfl (ssub_skip rfl (ssub_skip rfl (ssub_skip rfl (ssub_skip rfl (ssub_skip rfl (ssub_refl))))))))))
        · skip
          refine dp_vg rfl rfl (bool_get rfl hg2) (v_fieldAddr rfl fa78_2 rfl) (dr_vg rfl rfl (bool_get rfl hg2) (v_ld rfl ld3) ?_)
          refine dp_vg rfl rfl (bool_get rfl hg2) (v_move rfl) (dp_vg rfl rfl (bool_get rfl hg2) (v_nilCheck rfl) (dp_vg rfl rfl (bool_get rfl hg2) (v_fieldAddr rfl fa140_1 rfl) (dr_vg rfl rfl (bool_get rfl hg2) (v_ld rfl ld34) ?_)))
          refine dp_vg rfl rfl (bool_get rfl hg2) (v_len (congrArg some hrv) Try.underlying34) (dp_vg rfl rfl (bool_get rfl hg2) (v_geq rfl rfl) (dp_vg rfl rfl (bool_get rfl hg1) (v_pick_false (bool_ev rfl hg2) rfl) ?_))
          exact hcut _ (ssub_head (by first | rfl | (rw [hg2]; rfl) | simp_all) (ssub_skip rfl (ssub_skip rfl (ssub_skip rfl (ssub_skip rfl (ssub_skip rfl (ssub_skip rfl (ssub_skip rfl (ssub_skip rfl (ssub_refl))))))))))
        refine dp_vg rfl rfl (bool_get rfl hg) (v_pick_true (bool_ev rfl hg1) rfl) ?_
        exact hcut _ (ssub_head (by first | rfl | (rw [hg1]; rfl) | simp_all) (by repeat (first | exact ssub_refl | refine ssub_skip rfl ?_)))
      refine dp_v rfl (v_pick_false (bool_ev rfl hg) rfl) ?_
      exact hcut _ (ssub_head (by first | rfl | (rw [hg]; rfl) | simp_all) (by repeat (first | exact ssub_refl | refine ssub_skip rfl ?_)))
    refine dr_nil (nx_kp [0, 3, 4, 6, 55] rfl (nx_then (cd_cond rfl (fun hd => ?_) (fun hd => ?_))))
    · skip
      have hd' : ((rootA k && oob a r) || (rootB k && oob b r)) = true := by rw [hj]; exact hd
      refine cd_seq (cd_region (st_v (v_assign rfl) (st_nil (nx_kp [0, 3, 4, 6] rfl (nx_then (cd_ret (xt_ret_then ?_)))))))
      rw [show AM.act en m r ⟨k, a, b, c⟩ = (1, m, r) by unfold AM.act; rw [if_neg (by rw [hc0]; simp)]; dsimp only; rw [if_pos hd']]
      refine xt_rt rfl ⟨L, μ, rv, rfl, I, rfl, rfl⟩ ?_
      unfold playSH memSH plR
      simp only [List.cons_append, List.nil_append]
      exact (by repeat (first | exact Sub.refl _ | exact Sub.nil _ | refine Sub.sel (by repeat (first | exact Sel.here | apply Sel.there)) ?_ | apply Sub.cons))
    · skip
      have hd' : ((rootA k && oob a r) || (rootB k && oob b r)) = false := by rw [hj]; exact hd
      refine cd_skip (xt_then (cd_seq (cd_region (st_v (v_fieldAddr rfl fa171_0 rfl) (st_v (v_ld rfl ld169) ?_)))))
      refine st_v (v_move rfl) (st_v (v_loadW rfl ld78 rfl (by repeat (first | exact Sel.here | apply Sel.there))) ?_)
      have hen := en_deed h1 h9
      refine st_cl rfl rfl hen rfl (hdc h1 h9 hj hd') ?_
      rintro v' h' ⟨L1, μ1, rv1, rfl, I1, hL1, rfl⟩
      refine st_v (v_assign rfl) (st_nil (nx_kp [4] rfl (nx_then (cd_ret (xt_rt rfl ⟨L1, μ1, rv1, rfl, I1, hL1, rfl⟩ ?_)))))
      unfold playSH memSH plR
      simp only [List.cons_append, List.nil_append]
      exact (by repeat (first | exact Sub.refl _ | exact Sub.nil _ | refine Sub.sel (by repeat (first | exact Sel.here | apply Sel.there)) ?_ | apply Sub.cons))
end
end Go.Proofs.Ytmhmpjgkkpbnnaa
namespace Go.Hm.AM
theorem clr_len {en : Bool} {m : AM} {r : List Int} : (clr en m r).2.2.length = r.length := by
  unfold clr
  split
  · rfl
  · simp only
    split
    · rename_i h
      unfold AM.minor at h ⊢
      split
      · rename_i h1; rw [if_pos h1] at h; exact absurd h h1
      · exact fwdL_len true r m
    · rfl
theorem flp_len {en : Bool} {m : AM} {r : List Int} : (flp en m r).2.2.length = r.length := by
  unfold flp
  split
  · rfl
  · simp only
    split
    · rename_i h
      unfold AM.flip at h ⊢
      split
      · rename_i h1; rw [if_pos h1] at h; simp at h
      · rename_i h1
        rw [if_neg h1] at h
        simp only at h ⊢
        split
        · rename_i h2; rw [if_pos h2] at h; exact absurd h h2
        · rw [fwdL_len]
          rename_i h2
          unfold AM.minor at h2 ⊢
          split
          · rename_i h3; rw [if_pos h3] at h2; exact absurd h3 h2
          · exact fwdL_len true r m
    · rfl
theorem newAt_len {m : AM} {r : List Int} {x : Act} : (newAt m r x).2.2.length = r.length := by
  unfold newAt; simp only; split
  · exact List.length_set
  · rfl
theorem act_len (en : Bool) (m : AM) (r : List Int) (x : Act) : (act en m r x).2.2.length = r.length := by
  unfold act
  split; rfl
  split; rfl
  split
  · unfold fresh
    split; rfl
    split
    · split
      · exact clr_len
      · exact newAt_len.trans clr_len
    · exact newAt_len
  split
  · unfold getA
    split; rfl
    simp only; split
    · exact List.length_set
    · rfl
  split
  · unfold setA; split <;> rfl
  split
  · unfold putA; split <;> rfl
  split; exact List.length_set
  split; exact List.length_set
  split; exact clr_len
  split; exact flp_len
  unfold lok; split <;> rfl
theorem acts_len (en : Bool) : ∀ (l : List Act) (m : AM) (r : List Int), (acts en l m r).2.2.length = r.length
  | [], _, _ => rfl
  | x :: t, m, r => (acts_len en t _ _).trans (act_len en m r x)
theorem acts_errs (en : Bool) : ∀ (l : List Act) (m : AM) (r : List Int), (acts en l m r).1.length = l.length
  | [], _, _ => rfl
  | x :: t, m, r => congrArg (· + 1) (acts_errs en t _ _)
end Go.Hm.AM
namespace Go.Proofs.Ytmhmpjgkkpbnnaa
open Go.Ck Fx Go.Hm Go.Hm.AM
theorem Fine.clr {m : AM} (h : Fine m) (en : Bool) (r : List Int) : Fine (clr en m r).2.1 := by
  unfold AM.clr; split
  · exact h
  · exact h.minor r
theorem Fine.newAt {m : AM} (h : Fine m) (r : List Int) (x : Go.Hm.Act) : Fine (newAt m r x).2.1 := h.alloc x.b
theorem Fine.act {m : AM} (h : Fine m) (en : Bool) (r : List Int) (x : Go.Hm.Act) : Fine (AM.act en m r x).2.1 := by
  unfold AM.act
  split; exact h
  split; exact h
  split
  · unfold AM.fresh
    split; exact h
    split
    · split
      · exact h.clr en r
      · exact (h.clr en r).newAt _ x
    · exact h.newAt r x
  split
  · unfold AM.getA; split
    · exact h
    · exact h.get _ _
  split
  · unfold AM.setA; split
    · exact h
    · exact h.set _ _ _
  split
  · unfold AM.putA; split
    · exact h
    · exact h.set _ _ _
  split; exact h
  split; exact h
  split; exact h.clr en r
  split
  · unfold AM.flp; split
    · exact h
    · exact h.flip r
  unfold AM.lok; split
  · exact h
  · exact h.step x.a
theorem Fine.acts (en : Bool) : ∀ (l : List Go.Hm.Act) {m : AM}, Fine m → (r : List Int) → Fine (AM.acts en l m r).2.1
  | [], _, h, _ => h
  | x :: t, _, h, r => Fine.acts en t (h.act en r x) _
attribute [local irreducible] St Cd Xt Nx DrL LsW
section
variable {R : Res} {v0 v4 : Value} {sh : List (List Bool)} {xs : List Go.Hm.Act} {half young n : Int}
/-- v is a list of acts, which r holds. -/
def ActsV (r : Res) (v : Value) (xs : List Go.Hm.Act) : Prop := ∃ a cp, v = .slice a xs.length cp ∧ (xs = [] ∨ ∃ b o, a = some ⟨b, o, none⟩ ∧ ∀ i (h : i < xs.length), Rds r b (o + i * 4) [.int .i64 xs[i].k, .int .i64 xs[i].a, .int .i64 xs[i].b, .int .i64 xs[i].c])
theorem ActsV.at {r : Res} {v : Value} {xs : List Go.Hm.Act} (h : ActsV r v xs) {i : Nat} (hi : i < xs.length) : ∃ b o cp, v = .slice (some ⟨b, o, none⟩) xs.length cp ∧ Rds r b (o + i * 4) [.int .i64 xs[i].k, .int .i64 xs[i].a, .int .i64 xs[i].b, .int .i64 xs[i].c] := by
  obtain ⟨a, cp, hv, hn⟩ := h
  rcases hn with e | ⟨b, o, ha, hr⟩
  · rw [e] at hi; simp at hi
  exact ⟨b, o, cp, by rw [hv, ha], hr i hi⟩
def playedErr (n : Int) (xs : List Go.Hm.Act) : Int := if decide (200 < n) || decide (2000 < (xs.length : Int)) then 3 else if n < 0 then 1 else 0
set_option maxRecDepth 100000 in
theorem played_ct (h : ActsV R v4 xs) : Reads Try.prog 78 #[.int .i64 n, v4] [R] (.int .i64 (playedErr n xs)) := by
  obtain ⟨a, cp, hv, _⟩ := id h
  unfold playedErr
  refine ct_of (n := 14) Try.func78 rfl rfl (len rfl) fun hr w0 => ?_
  refine cd_seq (cd_region (st_v (v_assign rfl) (st_nil (nx_then (cd_seq (cd_block (cd_seq (cd_seq (cd_region (st_v (v_move rfl) (st_v (v_gtr rfl rfl) (st_v (v_assign rfl) (st_nil (nx_kp [0, 1, 4, 5] rfl (nx_then (cd_cond rfl (fun hA => ?_) (fun hA => ?_)))))))))))))))))
  · skip
    rw [hA, Bool.true_or, if_pos rfl]
    refine cd_skip (xt_then (cd_true rfl ?_))
    refine cd_seq (cd_region (st_v (v_assign rfl) (st_nil (nx_kp [4] rfl (nx_then (cd_ret (xt_ret_block (xt_ret_then ?_))))))))
    exact xt_rt rfl ⟨rfl, rfl⟩
  · skip
    rw [hA, Bool.false_or]
    refine cd_region (st_v (v_move rfl) (st_v (v_len (congrArg some hv) Try.underlying62) (st_v (v_gtr rfl rfl) (st_v (v_assign rfl) (st_nil (nx_kp [0, 4, 5] rfl (nx_then (cd_cond rfl (fun hB => ?_) (fun hB => ?_)))))))))
    · skip
      rw [if_pos hB]
      refine cd_seq (cd_region (st_v (v_assign rfl) (st_nil (nx_kp [4] rfl (nx_then (cd_ret (xt_ret_block (xt_ret_then ?_))))))))
      exact xt_rt rfl ⟨rfl, rfl⟩
    · skip
      rw [if_neg (by rw [hB]; simp)]
      refine cd_seq (cd_region (st_v (v_move rfl) (st_v (v_lss rfl rfl) (st_v (v_assign rfl) (st_nil (nx_kp [4, 11] rfl (nx_then (cd_cond rfl (fun hC => ?_) (fun hC => ?_)))))))))
      · skip
        rw [if_pos (of_decide_eq_true hC)]
        refine cd_seq (cd_region (st_v (v_assign rfl) (st_nil (nx_kp [4] rfl (nx_then (cd_ret (xt_ret_block (xt_ret_then ?_))))))))
        exact xt_rt rfl ⟨rfl, rfl⟩
      · skip
        rw [if_neg (of_decide_eq_false hC)]
        refine cd_skip (xt_normal_block (xt_then (cd_seq (cd_region (st_v (v_assign rfl) (st_nil (nx_kp [4] rfl (nx_then (cd_ret ?_)))))))))
        exact xt_rt rfl ⟨rfl, rfl⟩
end
end Go.Proofs.Ytmhmpjgkkpbnnaa
namespace Go.Proofs.Ytmhmpjgkkpbnnaa
open Go Go.RowKit Go.ChangeShapes Go.WideShapes Go.Ck
def actTy : Ty := .struct [.int .i64, .int .i64, .int .i64, .int .i64]
def actOf (x : actTy.D) : Go.Hm.Act := ⟨x.1, x.2.1, x.2.2.1, x.2.2.2.1⟩
theorem acts_of {r : Res} {v : Value} {y : (Ty.slice actTy).D} (h : Rep r (.slice actTy) [v] y) : ActsV r v ((show List actTy.D from y).map actOf) ∧ ∀ x ∈ (show List actTy.D from y).map actOf, I64 x.a := by
  unfold Rep at h
  obtain ⟨a, cap, h1, hl, hm, _, h2⟩ := h
  have one : ∀ (us : List Value) (x : actTy.D), Rep r actTy us x → us = [.int .i64 (actOf x).k, .int .i64 (actOf x).a, .int .i64 (actOf x).b, .int .i64 (actOf x).c] ∧ I64 (actOf x).a := fun us x hx => by
    obtain ⟨x1, x2, x3, x4, x5⟩ := x
    simp only [actTy, Rep, Reps] at hx
    obtain ⟨u1, us1, e1, l1, r1, u2, us2, e2, l2, r2, u3, us3, e3, l3, r3, u4, us4, e4, l4, r4, r5⟩ := hx
    obtain ⟨rfl, _⟩ := r1
    obtain ⟨rfl, w2⟩ := r2
    obtain ⟨rfl, _⟩ := r3
    obtain ⟨rfl, _⟩ := r4
    subst r5 e4 e3 e2
    exact ⟨by rw [e1]; rfl, wf_I64' w2⟩
  refine ⟨⟨a, cap, by rw [List.length_map]; exact (List.cons.inj h1).1, h2.imp (fun e => by rw [show (show List actTy.D from y) = [] from e]; rfl) ?_⟩, fun x hx => ?_⟩
  · rintro ⟨b, o, h3, h4⟩
    refine ⟨b, o, h3, fun i hi => ?_⟩
    have hi' : i < (show List actTy.D from y).length := by rw [List.length_map] at hi; exact hi
    obtain ⟨us, h5, h6, h7⟩ := h4 i _ (List.getElem?_eq_getElem hi')
    obtain ⟨h8, _⟩ := one us _ h7
    rw [List.getElem_map, ← h8]
    exact h6
  · obtain ⟨z, hz, rfl⟩ := List.mem_map.1 hx
    rcases h2 with h0 | ⟨b, o, h3, h4⟩
    · rw [show (show List actTy.D from y) = [] from h0] at hz; cases hz
    · obtain ⟨i, hi, rfl⟩ := List.getElem_of_mem hz
      obtain ⟨us, h5, h6, h7⟩ := h4 i _ (List.getElem?_eq_getElem hi)
      exact (one us _ h7).2
end Go.Proofs.Ytmhmpjgkkpbnnaa
namespace Go.Ck
open Go
section
variable {P : Program} {e : Env} {h h' : SH} {ty : TypeId}
theorem v_neq_self {t t' : TypeId} {x y : Operand} {k : IntKind} {a : Int} (hx : e.ev? x = some (.int k a)) (hy : e.ev? y = some (.int k a)) : Vop P e h (.binOp .neq t x y t') ty (.bool false) := by
  have := v_neq (P := P) (h := h) (ty := ty) (t := t) (t' := t') hx hy
  rwa [bne_self_eq_false] at this
theorem v_neqb_self {T t' : TypeId} {x y : Operand} {a : Bool} (hT : P.underlying T = some .bool) (hx : e.ev? x = some (.bool a)) (hy : e.ev? y = some (.bool a)) : Vop P e h (.binOp .neq T x y t') ty (.bool false) := by
  have := v_neq_bool (P := P) (h := h) (ty := ty) (t' := t') hT hx hy
  rwa [beq_self_eq_true] at this
theorem v_neqi_self {T t' : TypeId} {x y : Operand} {n : Nat} {xs : List Int} (hE : EqI P T n) (hx : e.ev? x = some (.agg (ints xs).toArray)) (hy : e.ev? y = some (.agg (ints xs).toArray)) (hxn : xs.length = n) : Vop P e h (.binOp .neq T x y t') ty (.bool false) := by
  have := v_neq_ints (P := P) (h := h) (ty := ty) (t' := t') hE hx hy hxn hxn
  rwa [beq_self_eq_true] at this
theorem rds_pre {b : Nat} {vs ws : List Value} {E : TypeId} : Rds (pt b (cl (vs ++ ws) E)) b 0 vs := fun i hi => rd_cl (by rw [Nat.zero_add, List.getElem?_append_left hi, List.getElem?_eq_getElem hi])
end
section
variable {c : Cx} {x : Code} {ex : Exit} {Q : Exit → Act → World → Prop} {e : Env} {h h' k : SH}
theorem xt_unstar (s : Sel h (Res.star k) h') (hx : Xt c ex Q e (k ++ h')) : Xt c ex Q e h := fun a w hk hh hw => hx a w hk (star_iff.1 (hh.sel s)) hw
theorem cd_unstar (s : Sel h (Res.star k) h') (hx : Cd c x Q e (k ++ h')) : Cd c x Q e h := fun a w hk hh hw => hx a w hk (star_iff.1 (hh.sel s)) hw
end
end Go.Ck
namespace Go.Proofs.Ytmhmpjgkkpbnnaa
open Go.Ck Fx Go.Hm Go.Hm.AM
theorem pictured_sz {m : AM} (h : Fine m) {roots : List Int} (hr : roots.length ≤ 1000000) : PicSz (m.pictured roots).1 := by
  obtain ⟨ly, ln, lf, φ, A, g⟩ := h
  unfold AM.pictured
  by_cases hro : m.rooted roots ≠ 0
  · rw [if_pos hro]; exact ⟨Nat.zero_le _, Nat.zero_le _, Nat.zero_le _, fun x hx => by cases hx⟩
  · rw [if_neg hro]
    have hro : m.rooted roots = 0 := by simpa using hro
    have hp : PM (AM.Obj ly ln lf) (roots.foldl pmeet []) := PM.meets _ PM.nil (g.root_obj hro)
    obtain ⟨hM, _⟩ := met_pm g hp
    have hl := g.g.pm_len hM
    have hT := g.g.T_le
    obtain ⟨p1, p2, p3⟩ := pic_parts m roots
    refine ⟨by rw [p1, List.length_map]; omega, by rw [p3, List.length_map]; omega, by rw [p2, List.length_map]; omega, fun x hx => ?_⟩
    rw [p2] at hx
    obtain ⟨t, ht, rfl⟩ := List.mem_map.1 hx
    rw [prow_len]
    have := (ob_obj g.g (hM.s t ht)).len g.g.sz
    omega
theorem PicV.star {k k' : SH} {r : Res} {sv fv rv : Value} {p : Pic} (s : Sel k r k') (h : PicV r sv fv rv p) : PicV (Res.star k) sv fv rv p := by
  refine ⟨h.ps.star s, h.pr.star s, ?_⟩
  obtain ⟨a, cp, h1, h2 | ⟨b, o, h3, h4⟩⟩ := h.pf
  · exact ⟨a, cp, h1, .inl h2⟩
  · exact ⟨a, cp, h1, .inr ⟨b, o, h3, fun i hi => by
      obtain ⟨u, g1, g2⟩ := h4 i hi
      exact ⟨u, rd_star s g1, g2.star s⟩⟩⟩
theorem samePic_self (p : Pic) : samePic p p = true := by unfold samePic; simp
theorem rowI_vecE {E : TypeId} {v : Value} {n : Nat} {l : List Int} {a : Option Addr} {cp : Nat} (hv : v = .slice a n cp) (ha : 0 < n → ∃ b, a = some ⟨b, 0, none⟩) (hn : l.length = n) : RowI (vec v E 1 n (ints l)) v l := by
  subst hn
  refine ⟨a, cp, hv, ?_⟩
  by_cases h0 : l.length = 0
  · exact .inl (List.eq_nil_of_length_eq_zero h0)
  · obtain ⟨b, rfl⟩ := ha (by omega)
    exact .inr ⟨b, 0, rfl, fun j hj => by rw [Nat.zero_add]; exact rd_vec hv (by simp [ints, hj])⟩
theorem RowB.star {k k' : SH} {r : Res} {v : Value} {l : List Bool} (s : Sel k r k') (h : RowB r v l) : RowB (Res.star k) v l := by
  obtain ⟨a, cp, h1, h2 | ⟨b, o, h3, h4⟩⟩ := h
  · exact ⟨a, cp, h1, .inl h2⟩
  · exact ⟨a, cp, h1, .inr ⟨b, o, h3, fun i hi => rd_star s (h4 i hi)⟩⟩
theorem Shp.star {k k' : SH} {r : Res} {v : Value} {sh : List (List Bool)} (s : Sel k r k') (h : Shp r v sh) : Shp (Res.star k) v sh := by
  obtain ⟨a, cp, h1, h2 | ⟨b, o, h3, h4⟩⟩ := h
  · exact ⟨a, cp, h1, .inl h2⟩
  · exact ⟨a, cp, h1, .inr ⟨b, o, h3, fun i hi => by
      obtain ⟨u, g1, g2⟩ := h4 i hi
      exact ⟨u, rd_star s g1, g2.star s⟩⟩⟩
theorem ActsV.star {k k' : SH} {r : Res} {v : Value} {xs : List Go.Hm.Act} (s : Sel k r k') (h : ActsV r v xs) : ActsV (Res.star k) v xs := by
  obtain ⟨a, cp, h1, h2 | ⟨b, o, h3, h4⟩⟩ := h
  · exact ⟨a, cp, h1, .inl h2⟩
  · exact ⟨a, cp, h1, .inr ⟨b, o, h3, fun i hi j hj => rd_star s (h4 i hi j hj)⟩⟩
/-- The cells of acts. -/
def actC (x : Go.Hm.Act) : List Value := [.int .i64 x.k, .int .i64 x.a, .int .i64 x.b, .int .i64 x.c]
def actsC (xs : List Go.Hm.Act) : List Value := xs.flatMap actC
theorem actsC_at : ∀ (xs : List Go.Hm.Act) (i : Nat) (hi : i < xs.length) (j : Nat) (hj : j < 4), (actsC xs)[i * 4 + j]? = (actC xs[i])[j]?
  | [], _, hi, _, _ => by simp at hi
  | x :: t, 0, _, j, hj => by
    show (actC x ++ actsC t)[0 * 4 + j]? = (actC x)[j]?
    rw [List.getElem?_append_left (by show 0 * 4 + j < 4; omega), show 0 * 4 + j = j by omega]
  | x :: t, i + 1, hi, j, hj => by
    have hi' : i < t.length := by simpa using hi
    show (actC x ++ actsC t)[(i + 1) * 4 + j]? = (actC (t[i]'hi'))[j]?
    rw [List.getElem?_append_right (by show 4 ≤ (i + 1) * 4 + j; omega), show (i + 1) * 4 + j - (actC x).length = i * 4 + j by show (i + 1) * 4 + j - 4 = _; omega]
    exact actsC_at t i hi' j hj
theorem actsV_vec {v : Value} {xs : List Go.Hm.Act} {a : Option Addr} {cp : Nat} (hv : v = .slice a xs.length cp) (ha : 0 < xs.length → ∃ b, a = some ⟨b, 0, none⟩) : ActsV (vec v 78 4 xs.length (actsC xs)) v xs := by
  refine ⟨a, cp, hv, ?_⟩
  cases xs with
  | nil => exact .inl rfl
  | cons x t =>
    obtain ⟨b, hb⟩ := ha (by simp)
    refine .inr ⟨b, 0, hb, fun i hi j hj => ?_⟩
    have hj4 : j < 4 := hj
    rw [Nat.zero_add]
    refine rd_vec (by rw [hv, hb]) ?_
    rw [actsC_at _ i hi j hj4]
    exact List.getElem?_eq_getElem hj
end Go.Proofs.Ytmhmpjgkkpbnnaa
namespace Go.Proofs.Ytmhmpjgkkpbnnaa
open Go.Ck Fx Go.Hm Go.Hm.AM
attribute [local irreducible] St Cd Xt Nx DrL LsW
section
variable {R : Res} {v0 v4 : Value} {sh : List (List Bool)} {xs : List Go.Hm.Act} {half young n : Int}
def playErr (sh : List (List Bool)) (half young n : Int) (xs : List Go.Hm.Act) : Int := if newErr sh half young = 0 then playedErr n xs else newErr sh half young
structure PlS where
  i : Nat
  L : MemL
  μ : Mem
  rv : Value
  ev : Value
set_option maxHeartbeats 4000000 in
set_option maxRecDepth 100000 in
theorem play_c (hS : Shp R v0 sh) (hs0 : sh.length ≤ 1000000) (hX : ActsV R v4 xs) (ha : ∀ x ∈ xs, I64 x.a) : Ct Try.prog 30 #[v0, .int .i64 half, .int .i64 young, .int .i64 n, v4] [R] fun u h' =>
    (playErr sh half young n xs ≠ 0 ∧ u = .tuple #[.pointer none, .slice none 0 0, .slice none 0 0, .int .i64 (playErr sh half young n xs)] ∧ h' = [R]) ∨
    (playErr sh half young n xs = 0 ∧ newErr sh half young = 0 ∧ 0 ≤ n ∧ n ≤ 200 ∧ xs.length ≤ 2000 ∧ ∃ L μ S rv ev, u = .tuple #[.pointer (some ⟨L.mb, 0, none⟩), rv, ev, .int .i64 0] ∧
      MI L μ S (AM.acts false xs (new' sh half young) (List.replicate n.toNat 0)).2.1 ∧
      h' = memSH L μ S ++ [vec rv 3 1 (AM.acts false xs (new' sh half young) (List.replicate n.toNat 0)).2.2.length (ints (AM.acts false xs (new' sh half young) (List.replicate n.toNat 0)).2.2),
        vec ev 28 1 (AM.acts false xs (new' sh half young) (List.replicate n.toNat 0)).1.length (ints (AM.acts false xs (new' sh half young) (List.replicate n.toNat 0)).1), R]) := by
  obtain ⟨xa, xcp, hxv, _⟩ := id hX
  unfold playErr
  refine ct_of (n := 59) Try.func30 rfl rfl (len rfl) fun hr w0 => ?_
  simp only [List.cons_append, List.nil_append]
  refine cd_seq (cd_region (st_v (v_assign rfl) (st_v (v_assign rfl) (st_v (v_assign rfl) (st_v (v_assign rfl) (st_nil (nx_then (cd_seq (cd_region (st_v (v_move rfl) (st_v (v_move rfl) (st_v (v_move rfl) (st_cl rfl rfl en15 rfl (new_c (half := half) (young := young) hS hs0) ?_)))))))))))))
  rintro v' h' hu
  rcases hu with ⟨hne, rfl, rfl⟩ | ⟨hne, L0, μ0, S1, rfl, I0, rfl⟩
  · skip
    rw [if_neg hne]
    have hb : (newErr sh half young == 0) = false := by simpa using hne
    have hb2 : (newErr sh half young != 0) = true := by simpa using hne
    simp only [List.cons_append, List.nil_append]
    refine st_v (v_move rfl) (st_v (v_extract rfl rfl) (st_v (v_extract rfl rfl) (st_v (v_assign rfl) (st_v (v_assign rfl) (st_nil (nx_kp [3, 4, 10, 11, 12, 13, 14, 15] rfl (nx_then (cd_seq (cd_seq (cd_region (st_v (v_move rfl) (st_v (v_eql rfl rfl) (st_nil (nx_kp [3, 4, 10, 11, 12, 13, 14, 15, 28] rfl (nx_then (cd_cond rfl (fun hA => ?_) (fun hA => ?_)))))))))))))))))
    · skip
      exact absurd (by simpa using hA) hne
    · skip
      refine cd_skip (xt_then (cd_seq (cd_seq (cd_region (st_v (v_move rfl) (st_v (v_neq rfl rfl) (st_nil (nx_kp [3, 4, 10, 11, 12, 13, 14, 15, 33] rfl (nx_then (cd_cond rfl (fun hB => ?_) (fun hB => ?_)))))))))))
      · skip
        refine cd_seq (cd_region (st_v (v_move rfl) (st_v (v_assign rfl) (st_v (v_assign rfl) (st_v (v_assign rfl) (st_v (v_assign rfl) (st_nil (nx_kp [3, 4, 10, 11, 12, 13, 14] rfl (nx_then (cd_ret (xt_ret_then ?_)))))))))))
        exact xt_rt rfl (.inl ⟨hne, rfl, rfl⟩)
      · skip
        exact absurd (by simpa using hB) hne
  · skip
    rw [if_pos hne, hne]
    simp only [List.cons_append, List.nil_append]
    refine st_v (v_move rfl) (st_v (v_extract rfl rfl) (st_v (v_extract rfl rfl) (st_v (v_assign rfl) (st_v (v_assign rfl) (st_nil (nx_kp [3, 4, 10, 11, 12, 13, 14, 15] rfl (nx_then (cd_seq (cd_seq (cd_region (st_v (v_move rfl) (st_v (v_eql rfl rfl) (st_nil (nx_kp [3, 4, 10, 11, 12, 13, 14, 15, 28] rfl (nx_then (cd_true rfl ?_))))))))))))))))
    refine cd_region (st_v (v_move rfl) (st_v (v_move rfl) (st_clr rfl rfl en78 rfl (played_ct hX) ?_)))
    refine st_v (v_assign rfl) (st_nil (nx_kp [3, 4, 10, 11, 12, 13, 14, 15] rfl (nx_then (cd_seq (cd_seq (cd_region (st_v (v_move rfl) (st_v (v_neq rfl rfl) (st_nil (nx_kp [3, 4, 10, 11, 12, 13, 14, 15, 33] rfl (nx_then (cd_cond rfl (fun hB => ?_) (fun hB => ?_)))))))))))))
    · skip
      refine cd_seq (cd_region (st_v (v_move rfl) (st_v (v_assign rfl) (st_v (v_assign rfl) (st_v (v_assign rfl) (st_v (v_assign rfl) (st_nil (nx_kp [3, 4, 10, 11, 12, 13, 14] rfl (nx_then (cd_ret (xt_ret_then ?_)))))))))))
      exact xt_rt rfl (.inl ⟨by simpa using hB, rfl, rfl⟩)
    · skip
      refine cd_skip (xt_then (cd_seq (cd_region (st_v (v_move rfl) (st_v (v_move rfl) ?_)))))
      have hp : playedErr n xs = 0 := by simpa using hB
      have hp' := hp
      unfold playedErr at hp'
      have hq : ¬ (decide (200 < n) || decide (2000 < (xs.length : Int))) = true := fun hh => by rw [if_pos hh] at hp'; cases hp'
      rw [if_neg hq] at hp'
      have hn0 : 0 ≤ n := by
        by_cases h0 : n < 0
        · rw [if_pos h0] at hp'; cases hp'
        · omega
      simp only [Bool.or_eq_true, decide_eq_true_eq, not_or] at hq
      obtain ⟨N, rfl⟩ : ∃ N : Nat, n = N := ⟨n.toNat, by omega⟩
      rw [hp, Int.toNat_natCast]
      refine st_make (n := N) rfl rfl rfl Try.underlying34 inf3 rfl (by omega) (by omega) (ltn rfl) fun b1 => ?_
      refine st_v (v_build (cells := [.pointer (some ⟨L0.mb, 0, none⟩), .slice (some ⟨b1, 0, none⟩) N N, .bool false]) rfl (fun _ => by kernel_rfl)) ?_
      refine st_bx rfl rfl fun b39 => ?_
      refine st_v (v_assign rfl) (st_nil (nx_kp [4, 10, 11, 12, 13, 14, 16] rfl (nx_then (cd_seq (cd_region (st_v (v_assign rfl) (st_nil (nx_then (cd_seq (cd_seq (cd_region (st_v (v_move rfl) (st_v (v_len (congrArg some hxv) Try.underlying62) (st_v (v_move rfl) (st_nil (nx_kp [10, 11, 12, 13, 14, 16, 17, 40, 41, 42] rfl (nx_then (cd_block ?_))))))))))))))))))
      have hin : (acts false (xs.take 0) (new' sh half young) (List.replicate N 0)) = ([], new' sh half young, List.replicate N 0) := rfl
      refine cd_vecnil 28 1 ?_
      refine cd_shut (v := .slice (some ⟨b1, 0, none⟩) N N) (E := 3) (sz := 1) (n := N) (l := ints (List.replicate N 0)) (l' := ints (List.replicate N 0)) (b := b1) (cp := N) (j := []) ⟨rfl, by simp [ints], Nat.le_refl _, by unfold maxLen; omega, by simp [ints]⟩ rfl (by rw [show ints (List.replicate N 0) ++ [] = List.replicate N (.int .i64 0) by simp [ints]]; exact (by repeat (first | exact Sel.here | apply Sel.there))) ?_
      simp only [List.cons_append, List.nil_append, List.append_assoc]
      refine cd_loop (σ := PlS) (fun s => [(14, .pointer (some ⟨L0.mb, 0, none⟩)), (16, .pointer (some ⟨b39, 0, none⟩)), (17, s.ev), (40, v4), (41, .int .i64 xs.length), (42, .int .i64 (s.i : Nat))]) (fun s => memSH s.L s.μ S1 ++ [plR b39 L0.mb s.rv false, vec s.rv 3 1 (acts false (xs.take s.i) (new' sh half young) (List.replicate N 0)).2.2.length (ints (acts false (xs.take s.i) (new' sh half young) (List.replicate N 0)).2.2), vec s.ev 28 1 (acts false (xs.take s.i) (new' sh half young) (List.replicate N 0)).1.length (ints (acts false (xs.take s.i) (new' sh half young) (List.replicate N 0)).1), R] ++ hr) (fun s => s.i ≤ xs.length ∧ MI s.L s.μ S1 (acts false (xs.take s.i) (new' sh half young) (List.replicate N 0)).2.1 ∧ s.L.mb = L0.mb) (fun s => xs.length - s.i) ⟨0, L0, μ0, .slice (some ⟨b1, 0, none⟩) N N, .slice none 0 0⟩ ⟨Nat.zero_le _, I0, rfl⟩ ⟨rfl, rfl, rfl, rfl, rfl, rfl, trivial⟩ (by unfold memSH plR; simp only [List.cons_append, List.nil_append, List.take_zero, acts, List.length_replicate, List.length_nil]; exact (by repeat (first | exact Sub.refl _ | exact Sub.nil _ | refine Sub.sel (by repeat (first | exact Sel.here | apply Sel.there)) ?_ | apply Sub.cons))) ?_
      rintro ⟨i, L, μ, rv, ev⟩ ⟨hi, I, hL⟩
      dsimp only at hi I hL ⊢
      unfold memSH plR
      simp only [List.cons_append, List.nil_append, List.append_assoc]
      refine cd_seq (cd_region (st_v (v_lss rfl rfl) (st_nil (nx_then (cd_seq (cd_cond rfl (fun hd => ?_) (fun hd => ?_)))))))
      · skip
        have hlt : i < xs.length := by simpa using hd
        obtain ⟨b, o, cp', hv', hrds⟩ := hX.at hlt
        obtain ⟨ly, ln, lf, φ, A, hg⟩ := Fine.acts false (xs.take i) (fine_new hne) (List.replicate N 0)
        have hlen : (acts false (xs.take i) (new' sh half young) (List.replicate N 0)).2.2.length ≤ 1000000 := by rw [acts_len, List.length_replicate]; omega
        have hel : (acts false (xs.take i) (new' sh half young) (List.replicate N 0)).1.length = i := by rw [acts_errs, List.length_take]; omega
        have hact := act_c (pb := b39) (rv := rv) (en := false) (k := xs[i].k) (a := xs[i].a) (b := xs[i].b) (c := xs[i].c) I hg hlen (ha _ (List.getElem_mem hlt))
        have hsn := acts_snoc false (xs.take i) xs[i] (new' sh half young) (List.replicate N 0)
        rw [← List.take_succ_eq_append_getElem hlt] at hsn
        unfold playSH memSH plR at hact
        rw [hL] at hact
        simp only [List.cons_append, List.nil_append] at hact
        refine cd_skip (xt_then (cd_seq (cd_block (cd_seq (cd_region (st_v (v_indexAddr (congrArg some hv') rfl sl62 rfl hlt rfl) (st_v (v_loadR rfl ld78 rfl (by repeat (first | exact Sel.here | apply Sel.there)) hrds) ?_)))))))
        refine st_alc al78 fun b19 => ?_
        refine st_stoW rfl rfl sz78 rfl rfl ?_
        refine st_nil (nx_kp [14, 16, 17, 19, 40, 41, 42] rfl (nx_then (cd_region (st_v (v_move rfl) (st_v (v_move rfl) (st_v (v_loadW rfl ld78 rfl (by repeat (first | exact Sel.here | apply Sel.there))) ?_))))))
        refine st_cl rfl rfl en79 rfl (hact) ?_
        rintro v' h' ⟨L1, μ1, rv1, rfl, I1, hL1, rfl⟩
        unfold playSH memSH plR
        simp only [List.cons_append, List.nil_append]
        rw [hL1, hL]
        refine st_buildSlice (cells := [.int .i64 (AM.act false (acts false (xs.take i) (new' sh half young) (List.replicate N 0)).2.1 (acts false (xs.take i) (new' sh half young) (List.replicate N 0)).2.2 ⟨xs[i].k, xs[i].a, xs[i].b, xs[i].c⟩).1]) rfl Try.underlying66 inf28 rfl rfl (by kernel_rfl) (ltn rfl) fun b66 => ?_
        refine st_append (news := [.int .i64 (AM.act false (acts false (xs.take i) (new' sh half young) (List.replicate N 0)).2.1 (acts false (xs.take i) (new' sh half young) (List.replicate N 0)).2.2 ⟨xs[i].k, xs[i].a, xs[i].b, xs[i].c⟩).1]) rfl rfl Try.underlying66 inf28 rfl (ltn rfl) (by repeat (first | exact Sel.here | apply Sel.there)) rfl (fun j u hu => by repeat (first | exact at_here (rd_cl (by simpa using hu)) | apply at_there)) (ones rfl) (by omega) (by omega) (ltn rfl) fun ev' hev' hv1 => ?_
        refine st_v (v_assign rfl) (st_nil (nx_kp [14, 16, 17, 40, 41, 42] rfl (nx_xt (xt_normal_block (xt_then (cd_region (st_v (v_add rfl rfl (by unfold I64 at *; omega)) (st_v (v_move rfl) (st_nil (nx_kp [14, 16, 17, 40, 41, 42] rfl (nx_xt ?_)))))))))))
        have hi2 : (acts false (xs.take (i + 1)) (new' sh half young) (List.replicate N 0)).2 = (AM.act false (acts false (xs.take i) (new' sh half young) (List.replicate N 0)).2.1 (acts false (xs.take i) (new' sh half young) (List.replicate N 0)).2.2 ⟨xs[i].k, xs[i].a, xs[i].b, xs[i].c⟩).2 := by rw [hsn]
        have hi1 : (acts false (xs.take (i + 1)) (new' sh half young) (List.replicate N 0)).1 = (acts false (xs.take i) (new' sh half young) (List.replicate N 0)).1 ++ [(AM.act false (acts false (xs.take i) (new' sh half young) (List.replicate N 0)).2.1 (acts false (xs.take i) (new' sh half young) (List.replicate N 0)).2.2 ⟨xs[i].k, xs[i].a, xs[i].b, xs[i].c⟩).1] := by rw [hsn]
        refine xt_ag (⟨i + 1, L1, μ1, rv1, ev'⟩ : PlS) ⟨hlt, by dsimp only; rw [hi2]; exact I1, hL1.trans hL⟩ (by dsimp only; omega) (by repeat (first | exact trivial | refine ⟨rfl, ?_⟩)) ?_
        dsimp only
        rw [hi1, hi2, List.length_append, show ∀ (l : List Int) (x : Int), ints (l ++ [x]) = ints l ++ [.int .i64 x] from fun l x => by simp [ints]]
        exact (by repeat (first | exact Sub.refl _ | exact Sub.nil _ | refine Sub.sel (by repeat (first | exact Sel.here | apply Sel.there)) ?_ | apply Sub.cons))
      · skip
        refine cd_exit (xt_exit_then (xt_exit_then (xt_exit_block (xt_then (cd_seq (cd_drawh (ork [(0, 2), (1, 2), (2, 2), (3, 2), (4, 1), (5, 2), (6, 2), (7, 2), (8, 2), (9, 2)] .nil) (fun _ => true) mixed (by kernel_rfl) ?_))))))
        refine dp_v rfl (v_move rfl) (dp_v rfl (v_move rfl) (dp_v rfl (v_nilCheck rfl) (dp_v rfl (v_fieldAddr rfl fa140_1 rfl) (dr_v rfl (v_ld rfl ld34) ?_))))
        refine dp_v rfl (v_move rfl) (dp_v rfl (v_assign rfl) (dp_v rfl (v_assign rfl) (dp_v rfl (v_assign rfl) (dp_v rfl (v_assign rfl) (dr_nil (nx_kp [10, 11, 12, 13] rfl (nx_then (cd_ret ?_))))))))
        have hge : i = xs.length := by have : ¬ i < xs.length := by simpa using hd
                                       omega
        subst hge
        rw [List.take_length] at I ⊢
        refine xt_rt rfl (.inr ⟨trivial, trivial, by omega, by omega, by omega, L, μ, S1, rv, ev, by rw [hL]; rfl, I, rfl⟩) ?_
        exact (by repeat (first | exact Sub.refl _ | exact Sub.nil _ | refine Sub.sel (by repeat (first | exact Sel.here | apply Sel.there)) ?_ | apply Sub.cons))
end
end Go.Proofs.Ytmhmpjgkkpbnnaa
