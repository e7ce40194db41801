/-
  The player of package heap: refers, keep, drop, copied, set, put, get, look. Conditions: what the heap holds, that the machine is in order.
-/
import Derived.Test.YtmhmpjgkkpbnnaaM4
import Derived.Test.YtmhmpjgkkpbnnaaM9
import Derived.Test.YtmhmpjgkkpbnnaaM2
namespace Go.Proofs.Ytmhmpjgkkpbnnaa
open Go.Ck Fx Go.Hm Go.Hm.AM
attribute [local irreducible] St Cd Xt Nx DrL LsW
section
variable {L : MemL} {μ : Mem} {S : Res} {m : AM} {ly ln lf : List Int} {φ : Int → Option Nat} {A : Store} {r : List Int} {rv : Value} {pb : Nat} {en : Bool}
set_option maxRecDepth 100000 in
theorem field_c (I : MI L μ S m) (h : AM.Good m ly ln lf φ A) (t k : Int) : ∃ p, Reads Try.prog 92 #[.pointer (some ⟨L.mb, 0, none⟩), .int .i64 t, .int .i64 k] (fldSH L μ S) (.tuple #[.pointer p, .bool (if m.fe t k = 0 then m.ref t k else false), .int .i64 (m.fe t k)]) := by
  obtain ⟨p, b, e, hF⟩ := fld_total L μ t k
  have hct := field_ct hF (I.r.oky h.g) (I.r.okn h.g) I.yn I.shp' (I.r.shl h.g) (I.r.spy h.g) (I.r.spn h.g)
  refine ⟨p, ?_⟩
  have hcur := I.r.cur h.g t
  unfold Mem.cur at hcur
  have rowy : μ.y.begins t = true → shAt μ.sh (μ.y.wd t) = m.row t := fun hb => by
    rw [I.r.by_ h.g, Bool.and_eq_true, decide_eq_true_eq] at hb
    rw [I.r.wdy h.g ((h.g.isY_iff hb.2).1 hb.1), shAt_row I.r]
  have rown : μ.n.begins t = true → shAt μ.sh (μ.n.wd t) = m.row t := fun hb => by
    rw [I.r.bn h.g, Bool.and_eq_true, decide_eq_true_eq, isO_iff] at hb
    rw [I.r.wdn h.g ((h.g.o.hd t hb.1.1 hb.1.2).1 hb.2), shAt_row I.r]
  have key : e = m.fe t k ∧ b = (if m.fe t k = 0 then m.ref t k else false) := by
    unfold AM.fe AM.ref
    cases hF with
    | none h1 h2 => rw [h1, h2] at hcur; rw [← hcur]; exact ⟨rfl, rfl⟩
    | argy h1 h2 => rw [h1] at hcur; rw [rowy h1] at h2; rw [← hcur, Bool.true_or, if_neg (by simp), if_pos h2]; exact ⟨rfl, rfl⟩
    | argn h1 h2 h3 => rw [h1, h2] at hcur; rw [rown h2] at h3; rw [← hcur, Bool.false_or, if_neg (by simp), if_pos h3]; exact ⟨rfl, rfl⟩
    | y h1 h2 => rw [h1] at hcur; rw [rowy h1] at h2 ⊢; rw [← hcur, Bool.true_or, if_neg (by simp), if_neg (by rw [h2]; simp)]; exact ⟨rfl, rfl⟩
    | n h1 h2 h3 => rw [h1, h2] at hcur; rw [rown h2] at h3 ⊢; rw [← hcur, Bool.false_or, if_neg (by simp), if_neg (by rw [h3]; simp)]; exact ⟨rfl, rfl⟩
  rw [← key.2, ← key.1]
  exact hct
/-- Where a player lies. -/
def plR (pb mb : Nat) (rv : Value) (en : Bool) : Res := pt pb (cl [.pointer (some ⟨mb, 0, none⟩), rv, .bool en] 140)
def playSH (L : MemL) (μ : Mem) (S : Res) (pb : Nat) (rv : Value) (r : List Int) (en : Bool) : SH := memSH L μ S ++ [plR pb L.mb rv en, vec rv 3 1 r.length (ints r)]
theorem rdx_eq {x : Int} (h : oob x r = false) : ∃ j : Nat, x = j ∧ ∃ hj : j < r.length, rdx r x = r[j] := by
  unfold oob at h
  simp only [Bool.or_eq_false_iff, decide_eq_false_iff_not, Int.not_lt, Int.not_le] at h
  refine ⟨x.toNat, by omega, by omega, ?_⟩
  unfold rdx; rw [List.getD_eq_getElem?_getD, List.getElem?_eq_getElem (by omega)]; rfl
set_option maxRecDepth 100000 in
theorem refers_c (I : MI L μ S m) (h : AM.Good m ly ln lf φ A) {x k : Int} {want : Bool} (hx : oob x r = false) :
    Reads Try.prog 132 #[.pointer (some ⟨pb, 0, none⟩), .int .i64 x, .int .i64 k, .bool want] (playSH L μ S pb rv r en) (.int .i64 (m.kinded (rdx r x) k want)) := by
  obtain ⟨j, rfl, hj, hrd⟩ := rdx_eq hx
  rw [hrd]
  obtain ⟨p, hf⟩ := field_c I h r[j] k
  unfold fldSH at hf
  unfold playSH memSH plR AM.kinded
  refine ct_of (n := 37) Try.func132 rfl rfl (len rfl) fun hr w0 => ?_
  refine cd_vecshape (v := rv) (E := 3) (sz := 1) (n := r.length) (l := ints r) (by repeat (first | exact Sel.here | apply Sel.there)) fun ra rcp hrv hra => ?_
  obtain ⟨rb, rfl⟩ := hra (by omega)
  have hrd : Rd (vec rv 3 1 r.length (ints r)) ⟨rb, j, none⟩ (.int .i64 r[j]) := rd_vec hrv (by simp [ints, hj])
  simp only [List.cons_append, List.nil_append]
  refine cd_seq (cd_region (st_v (v_assign rfl) (st_nil (nx_then (cd_seq (cd_drawh (ork [(0, 2), (1, 2), (2, 2), (3, 1), (4, 2), (5, 2), (6, 2), (7, 1), (8, 2), (9, 2), (10, 1), (11, 2), (12, 1), (13, 2), (14, 2), (15, 2), (16, 2), (17, 2), (18, 2), (19, 2)] .nil) (fun _ => true) mixed (by kernel_rfl) ?_))))))
  refine dp_v rfl (v_move rfl) (dp_v rfl (v_nilCheck rfl) (dp_v rfl (v_fieldAddr rfl fa140_0 rfl) (dr_v rfl (v_ld rfl ld27) ?_)))
  refine dp_v rfl (v_move rfl) (dp_v rfl (v_nilCheck rfl) (dp_v rfl (v_fieldAddr rfl fa140_1 rfl) (dr_v rfl (v_ld rfl ld34) ?_)))
  refine dp_v rfl (v_move rfl) (dp_v rfl (v_idx j (congrArg some hrv) rfl sl34 rfl hj) (dr_v rfl (v_ld rfl ld3) ?_))
  refine dp_v rfl (v_move rfl) (dr_clr rfl rfl rfl en92 rfl (hf) ?_)
  refine dp_v rfl (v_move rfl) (dp_v rfl (v_extract rfl rfl) (dp_v rfl (v_extract rfl rfl) (dp_v rfl (v_extract rfl rfl) (dp_v rfl (v_assign rfl) (dp_v rfl (v_assign rfl) (dp_v rfl (v_assign rfl) (dr_nil (nx_kp [3, 8, 10, 11] rfl (nx_then (cd_seq (cd_seq (cd_region (st_v (v_move rfl) (st_v (v_eql rfl rfl) (st_v (v_move rfl) ?_)))))))))))))))
  refine st_cut (k := 7) (d := 35) (v := .bool ((m.fe r[j] k == 0) && !(m.ref r[j] k == want))) (fun hcut => bool_want (b := m.fe r[j] k == 0) true (fun hg => ?_) (fun hg => ?_)) ?_
  · refine st_sk rfl rfl hg ?_
    refine st_sk rfl rfl hg ?_
    refine st_sk rfl rfl hg ?_
    refine st_v (v_pick_false (bool_ev rfl hg) rfl) ?_
    exact hcut _ (ssub_head (by first | rfl | (rw [hg]; rfl) | simp_all) (ssub_skip rfl (ssub_skip rfl (ssub_skip rfl (ssub_refl)))))
  · skip
    refine st_vg rfl (bool_get rfl hg) (v_move rfl) (st_vg rfl (bool_get rfl hg) (v_move rfl) (st_vg rfl (bool_get rfl hg) (v_neq_bool Try.underlying4 rfl rfl) (st_v (v_pick_true (bool_ev rfl hg) rfl) ?_)))
    exact hcut _ (ssub_head (by first | rfl | (rw [hg]; rfl) | simp_all) (ssub_skip rfl (ssub_skip rfl (ssub_skip rfl (ssub_refl)))))
  refine st_nil (nx_kp [8, 11, 35] rfl (nx_then (cd_cond rfl (fun hc => ?_) (fun hc => ?_))))
  · skip
    rw [Bool.and_eq_true, beq_iff_eq] at hc
    rw [if_pos hc.1, if_pos (show (m.ref r[j] k != want) = true from hc.2)]
    refine cd_seq (cd_region (st_v (v_assign rfl) (st_nil (nx_kp [8, 11] rfl (nx_then (cd_ret (xt_ret_then ?_)))))))
    exact xt_rt rfl ⟨rfl, rfl⟩
  · skip
    have hk : (if m.fe r[j] k = 0 then (if m.ref r[j] k != want then (1 : Int) else 0) else m.fe r[j] k) = m.fe r[j] k := by
      by_cases he : m.fe r[j] k = 0
      · rw [he] at hc ⊢
        simp only [beq_self_eq_true, Bool.true_and] at hc
        rw [if_pos rfl, if_neg (by rw [show (m.ref r[j] k != want) = false from hc]; simp)]
      · rw [if_neg he]
    rw [hk]
    refine cd_skip (xt_then (cd_seq (cd_region (st_v (v_move rfl) (st_v (v_assign rfl) (st_nil (nx_kp [8] rfl (nx_then (cd_ret ?_)))))))))
    exact xt_rt rfl ⟨rfl, rfl⟩
/-- What an act of the player leaves. -/
def Acted (L : MemL) (S : Res) (pb : Nat) (en : Bool) (q : Int × AM × List Int) (u : Value) (h' : SH) : Prop := ∃ L' μ' rv', u = .int .i64 q.1 ∧ MI L' μ' S q.2.1 ∧ L'.mb = L.mb ∧ h' = playSH L' μ' S pb rv' q.2.2 en
set_option maxRecDepth 100000 in
theorem keep_c {mb : Nat} {l : List Int} {sl : Value} {e : Int} : Ct Try.prog 133 #[.pointer (some ⟨pb, 0, none⟩), sl, .int .i64 e] [plR pb mb rv en, vec rv 3 1 r.length (ints r), vec sl 3 1 l.length (ints l)] fun u h' => ∃ rv', u = .int .i64 e ∧ h' = [plR pb mb rv' en, vec rv' 3 1 (if e = 0 then l else r).length (ints (if e = 0 then l else r))] := by
  unfold plR
  refine ct_of (n := 14) Try.func133 rfl rfl (len rfl) fun hr w0 => ?_
  refine cd_vecshape (v := sl) (E := 3) (sz := 1) (n := l.length) (l := ints l) (by repeat (first | exact Sel.here | apply Sel.there)) fun sa scp hsv hsa => ?_
  have hone : sl.oneCell' = true := by rw [hsv]; rfl
  simp only [List.cons_append, List.nil_append]
  refine cd_seq (cd_region (st_v (v_assign rfl) (st_nil (nx_then (cd_seq (cd_seq (cd_region (st_v (v_move rfl) (st_v (v_eql rfl rfl) (st_nil (nx_kp [0, 1, 2, 6, 8] rfl (nx_then (cd_cond rfl (fun hc => ?_) (fun hc => ?_))))))))))))))
  · skip
    have he : e = 0 := by simpa using hc
    rw [if_pos he]
    refine cd_region (st_v (v_move rfl) (st_v (v_move rfl) (st_v (v_nilCheck rfl) (st_v (v_fieldAddr rfl fa140_1 rfl) (st_sto rfl rfl sz34 ?_)))))
    refine st_nil (nx_kp [2, 6] rfl (nx_then (cd_seq (cd_region (st_v (v_move rfl) (st_v (v_assign rfl) (st_nil (nx_kp [6] rfl (nx_then (cd_ret ?_))))))))))
    exact xt_rt rfl ⟨sl, rfl, rfl⟩
  · skip
    have he : ¬ e = 0 := by simpa using hc
    rw [if_neg he]
    refine cd_skip (xt_then (cd_seq (cd_region (st_v (v_move rfl) (st_v (v_assign rfl) (st_nil (nx_kp [6] rfl (nx_then (cd_ret ?_)))))))))
    exact xt_rt rfl ⟨rv, rfl, rfl⟩
/-- A row that is not empty, opened. -/
theorem cd_row {c : Cx} {x : Code} {Q : Exit → Act → World → Prop} {e : Env} {h h' : SH} {v : Value} {n : Nat} {l : List Value} (hn : 0 < n) (s : Sel h (vec v 3 1 n l) h') (h1 : ∀ b cp j, v = .slice (some ⟨b, 0, none⟩) n cp → OpenRow v 1 n l b cp j → Cd c x Q e (pt b (cl (l ++ j) 3) :: h')) : Cd c x Q e h :=
  cd_open s (fun h0 hn0 _ => by omega) fun b cp j ho => h1 b cp j ho.1 ho
set_option maxRecDepth 100000 in
theorem drop_c (I : MI L μ S m) {a b c k : Int} (ha : oob a r = false) : Ct Try.prog 125 #[.pointer (some ⟨pb, 0, none⟩), .agg #[.int .i64 k, .int .i64 a, .int .i64 b, .int .i64 c]] (playSH L μ S pb rv r en) (Acted L S pb en (0, m, r.set a.toNat 0)) := by
  obtain ⟨j, rfl, hj, _⟩ := rdx_eq ha
  unfold playSH memSH plR
  refine ct_of (n := 12) Try.func125 rfl rfl (len rfl) fun hr w0 => ?_
  refine cd_row (v := rv) (n := r.length) (l := ints r) (by omega) (by repeat (first | exact Sel.here | apply Sel.there)) fun b3 cp3 j3 hrv ho => ?_
  have hlen : j < (ints r ++ j3).length := by rw [List.length_append, ints_length]; omega
  refine cd_seq (cd_region (st_bx rfl rfl fun b3 => ?_))
  refine st_v (v_assign rfl) (st_nil (nx_kp [0, 3, 4] rfl (nx_then (cd_seq (cd_drawh (ork [(0, 2), (1, 2), (2, 2), (3, 1), (4, 2), (5, 1), (6, 2), (7, 0)] .nil) (fun i => !(Nat.beq i 7)) mixed (by kernel_rfl) ?_)))))
  refine dp_v rfl (v_move rfl) (dp_v rfl (v_nilCheck rfl) (dp_v rfl (v_fieldAddr rfl fa140_1 rfl) (dr_v rfl (v_ld rfl ld34) ?_)))
  refine dp_v rfl (v_fieldAddr rfl fa78_1 rfl) (dr_v rfl (v_ld rfl ld3) ?_)
  refine dp_v rfl (v_idx j (congrArg some hrv) rfl sl34 rfl hj) (dr_eff rfl (st_sto rfl rfl sz3 (dr_nx ?_)))
  refine dr_nil (nx_kp [4] rfl (nx_then (cd_seq (cd_region (st_v (v_assign rfl) (st_nil (nx_then (cd_ret ?_))))))))
  rw [set_ints hj]
  refine xt_shut (E := 3) (l' := ints (r.set j 0)) ho (by simp [ints]) (by repeat (first | exact Sel.here | apply Sel.there)) ?_
  refine xt_rt rfl ⟨L, μ, rv, rfl, I, rfl, rfl⟩ ?_
  unfold playSH memSH plR
  rw [List.length_set, Int.toNat_natCast]
  simp only [List.cons_append, List.nil_append]
  exact (by repeat (first | exact Sub.refl _ | exact Sub.nil _ | refine Sub.sel (by repeat (first | exact Sel.here | apply Sel.there)) ?_ | apply Sub.cons))
end
end Go.Proofs.Ytmhmpjgkkpbnnaa
