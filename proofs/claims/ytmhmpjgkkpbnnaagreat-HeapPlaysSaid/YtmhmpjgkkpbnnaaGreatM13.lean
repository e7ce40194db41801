/-
  The reference's pictures: PictureOf, joined. Conditions: what the heap holds, that the machine is in order.
  The reference's New; the law's own functions: fit, short, kind. Conditions: what the heap holds.
  The reference's player: limits, rootsOf, kinded, made. Conditions: what the heap holds, that the machine is in order.
  The reference's player: an act. Conditions: what the heap holds, that the machine is in order.
  The reference's player: an act, whole; Play. Conditions: what the heap holds, that the machine is in order.
  The reference's Play. Conditions: what the heap holds.
-/
import Derived.Test.YtmhmpjgkkpbnnaaGreatM12
import Derived.Test.YtmhmpjgkkpbnnaaGreatM10
import Derived.Test.YtmhmpjgkkpbnnaaGreatM9
import Derived.Test.YtmhmpjgkkpbnnaaGreatM11
import Derived.Test.YtmhmpjgkkpbnnaaGreatM4
namespace Go.Proofs.YtmhmpjgkkpbnnaaGreat
open Go.Ck Fx Go.Hm Go.Hm.AM
attribute [local irreducible] St Cd Xt Nx DrL LsW
section
variable {L : RL} {m : AM} {S R : Res} {t k a : Int} {ly ln lf N rl rs : List Int} {sp : Int} {v : Value} {roots : List Int} {φ : Int → Option Nat} {A : Store}
variable {Q : Exit → Act → World → Prop} {w0 : World} {hr : SH} {l : List Int} {lv u : Value} {b4 b8 : Nat}
set_option maxHeartbeats 4000000 in
set_option maxRecDepth 100000 in
theorem pic_meets_c (hS : Shp S L.vs m.sh) (h : AM.Good m ly ln lf φ A) (hmet : PM (AM.Obj ly ln lf) (roots.foldl pmeet []))
    (hcont : ∀ lv la lcp, lv = .slice la (m.gr.met m.T roots).length lcp → (0 < (m.gr.met m.T roots).length → ∃ b, la = some ⟨b, 0, none⟩) → PM (AM.Obj ly ln lf) (m.gr.met m.T roots) →
      Xt ⟨Tryz.prog, none, 176, [], w0⟩ .normal Q [(0, .pointer (some ⟨L.hb, 0, none⟩)), (1, v), (4, .pointer (some ⟨b4, 0, none⟩)), (6, lv), (8, .pointer (some ⟨b8, 0, none⟩))] (vec lv 3 1 (m.gr.met m.T roots).length (ints (m.gr.met m.T roots)) :: ([hR L m, wR L m, eR L m, oR L m, S] ++ hr))) :
    Cd ⟨Tryz.prog, none, 176, [], w0⟩ (cdr (cdl (cdr (cdr (cdr (cdr (cdr (cdr (fbody Tryz.f9))))))))) Q [(0, .pointer (some ⟨L.hb, 0, none⟩)), (1, v), (4, .pointer (some ⟨b4, 0, none⟩)), (6, lv), (8, .pointer (some ⟨b8, 0, none⟩)), (9, .int .i64 0)] (vec lv 3 1 (roots.foldl pmeet []).length (ints (roots.foldl pmeet [])) :: ([hR L m, wR L m, eR L m, oR L m, S] ++ hr)) := by
  have z := h.g.sz
  have h1 := z.Y0; have h2 := z.Y1; have h3 := z.H0; have h4 := z.H1
  have hrn : rn m = (m.Y + 2 * m.H + 1).toNat := rfl
  have hT := h.g.T_le
  have hM0 : m.gr.met m.T roots = m.gr.close m.T 0 (roots.foldl pmeet []) := rfl
  obtain ⟨M, hM⟩ : ∃ M, M = m.gr.met m.T roots := ⟨_, rfl⟩
  rw [← hM] at hM0 hcont
  refine cd_block (cd_loop (σ := Nat × List Int × Value) (fun q => [(0, .pointer (some ⟨L.hb, 0, none⟩)), (1, v), (4, .pointer (some ⟨b4, 0, none⟩)), (6, q.2.2), (8, .pointer (some ⟨b8, 0, none⟩)), (9, .int .i64 (q.1 : Nat))]) (fun q => vec q.2.2 3 1 q.2.1.length (ints q.2.1) :: ([hR L m, wR L m, eR L m, oR L m, S] ++ hr)) (fun q => q.1 ≤ q.2.1.length ∧ PM (AM.Obj ly ln lf) q.2.1 ∧ m.gr.close (m.T - q.1) q.1 q.2.1 = M) (fun q => m.T - q.1) (0, roots.foldl pmeet [], lv) ⟨Nat.zero_le _, hmet, hM0.symm⟩ ⟨rfl, rfl, rfl, rfl, rfl, rfl, trivial⟩ (Sub.refl _) ?_)
  rintro ⟨i, l, lv⟩ ⟨hi, hmet, hcl⟩
  dsimp only at hi hmet hcl ⊢
  have hml := h.g.pm_len hmet
  refine cd_vecshape (v := lv) (E := 3) (sz := 1) (n := l.length) (l := ints l) (by repeat (first | exact Sel.here | apply Sel.there)) fun la lcp hlv hla => ?_
  simp only [List.cons_append, List.nil_append]
  refine cS (cS (cR (sV (vM rfl) (sV (vM rfl) (sV (v_len (congrArg some hlv) Tryz.underlying27) (sV (v_lss rfl rfl) (sN (nK [0, 1, 4, 6, 8, 9, 40] rfl (nT (cC rfl (fun hc3 => ?_) (fun hc3 => ?_)))))))))))
  · skip
    have hlt : i < l.length := by simpa using hc3
    obtain ⟨lb, rfl⟩ := hla (by omega)
    have hob : AM.Obj ly ln lf l[i] := hmet.s _ (List.getElem_mem hlt)
    have ob := ob_obj h.g hob
    have g1 := ob.t0; have g2 := ob.h2; have hlen := ob.len z
    have hsz : m.size l[i] = 1 + (m.row l[i]).length := rfl
    obtain ⟨u, hu, hct⟩ := rshape_ct hS z ob
    obtain ⟨ua, ucp, hue, _⟩ := id hu
    have hrd : Rd (vec lv 3 1 l.length (ints l)) ⟨lb, i, none⟩ (.int .i64 l[i]) := rd_vec hlv (by simp [ints, hlt])
    refine cK (xT (cS (cd_block (cS (cR (sV (vM rfl) (sV (vM rfl) (sV (vM rfl) (sV (v_idx i (congrArg some hlv) rfl sl27 rfl hlt) (sV (vL rfl ld3) ?_))))))))))
    refine st_clr rfl rfl en38 rfl (hct) ?_
    refine sV (vA rfl) (sN (nK [0, 1, 4, 6, 8, 9, 10] rfl (nT (cS (cR (sV (vA rfl) (sN (nT (cd_block (cd_loop (σ := Nat × Value) (fun q => [(0, .pointer (some ⟨L.hb, 0, none⟩)), (1, v), (4, .pointer (some ⟨b4, 0, none⟩)), (6, q.2), (8, .pointer (some ⟨b8, 0, none⟩)), (9, .int .i64 (i : Nat)), (10, u), (11, .int .i64 (q.1 : Nat))]) (fun q => vec q.2 3 1 ((m.gr.succTo l[i] q.1).foldl pmeet l).length (ints ((m.gr.succTo l[i] q.1).foldl pmeet l)) :: ([hR L m, wR L m, eR L m, oR L m, S] ++ hr)) (fun q => q.1 ≤ (m.row l[i]).length ∧ PM (AM.Obj ly ln lf) ((m.gr.succTo l[i] q.1).foldl pmeet l)) (fun q => (m.row l[i]).length - q.1) (0, lv) ⟨Nat.zero_le _, hmet⟩ ⟨rfl, rfl, rfl, rfl, rfl, rfl, rfl, rfl, trivial⟩ (Sub.refl _) ?_))))))))))
    rintro ⟨k, lw⟩ ⟨hk, hmk⟩
    dsimp only at hk hmk ⊢
    have hmkl := h.g.pm_len hmk
    refine cd_vecshape (v := lw) (E := 3) (sz := 1) (n := ((m.gr.succTo l[i] k).foldl pmeet l).length) (l := ints ((m.gr.succTo l[i] k).foldl pmeet l)) (by repeat (first | exact Sel.here | apply Sel.there)) fun wa wcp hlw hwa => ?_
    obtain ⟨ex, hex⟩ := pmeets_pre (m.gr.succTo l[i] k) l
    have hxl : i < ((m.gr.succTo l[i] k).foldl pmeet l).length := by rw [hex, List.length_append]; omega
    obtain ⟨wb, rfl⟩ := hwa (by omega)
    have hxi : ((m.gr.succTo l[i] k).foldl pmeet l)[i]? = some l[i] := by rw [hex, List.getElem?_append_left hlt, List.getElem?_eq_getElem hlt]
    have hrdw : Rd (vec lw 3 1 ((m.gr.succTo l[i] k).foldl pmeet l).length (ints ((m.gr.succTo l[i] k).foldl pmeet l))) ⟨wb, i, none⟩ (.int .i64 l[i]) := rd_vec hlw (by simp only [ints, List.getElem?_map, hxi, Option.map_some])
    simp only [List.cons_append, List.nil_append]
    refine cS (cS (cR (sV (vM rfl) (sV (vM rfl) (sV (v_len (congrArg some hue) Tryz.underlying55) (sV (v_lss rfl rfl) (sN (nK [0, 1, 4, 6, 8, 9, 10, 11, 52] rfl (nT (cC rfl (fun hc4 => ?_) (fun hc4 => ?_)))))))))))
    · skip
      have hkl : k < (m.row l[i]).length := by simpa using hc4
      obtain ⟨ub, uo, ucp', hue2, hrdu⟩ := hu.at hkl
      have hps := Gr.succTo_succ (g := m.gr) (t := l[i]) (k := k) (by rw [gr_len]; exact hkl)
      rw [gr_flag hkl] at hps
      refine cK (xT (cS (cd_block (cS (cR (sV (vM rfl) (sV (vM rfl) (sV (v_ixo k (congrArg some hue2) rfl sl55 rfl hkl) (sV (vL rfl ld4) ?_)))))))))
      refine sN (nK [0, 1, 4, 6, 8, 9, 10, 11, 58] rfl (nT (cC rfl (fun hb => ?_) (fun hb => ?_))))
      · skip
        rw [hb] at hps
        simp only [if_true] at hps
        have hrdx : Rd (wR L m) ⟨L.wb, (l[i] + 1 + k).toNat, none⟩ (.int .i64 (m.word (l[i] + 1 + k))) := a_rd (by omega) (by omega)
        have hpm : l[i] + 1 + (k : Int) ∈ m.pl l[i] := mem_pl.2 ⟨k, by rw [List.getElem?_eq_getElem hkl, hb], rfl⟩
        have htk : (m.gr.succTo l[i] (k + 1)).foldl pmeet l = pmeet ((m.gr.succTo l[i] k).foldl pmeet l) (m.seen (m.word (l[i] + 1 + k))) := by
          rw [hps, pmeets_snoc]
        refine cd_drawh (ork [(0, 2), (1, 2), (2, 2), (3, 2), (4, 2), (5, 1), (6, 2), (7, 2), (8, 2), (9, 1), (10, 2), (11, 2), (12, 2), (13, 2), (14, 1), (15, 1), (16, 0), (17, 2)] .nil) (fun i => !(Nat.beq i 16)) mixed (by kernel_rfl) ?_
        refine dV rfl (vM rfl) (dV rfl (vM rfl) (dV rfl (vM rfl) (dV rfl (vN rfl) (dV rfl (vF rfl fa53_3 rfl) (dr_v rfl (vL rfl ld27) ?_)))))
        refine dV rfl (vM rfl) (dV rfl (vM rfl) (dV rfl (v_idx i (congrArg some hlw) rfl sl27 rfl hxl) (dr_v rfl (vL rfl ld3) ?_)))
        refine dV rfl (v_add rfl rfl (by unfold I64 at *; omega)) (dV rfl (vM rfl) (dV rfl (v_add rfl rfl (by unfold I64 at *; omega)) (dV rfl (v_idx (l[i] + 1 + k).toNat rfl rfl sl27 (by omega) (by omega)) (dr_v rfl (vL rfl ld3) ?_))))
        refine dr_clr rfl rfl rfl en39 rfl (rwhere_ct z) ?_
        refine dr_eff rfl (st_cl rfl rfl en37 rfl (rmeet_ct (l := (m.gr.succTo l[i] k).foldl pmeet l) (lv := lw) (t := m.seen (m.word (l[i] + 1 + k))) (by omega)) ?_)
        rintro lv' h' rfl
        simp only [List.cons_append, List.nil_append]
        rw [← htk]
        refine dr_nx ?_
        refine dV rfl (vA rfl) (dr_nil (nK [0, 1, 4, 6, 8, 9, 10, 11] rfl (nx_xt (xB (xT (cR (sV (vM rfl) (sV (v_add rfl rfl (by unfold I64 at *; omega)) (sV (vA rfl) (sN (nK [0, 1, 4, 6, 8, 9, 10, 11] rfl (nx_xt ?_))))))))))))
        refine xt_ag (k + 1, lv') ⟨hkl, by rw [htk]; exact hmk.meet (h.g.seen_obj (h.g.word_obj hob hpm))⟩ (by show _ - _ < _ - _; omega)
      · skip
        rw [hb] at hps
        simp only [Bool.false_eq_true, if_false, List.append_nil] at hps
        rw [← hps]
        refine cK (xB (xT (cR (sV (vM rfl) (sV (v_add rfl rfl (by unfold I64 at *; omega)) (sV (vA rfl) (sN (nK [0, 1, 4, 6, 8, 9, 10, 11] rfl (nx_xt ?_)))))))))
        refine xt_ag (k + 1, lw) ⟨hkl, by rw [hps]; exact hmk⟩ (by show _ - _ < _ - _; omega)
    · skip
      have hkg : k = (m.row l[i]).length := by
        have : ¬ k < (m.row l[i]).length := by simpa using hc4
        omega
      have hpa : m.gr.succTo l[i] k = m.gr.succ l[i] := by rw [hkg, ← gr_len]; exact Gr.succTo_all _ _
      rw [hpa] at hmk hex hxl hlw ⊢
      have hf : m.T - i = (m.T - (i + 1)) + 1 := by omega
      have hcl2 : m.gr.close (m.T - (i + 1)) (i + 1) ((m.gr.succ l[i]).foldl pmeet l) = M := by
        rw [← hcl, hf]; conv => rhs; unfold Gr.close
        rw [dif_pos hlt]
      refine cd_exit (xE (xE (xt_exit_block (xB (xT (cR (sV (vM rfl) (sV (v_add rfl rfl (by unfold I64 at *; omega)) (sV (vA rfl) (sN (nK [0, 1, 4, 6, 8, 9] rfl (nx_xt ?_))))))))))))
      refine xt_ag (i + 1, (m.gr.succ l[i]).foldl pmeet l, lw) ⟨hxl, hmk, hcl2⟩ (by show _ - _ < _ - _; omega)
  · skip
    have hge2 : ¬ i < l.length := by simpa using hc3
    have hlM : l = M := by rw [← hcl]; exact (Gr.close_end _ (by omega)).symm
    clear hcl hM0 hM
    subst hlM
    refine cd_exit (xE (xE (xt_exit_block ?_)))
    exact xt_use (hcont lv la lcp hlv hla hmet)
set_option maxHeartbeats 2000000 in
set_option maxRecDepth 100000 in
theorem pic_rts_c (hv : RowI R v roots) (hrl : roots.length ≤ 1000000) {la : Option Addr} {lcp : Nat} (hlv : lv = .slice la l.length lcp) (hla : 0 < l.length → ∃ b, la = some ⟨b, 0, none⟩) (hll : l.length ≤ 600001) {sv fv : Value}
    (hcont : ∀ rv, Xt ⟨Tryz.prog, none, 176, [], w0⟩ .normal Q [(4, .pointer (some ⟨b4, 0, none⟩)), (8, .pointer (some ⟨b8, 0, none⟩))] (pt b8 (cl [sv, fv, rv, .int .i64 0] 42) :: vec rv 3 1 roots.length (ints (roots.map fun r => 1 + idx l r)) :: vec lv 3 1 l.length (ints l) :: R :: hr)) :
    Cd ⟨Tryz.prog, none, 176, [], w0⟩ (cdr (cdl (cdr (cdr (cdr (cdr (cdr (cdr (cdr (cdr (fbody Tryz.f9))))))))))) Q [(1, v), (4, .pointer (some ⟨b4, 0, none⟩)), (6, lv), (8, .pointer (some ⟨b8, 0, none⟩)), (16, .int .i64 0)] (pt b8 (cl [sv, fv, .slice none 0 0, .int .i64 0] 42) :: vec lv 3 1 l.length (ints l) :: R :: hr) := by
  obtain ⟨ra, rcp, hv1, _⟩ := id hv
  refine cd_vecnil 3 1 ?_
  refine cd_block (cd_loop (σ := Nat × Value) (fun q => [(1, v), (4, .pointer (some ⟨b4, 0, none⟩)), (6, lv), (8, .pointer (some ⟨b8, 0, none⟩)), (16, .int .i64 (q.1 : Nat))]) (fun q => pt b8 (cl [sv, fv, q.2, .int .i64 0] 42) :: vec q.2 3 1 q.1 (ints ((roots.map fun r => 1 + idx l r).take q.1)) :: vec lv 3 1 l.length (ints l) :: R :: hr) (fun q => q.1 ≤ roots.length) (fun q => roots.length - q.1) (0, .slice none 0 0) (Nat.zero_le _) ⟨rfl, rfl, rfl, rfl, rfl, trivial⟩ (by repeat (first | exact Sub.refl _ | exact Sub.nil _ | refine Sub.sel (by repeat (first | exact Sel.here | apply Sel.there)) ?_ | apply Sub.cons)) ?_)
  rintro ⟨i, rv⟩ hi
  dsimp only at hi ⊢
  refine cS (cS (cR (sV (vM rfl) (sV (vM rfl) (sV (v_len (congrArg some hv1) Tryz.underlying27) (sV (v_lss rfl rfl) (sN (nK [1, 4, 6, 8, 16, 158] rfl (nT (cC rfl (fun hc => ?_) (fun hc => ?_)))))))))))
  · skip
    have hlt : i < roots.length := by simpa using hc
    obtain ⟨b, o, cp', hv2, hrd⟩ := hv.at hlt
    have hix := idx_lt (l := l) (t := roots[i])
    have ht : (roots.map fun r => 1 + idx l r).take (i + 1) = (roots.map fun r => 1 + idx l r).take i ++ [1 + idx l roots[i]] := take_map_succ hlt
    refine cK (xT (cS (cd_block (cd_drawh (ork [(0, 2), (1, 2), (2, 1), (3, 2), (4, 2), (5, 2), (6, 2), (7, 1), (8, 1), (9, 2), (10, 0), (11, 0), (12, 2), (13, 2), (14, 0)] .nil) (fun i => !(Nat.beq i 11 || Nat.beq i 14)) mixed (by kernel_rfl) ?_))))
    refine dV rfl (vF rfl fa42_0 rfl) (dV rfl (vF rfl fa38_2 rfl) (dr_v rfl (vL rfl ld27) ?_))
    refine dV rfl (vM rfl) (dV rfl (vM rfl) (dV rfl (vM rfl) (dV rfl (v_ixo i (congrArg some hv2) rfl sl27 rfl hlt) (dr_v rfl (vL rfl ld3) ?_))))
    refine dr_clr rfl rfl rfl en40 rfl (rindex_ct (rowI_vec hlv hla rfl) (by omega)) ?_
    refine dV rfl (v_add rfl rfl (by unfold I64 at *; omega)) (dr_eff rfl (st_buildSlice (cells := [.int .i64 (1 + idx l roots[i])]) rfl Tryz.underlying27 inf3 rfl rfl (by kernel_rfl) (ltn rfl) fun b171 => dr_nx ?_))
    refine dr_eff rfl (st_append (news := [.int .i64 (1 + idx l roots[i])]) rfl rfl Tryz.underlying27 inf3 rfl (ltn rfl) (by repeat (first | exact Sel.here | apply Sel.there)) rfl (fun j u hu => by repeat (first | exact at_here (rd_cl (by simpa using hu)) | apply at_there)) (ones rfl) (by omega) (by omega) (ltn rfl) fun rv' hrv' hv1' => dr_nx ?_)
    refine dV rfl (vF rfl fa42_0 rfl) (dV rfl (vF rfl fa38_2 rfl) (dr_eff rfl (st_sto rfl rfl sz27 (dr_nx ?_))))
    refine dr_nil (nK [1, 4, 6, 8, 16] rfl (nx_xt (xB (xT (cR (sV (vM rfl) (sV (v_add rfl rfl (by unfold I64 at *; omega)) (sV (vA rfl) (sN (nK [1, 4, 6, 8, 16] rfl (nx_xt ?_)))))))))))
    rw [show ints ((roots.map fun r => 1 + idx l r).take i) ++ [.int .i64 (1 + idx l roots[i])] = ints ((roots.map fun r => 1 + idx l r).take (i + 1)) by rw [ht]; simp [ints]]
    refine xt_ag (i + 1, rv') hlt (by show _ - _ < _ - _; omega)
  · skip
    have hge : i = roots.length := by have : roots.length ≤ i := by simpa using hc
                                      omega
    rw [hge, List.take_of_length_le (by simp)]
    refine cd_exit (xE (xE (xt_exit_block ?_)))
    exact xt_use (hcont rv)
set_option maxHeartbeats 2000000 in
set_option maxRecDepth 100000 in
theorem rpicture_ct (hS : Shp S L.vs m.sh) (h : AM.Good m ly ln lf φ A) (hv : RowI S v roots) (hrl : roots.length ≤ 1000000) :
    Ct Tryz.prog 9 #[.pointer (some ⟨L.hb, 0, none⟩), v] [hR L m, wR L m, eR L m, oR L m, S] fun u h' => ∃ sv fv rv us, u = .agg #[sv, fv, rv, .int .i64 (m.pictured roots).2] ∧ PF sv fv rv us (m.pictured roots).1 ∧ h' = [pR sv fv rv us (m.pictured roots).1, hR L m, wR L m, eR L m, oR L m, S] := by
  have z := h.g.sz
  have hT := h.g.T_le
  obtain ⟨ra, rcp, hv1, _⟩ := id hv
  unfold AM.pictured
  refine ct_of (n := 176) Tryz.func9 rfl rfl (len rfl) fun hr w0 => ?_
  simp only [List.cons_append, List.nil_append]
  refine cS (cR (st_alc al42 fun b4 => ?_))
  refine sN (nT (cS (cR (sV (vM rfl) (sV (vM rfl) (st_clr rfl rfl en36 rfl (rrooted_ct h.g hv hrl) ?_))))))
  refine sV (vA rfl) (sN (nK [0, 1, 4, 5] rfl (nT (cS (cS (cR (sV (vM rfl) (sV (v_neq rfl rfl) (sN (nK [0, 1, 4, 5, 21] rfl (nT (cC rfl (fun hc => ?_) (fun hc => ?_)))))))))))))
  · skip
    rw [if_pos (show m.rooted roots ≠ 0 by simpa using hc)]
    refine cd_vecnil 3 1 ?_
    refine cd_vecnil 3 1 ?_
    refine cd_vecnil 27 1 ?_
    refine cd_star0 (cd_pack [vec (.slice none 0 0) 3 1 0 [], vec (.slice none 0 0) 3 1 0 [], vec (.slice none 0 0) 27 1 0 [], Res.star (rowsI [] [])] ?_)
    refine cS (cR (sV (vM rfl) (sV (v_build (cells := [.slice none 0 0, .slice none 0 0, .slice none 0 0, .int .i64 (m.rooted roots)]) rfl (fun _ => by kernel_rfl)) ?_)))
    refine st_stoW rfl rfl sz42 rfl rfl ?_
    refine sN (nK [0, 1, 4] rfl (nT (cT (xR ?_))))
    exact xt_retV (.cellN rfl ld42 rfl (by repeat (first | exact Sel.here | apply Sel.there)) .nil) ⟨.slice none 0 0, .slice none 0 0, .slice none 0 0, [], rfl, ⟨.inl ⟨rfl, rfl, rfl⟩, .inl ⟨rfl, rfl, rfl⟩, .inl ⟨rfl, rfl, rfl⟩, rfl, fun j u l hu => by simp at hu⟩, rfl⟩ (by repeat (first | exact Sub.refl _ | exact Sub.nil _ | refine Sub.sel (by repeat (first | exact Sel.here | apply Sel.there)) ?_ | apply Sub.cons))
  · skip
    have hro : m.rooted roots = 0 := by simpa using hc
    rw [if_neg (show ¬ m.rooted roots ≠ 0 by rw [hro]; simp)]
    have hobj := h.root_obj hro
    refine cK (xT (cS (cR (sV (vA rfl) (sN (nK [0, 1, 4, 6] rfl (nT (cS (cS (cR (sV (vA rfl) (sN (nT (cd_block (cd_vecnil 3 1 ?_)))))))))))))))
    refine cd_loop (σ := Nat × Value) (fun q => [(0, .pointer (some ⟨L.hb, 0, none⟩)), (1, v), (4, .pointer (some ⟨b4, 0, none⟩)), (6, q.2), (7, .int .i64 (q.1 : Nat))]) (fun q => vec q.2 3 1 ((roots.take q.1).foldl pmeet []).length (ints ((roots.take q.1).foldl pmeet [])) :: pt b4 (cl [.slice none 0 0, .slice none 0 0, .slice none 0 0, .int .i64 0] 42) :: ([hR L m, wR L m, eR L m, oR L m, S] ++ hr)) (fun q => q.1 ≤ roots.length ∧ PM (AM.Obj ly ln lf) ((roots.take q.1).foldl pmeet [])) (fun q => roots.length - q.1) (0, .slice none 0 0) ⟨Nat.zero_le _, PM.nil⟩ ⟨rfl, rfl, rfl, rfl, rfl, trivial⟩ (Sub.refl _) ?_
    rintro ⟨i, lv⟩ ⟨hi, hmet⟩
    have hml := h.g.pm_len hmet
    dsimp only at hi hmet hml ⊢
    simp only [List.cons_append, List.nil_append]
    refine cS (cS (cR (sV (vM rfl) (sV (vM rfl) (sV (v_len (congrArg some hv1) Tryz.underlying27) (sV (v_lss rfl rfl) (sN (nK [0, 1, 4, 6, 7, 27] rfl (nT (cC rfl (fun hc1 => ?_) (fun hc1 => ?_)))))))))))
    · skip
      have hlt : i < roots.length := by simpa using hc1
      obtain ⟨b, o, cp', hv2, hrd⟩ := hv.at hlt
      have htk : (roots.take (i + 1)).foldl pmeet [] = pmeet ((roots.take i).foldl pmeet []) roots[i] := by rw [List.take_succ_eq_append_getElem hlt, pmeets_snoc]
      refine cK (xT (cS (cd_block (cR (sV (vM rfl) (sV (vM rfl) (sV (vM rfl) (sV (v_ixo i (congrArg some hv2) rfl sl27 rfl hlt) (sV (vL rfl ld3) ?_)))))))))
      refine st_cl rfl rfl en37 rfl (rmeet_ct (l := (roots.take i).foldl pmeet []) (lv := lv) (t := roots[i]) (by omega)) ?_
      rintro lv' h' rfl
      simp only [List.cons_append, List.nil_append]
      refine sV (vA rfl) (sN (nK [0, 1, 4, 6, 7] rfl (nx_xt (xB (xT (cR (sV (vM rfl) (sV (v_add rfl rfl (by unfold I64 at *; omega)) (sV (vA rfl) (sN (nK [0, 1, 4, 6, 7] rfl (nx_xt ?_))))))))))))
      rw [← htk]
      refine xt_ag (i + 1, lv') ⟨hlt, by rw [htk]; exact hmet.meet (hobj _ (List.getElem_mem hlt))⟩ (by show _ - _ < _ - _; omega)
    · skip
      have hge : roots.take i = roots := List.take_of_length_le (by simpa using hc1)
      rw [hge] at hmet hml ⊢
      refine cd_exit (xE (xE (xt_exit_block (xT (cS (cR (sV (v_build (cells := [.slice none 0 0, .slice none 0 0, .slice none 0 0, .int .i64 0]) rfl (fun _ => by kernel_rfl)) ?_)))))))
      refine st_alc al42 fun b8 => ?_
      refine st_stoW rfl rfl sz42 rfl rfl ?_
      refine sN (nK [0, 1, 4, 6, 8] rfl (nT (cS (cS (cR (sV (vA rfl) (sN (nT (cd_use (pic_meets_c (L := L) (m := m) (S := S) (v := v) (b4 := b4) (b8 := b8) (lv := lv) (roots := roots) (w0 := w0) (hr := pt b8 (cl [.slice none 0 0, .slice none 0 0, .slice none 0 0, .int .i64 0] 42) :: pt b4 (cl [.slice none 0 0, .slice none 0 0, .slice none 0 0, .int .i64 0] 42) :: hr) hS h hmet fun lw la lcp hlw hla hmM => ?_))))))))))
      have hmM2 := h.g.pm_len hmM
      refine xT (cS (cS (cR (sV (vA rfl) (sN (nT (cd_use (pic_objs_c (L := L) (m := m) (S := S) (v := v) (b4 := b4) (b8 := b8) (lv := lw) (roots := roots) (w0 := w0) (hr := pt b4 (cl [.slice none 0 0, .slice none 0 0, .slice none 0 0, .int .i64 0] 42) :: hr) hS h hmM rfl hlw hla fun us sv fv hul hform => ?_))))))))
      refine xT (cS (cS (cR (sV (vA rfl) (sN (nK [1, 4, 6, 8, 16] rfl (nT (cd_use (pic_rts_c (R := S) (v := v) (b4 := b4) (b8 := b8) (lv := lw) (roots := roots) (w0 := w0) (l := m.gr.met m.T roots) (sv := sv) (fv := fv) (hr := vec sv 3 1 (m.gr.met m.T roots).length (ints (m.pic roots).shapes) :: vec fv 27 1 (m.gr.met m.T roots).length us :: Res.star (rowsI us (m.pic roots).fields) :: pt b4 (cl [.slice none 0 0, .slice none 0 0, .slice none 0 0, .int .i64 0] 42) :: ([hR L m, wR L m, eR L m, oR L m] ++ hr)) hv hrl hlw hla (by omega) fun rv => ?_)))))))))
      obtain ⟨p1, p2, p3⟩ := pic_parts m roots
      have e1 : (m.pic roots).shapes.length = (m.gr.met m.T roots).length := by rw [p1, List.length_map]
      have e2 : (m.pic roots).fields.length = (m.gr.met m.T roots).length := by rw [p2, List.length_map]
      have e3 : (m.pic roots).roots.length = roots.length := by rw [p3, List.length_map]
      simp only [List.cons_append, List.nil_append]
      refine xt_vform (v := sv) (n := (m.gr.met m.T roots).length) (l := ints (m.pic roots).shapes) (by repeat (first | exact Sel.here | apply Sel.there)) fun f1 => ?_
      refine xt_vform (v := fv) (n := (m.gr.met m.T roots).length) (l := us) (by repeat (first | exact Sel.here | apply Sel.there)) fun f2 => ?_
      refine xt_vform (v := rv) (n := roots.length) (l := ints (roots.map fun r => 1 + idx (m.gr.met m.T roots) r)) (by repeat (first | exact Sel.here | apply Sel.there)) fun f3 => ?_
      refine xT (cS (cR (sV (v_loadW rfl ld42 rfl (by repeat (first | exact Sel.here | apply Sel.there))) ?_)))
      have o1 := VForm.one f1; have o2 := VForm.one f2; have o3 := VForm.one f3
      refine st_stoW rfl rfl sz42 rfl (by simp only [List.all_cons, List.all_nil, o1, o2, o3]; rfl) ?_
      refine sN (nK [4] rfl (nT (cT (xt_pack [vec sv 3 1 (m.pic roots).shapes.length (ints (m.pic roots).shapes), vec rv 3 1 (m.pic roots).roots.length (ints (m.pic roots).roots), vec fv 27 1 (m.pic roots).fields.length us, Res.star (rowsI us (m.pic roots).fields)] ?_ (by rw [e1, e2, e3, p3]; repeat (first | exact Pk.nil | (apply Pk.cons; (repeat (first | exact Sel.here | apply Sel.there)))))))))
      exact xt_retV (.cellN rfl ld42 rfl (by repeat (first | exact Sel.here | apply Sel.there)) .nil) ⟨sv, fv, rv, us, rfl, ⟨by rw [e1]; exact f1, by rw [e3, p3]; exact f3, by rw [e2]; exact f2, by rw [e2]; exact hul, hform⟩, rfl⟩ (by repeat (first | exact Sub.refl _ | exact Sub.nil _ | refine Sub.sel (by repeat (first | exact Sel.here | apply Sel.there)) ?_ | apply Sub.cons))
end
end Go.Proofs.YtmhmpjgkkpbnnaaGreat
namespace Go.Proofs.YtmhmpjgkkpbnnaaGreat
open Go.Ck Fx Go.Hm Go.Hm.AM
attribute [local irreducible] St Cd Xt Nx DrL LsW
section
variable {R S : Res} {v : Value} {sh : List (List Bool)}
theorem arr_zero (n : Nat) : arr n (fun _ => 0) = List.replicate n (.int .i64 0) := by
  unfold arr ints
  apply List.ext_getElem
  · simp
  · intro i h1 h2; simp
set_option maxHeartbeats 2000000 in
set_option maxRecDepth 100000 in
theorem rnew_ct {half young : Int} (h : Shp S v sh) (hl : sh.length ≤ 1000000) : Ct Tryz.prog 28 #[v, .int .i64 half, .int .i64 young] [S] fun u h' =>
      (newErr sh half young ≠ 0 ∧ u = .tuple #[.pointer none, .int .i64 (newErr sh half young)] ∧ h' = [S]) ∨
      (newErr sh half young = 0 ∧ ∃ L : RL, L.vs = v ∧ u = .tuple #[.pointer (some ⟨L.hb, 0, none⟩), .int .i64 0] ∧ h' = rSH L (AM.new' sh half young) S) := by
  obtain ⟨sa, scp, hv, _⟩ := id h
  subst hv
  refine ct_of (n := 50) Tryz.func28 rfl rfl (len rfl) fun hr w0 => ?_
  refine cS (cR (sV (vA rfl) (sV (vA rfl) (sN (nT (cS (cR (sV (vM rfl) (st_clr rfl rfl en62 rfl (rchecked_ct h hl) ?_)))))))))
  refine sV (vA rfl) (sN (nK [0, 1, 2, 6, 7, 8] rfl (nT (cS (cS (cR (sV (vM rfl) (sV (v_neq rfl rfl) (sN (nK [0, 1, 2, 6, 7, 8, 14] rfl (nT (cC rfl (fun c1 => ?_) (fun c1 => ?_)))))))))))))
  · skip
    have hs : sized sh = 3 := by unfold sized at c1 ⊢; split <;> simp_all
    have hne : newErr sh half young = 3 := by unfold newErr; rw [c1]; simp
    refine cS (cR (sV (vM rfl) (sV (vA rfl) (sV (vA rfl) (sN (nK [0, 1, 2, 6, 7] rfl (nT (cT (xR ?_)))))))))
    exact xt_rt rfl (.inl ⟨by rw [hne]; decide, by rw [hne, hs]; rfl, rfl⟩)
  · skip
    refine cK (xT (cS (cS (cR (sV (vM rfl) (sV (v_gtr rfl rfl) (sV (vM rfl) (st_cut (k := 6) (d := 21) (v := .bool (decide (4096 < half) || decide (1024 < young))) (fun hcut => bool_want (b := decide (4096 < half)) false (fun hg => ?_) (fun hg => ?_)) ?_))))))))
    · refine st_sk rfl rfl hg ?_
      refine st_sk rfl rfl hg ?_
      refine sV (v_pick_true (bool_ev rfl hg) rfl) ?_
      exact hcut _ (ssub_head (by first | rfl | (rw [hg]; rfl) | simp_all) (uS rfl (uS rfl (ssub_refl))))
    · skip
      refine st_vg rfl (bG rfl hg) (vM rfl) (st_vg rfl (bG rfl hg) (v_gtr rfl rfl) (sV (vP (bool_ev rfl hg) rfl) ?_))
      exact hcut _ (ssub_head (by first | rfl | (rw [hg]; rfl) | simp_all) (uS rfl (uS rfl (ssub_refl))))
    refine sN (nK [0, 1, 2, 6, 7, 21] rfl (nT (cC rfl (fun c2 => ?_) (fun c2 => ?_))))
    · skip
      have hne : newErr sh half young = 3 := by unfold newErr; rw [c1, Bool.false_or, if_pos c2]
      refine cS (cR (sV (vA rfl) (sV (vA rfl) (sN (nK [0, 1, 2, 6, 7] rfl (nT (cT (xR ?_))))))))
      exact xt_rt rfl (.inl ⟨by rw [hne]; decide, by rw [hne]; rfl, rfl⟩)
    · skip
      refine cK (xT (cS (cS (cR (sV (vM rfl) (sV (v_lss rfl rfl) (sV (vM rfl) (st_cut (k := 6) (d := 27) (v := .bool (decide (half < 1) || decide (young < 1))) (fun hcut => bool_want (b := decide (half < 1)) false (fun hg => ?_) (fun hg => ?_)) ?_))))))))
      · refine st_sk rfl rfl hg ?_
        refine st_sk rfl rfl hg ?_
        refine sV (v_pick_true (bool_ev rfl hg) rfl) ?_
        exact hcut _ (ssub_head (by first | rfl | (rw [hg]; rfl) | simp_all) (uS rfl (uS rfl (ssub_refl))))
      · skip
        refine st_vg rfl (bG rfl hg) (vM rfl) (st_vg rfl (bG rfl hg) (v_lss rfl rfl) (sV (vP (bool_ev rfl hg) rfl) ?_))
        exact hcut _ (ssub_head (by first | rfl | (rw [hg]; rfl) | simp_all) (uS rfl (uS rfl (ssub_refl))))
      refine sN (nK [0, 1, 2, 6, 7, 27] rfl (nT (cC rfl (fun c3 => ?_) (fun c3 => ?_))))
      · skip
        have hne : newErr sh half young = 1 := by unfold newErr; rw [c1, Bool.false_or, if_neg (by rw [c2]; simp), if_pos c3]
        refine cS (cR (sV (vA rfl) (sV (vA rfl) (sN (nK [0, 1, 2, 6, 7] rfl (nT (cT (xR ?_))))))))
        exact xt_rt rfl (.inl ⟨by rw [hne]; decide, by rw [hne]; rfl, rfl⟩)
      · skip
        have hne : newErr sh half young = 0 := by unfold newErr; rw [c1, Bool.false_or, if_neg (by rw [c2]; simp), if_neg (by rw [c3]; simp)]
        simp only [Bool.or_eq_false_iff, decide_eq_false_iff_not, Int.not_lt] at c2 c3
        have hz : Sz { AM.new' sh half young with old := 0 } := by
          have hq : sized sh = 0 := by simpa using c1
          unfold sized at hq
          by_cases hb : (decide (60 < (sh.length : Int)) || sh.any long) = true
          · rw [if_pos hb] at hq; cases hq
          · simp only [Bool.or_eq_true, decide_eq_true_eq, not_or, List.any_eq_true, not_exists, not_and] at hb
            exact ⟨c3.2, by show young ≤ 400000; omega, c3.1, by show half ≤ 100000; omega, by show sh.length ≤ 100; omega, fun l hl => by have := hb.2 l hl; unfold long at this; simp at this; omega⟩
        refine cK (xT (cS (cR (sV (vM rfl) (sV (vM rfl) (sV (v_mul rfl rfl (by unfold I64 at *; omega)) (sV (v_add rfl rfl (by unfold I64 at *; omega)) (sV (v_add rfl rfl (by unfold I64 at *; omega)) (sV (vA rfl) (sN (nK [0, 1, 2, 6, 7, 9] rfl (nT (cS (cd_vecnil 147 2 ?_))))))))))))))
        refine cd_drawh (ork [(0, 2), (1, 2), (2, 2), (3, 2), (5, 2), (7, 2)] (.three 4 (.two 6 (ork [(8, 0), (9, 2), (10, 0), (11, 2)] .nil) 8 (ork [(6, 0), (9, 2), (10, 0), (11, 2)] .nil)) 6 (.two 4 (ork [(8, 0), (9, 2), (10, 0), (11, 2)] .nil) 8 (ork [(4, 0), (9, 2), (10, 0), (11, 2)] .nil)) 8 (.two 4 (ork [(6, 0), (9, 2), (10, 0), (11, 2)] .nil) 6 (ork [(4, 0), (9, 2), (10, 0), (11, 2)] .nil)))) (fun i => !(Nat.beq i 4 || Nat.beq i 6 || Nat.beq i 8 || Nat.beq i 10)) mixed (by kernel_rfl) ?_
        refine dV rfl (vM rfl) (dV rfl (vM rfl) (dV rfl (vM rfl) (dV rfl (vM rfl) (dV rfl (vM rfl) (dV rfl (vM rfl) (dr_cutK (α := Nat × Nat × Nat × Nat) (fun x => [(10, .pointer (some ⟨x.1, 0, none⟩))]) (fun x => hR ⟨x.1, x.2.1, x.2.2.1, x.2.2.2, .slice sa sh.length scp, .slice none 0 0⟩ { AM.new' sh half young with old := 0 } :: pt x.2.1 (cl (List.replicate (young + 2 * half + 1).toNat (.int .i64 0)) 3) :: pt x.2.2.1 (cl (List.replicate (young + 2 * half + 1).toNat (.int .i64 0)) 3) :: pt x.2.2.2 (cl (List.replicate (young + 2 * half + 1).toNat (.int .i64 0)) 3) :: vec (.slice none 0 0) 147 2 0 [] :: S :: hr) (fun x => ?_) (fun hcont => ?_)))))))
        · skip
          refine nT ?_
          obtain ⟨hb, wb, eb, ob⟩ := x
          dsimp only
          refine cS (cR (sV (vM rfl) (sV (vM rfl) (st_clr rfl rfl en42 rfl (base_ct (L := ⟨hb, wb, eb, ob, .slice sa sh.length scp, .slice none 0 0⟩) (m := { AM.new' sh half young with old := 0 }) hz) ?_))))
          refine sV (vN rfl) (sV (vF rfl fa53_7 rfl) (st_sto rfl rfl sz3 ?_))
          refine sN (nK [10] rfl (nT (cS (cR (sV (vM rfl) (sV (vA rfl) (sV (vA rfl) (sN (nK [6, 7] rfl (nT (cT (xt_rt rfl (.inr ⟨hne, ⟨hb, wb, eb, ob, .slice sa sh.length scp, .slice none 0 0⟩, rfl, rfl, rfl⟩) ?_))))))))))))
          rw [← arr_zero]
          unfold rSH
          exact (by repeat (first | exact Sub.refl _ | exact Sub.nil _ | refine Sub.sel (by repeat (first | exact Sel.here | apply Sel.there)) ?_ | apply Sub.cons))
        · skip
          refine dr_three rfl rfl rfl ?_ ?_ ?_
          · skip
            refine st_make (n := (young + 2 * half + 1).toNat) rfl rfl (by omega) Tryz.underlying27 inf3 rfl (by omega) (by omega) (ltn rfl) fun b37 => dr_nx ?_
            refine dr_two rfl rfl ?_ ?_
            · skip
              refine st_make (n := (young + 2 * half + 1).toNat) rfl rfl (by omega) Tryz.underlying27 inf3 rfl (by omega) (by omega) (ltn rfl) fun b39 => dr_nx ?_
              refine dr_eff rfl (st_make (n := (young + 2 * half + 1).toNat) rfl rfl (by omega) Tryz.underlying27 inf3 rfl (by omega) (by omega) (ltn rfl) fun b41 => dr_nx ?_)
              refine dV rfl (v_build (cells := [.slice sa sh.length scp, .int .i64 half, .int .i64 young, .slice (some ⟨b37, 0, none⟩) (young + 2 * half + 1).toNat (young + 2 * half + 1).toNat, .slice (some ⟨b39, 0, none⟩) (young + 2 * half + 1).toNat (young + 2 * half + 1).toNat, .slice (some ⟨b41, 0, none⟩) (young + 2 * half + 1).toNat (young + 2 * half + 1).toNat, .int .i64 1, .int .i64 0, .bool false, .bool false, .int .i64 0, .int .i64 0, .slice none 0 0]) rfl (fun _ => by kernel_rfl)) ?_
              refine dr_eff rfl (st_bx rfl rfl fun b43 => dr_nx ?_)
              refine dV rfl (vA rfl) ?_
              exact dr_nil (hcont (b43, b37, b39, b41) _ _ ⟨rfl, trivial⟩ (by repeat (first | exact Sub.refl _ | exact Sub.nil _ | refine Sub.sel (by repeat (first | exact Sel.here | apply Sel.there)) ?_ | apply Sub.cons)))
            · skip
              refine st_make (n := (young + 2 * half + 1).toNat) rfl rfl (by omega) Tryz.underlying27 inf3 rfl (by omega) (by omega) (ltn rfl) fun b41 => dr_nx ?_
              refine dr_eff rfl (st_make (n := (young + 2 * half + 1).toNat) rfl rfl (by omega) Tryz.underlying27 inf3 rfl (by omega) (by omega) (ltn rfl) fun b39 => dr_nx ?_)
              refine dV rfl (v_build (cells := [.slice sa sh.length scp, .int .i64 half, .int .i64 young, .slice (some ⟨b37, 0, none⟩) (young + 2 * half + 1).toNat (young + 2 * half + 1).toNat, .slice (some ⟨b39, 0, none⟩) (young + 2 * half + 1).toNat (young + 2 * half + 1).toNat, .slice (some ⟨b41, 0, none⟩) (young + 2 * half + 1).toNat (young + 2 * half + 1).toNat, .int .i64 1, .int .i64 0, .bool false, .bool false, .int .i64 0, .int .i64 0, .slice none 0 0]) rfl (fun _ => by kernel_rfl)) ?_
              refine dr_eff rfl (st_bx rfl rfl fun b43 => dr_nx ?_)
              refine dV rfl (vA rfl) ?_
              exact dr_nil (hcont (b43, b37, b39, b41) _ _ ⟨rfl, trivial⟩ (by repeat (first | exact Sub.refl _ | exact Sub.nil _ | refine Sub.sel (by repeat (first | exact Sel.here | apply Sel.there)) ?_ | apply Sub.cons)))
          · skip
            refine st_make (n := (young + 2 * half + 1).toNat) rfl rfl (by omega) Tryz.underlying27 inf3 rfl (by omega) (by omega) (ltn rfl) fun b39 => dr_nx ?_
            refine dr_two rfl rfl ?_ ?_
            · skip
              refine st_make (n := (young + 2 * half + 1).toNat) rfl rfl (by omega) Tryz.underlying27 inf3 rfl (by omega) (by omega) (ltn rfl) fun b37 => dr_nx ?_
              refine dr_eff rfl (st_make (n := (young + 2 * half + 1).toNat) rfl rfl (by omega) Tryz.underlying27 inf3 rfl (by omega) (by omega) (ltn rfl) fun b41 => dr_nx ?_)
              refine dV rfl (v_build (cells := [.slice sa sh.length scp, .int .i64 half, .int .i64 young, .slice (some ⟨b37, 0, none⟩) (young + 2 * half + 1).toNat (young + 2 * half + 1).toNat, .slice (some ⟨b39, 0, none⟩) (young + 2 * half + 1).toNat (young + 2 * half + 1).toNat, .slice (some ⟨b41, 0, none⟩) (young + 2 * half + 1).toNat (young + 2 * half + 1).toNat, .int .i64 1, .int .i64 0, .bool false, .bool false, .int .i64 0, .int .i64 0, .slice none 0 0]) rfl (fun _ => by kernel_rfl)) ?_
              refine dr_eff rfl (st_bx rfl rfl fun b43 => dr_nx ?_)
              refine dV rfl (vA rfl) ?_
              exact dr_nil (hcont (b43, b37, b39, b41) _ _ ⟨rfl, trivial⟩ (by repeat (first | exact Sub.refl _ | exact Sub.nil _ | refine Sub.sel (by repeat (first | exact Sel.here | apply Sel.there)) ?_ | apply Sub.cons)))
            · skip
              refine st_make (n := (young + 2 * half + 1).toNat) rfl rfl (by omega) Tryz.underlying27 inf3 rfl (by omega) (by omega) (ltn rfl) fun b41 => dr_nx ?_
              refine dr_eff rfl (st_make (n := (young + 2 * half + 1).toNat) rfl rfl (by omega) Tryz.underlying27 inf3 rfl (by omega) (by omega) (ltn rfl) fun b37 => dr_nx ?_)
              refine dV rfl (v_build (cells := [.slice sa sh.length scp, .int .i64 half, .int .i64 young, .slice (some ⟨b37, 0, none⟩) (young + 2 * half + 1).toNat (young + 2 * half + 1).toNat, .slice (some ⟨b39, 0, none⟩) (young + 2 * half + 1).toNat (young + 2 * half + 1).toNat, .slice (some ⟨b41, 0, none⟩) (young + 2 * half + 1).toNat (young + 2 * half + 1).toNat, .int .i64 1, .int .i64 0, .bool false, .bool false, .int .i64 0, .int .i64 0, .slice none 0 0]) rfl (fun _ => by kernel_rfl)) ?_
              refine dr_eff rfl (st_bx rfl rfl fun b43 => dr_nx ?_)
              refine dV rfl (vA rfl) ?_
              exact dr_nil (hcont (b43, b37, b39, b41) _ _ ⟨rfl, trivial⟩ (by repeat (first | exact Sub.refl _ | exact Sub.nil _ | refine Sub.sel (by repeat (first | exact Sel.here | apply Sel.there)) ?_ | apply Sub.cons)))
          · skip
            refine st_make (n := (young + 2 * half + 1).toNat) rfl rfl (by omega) Tryz.underlying27 inf3 rfl (by omega) (by omega) (ltn rfl) fun b41 => dr_nx ?_
            refine dr_two rfl rfl ?_ ?_
            · skip
              refine st_make (n := (young + 2 * half + 1).toNat) rfl rfl (by omega) Tryz.underlying27 inf3 rfl (by omega) (by omega) (ltn rfl) fun b37 => dr_nx ?_
              refine dr_eff rfl (st_make (n := (young + 2 * half + 1).toNat) rfl rfl (by omega) Tryz.underlying27 inf3 rfl (by omega) (by omega) (ltn rfl) fun b39 => dr_nx ?_)
              refine dV rfl (v_build (cells := [.slice sa sh.length scp, .int .i64 half, .int .i64 young, .slice (some ⟨b37, 0, none⟩) (young + 2 * half + 1).toNat (young + 2 * half + 1).toNat, .slice (some ⟨b39, 0, none⟩) (young + 2 * half + 1).toNat (young + 2 * half + 1).toNat, .slice (some ⟨b41, 0, none⟩) (young + 2 * half + 1).toNat (young + 2 * half + 1).toNat, .int .i64 1, .int .i64 0, .bool false, .bool false, .int .i64 0, .int .i64 0, .slice none 0 0]) rfl (fun _ => by kernel_rfl)) ?_
              refine dr_eff rfl (st_bx rfl rfl fun b43 => dr_nx ?_)
              refine dV rfl (vA rfl) ?_
              exact dr_nil (hcont (b43, b37, b39, b41) _ _ ⟨rfl, trivial⟩ (by repeat (first | exact Sub.refl _ | exact Sub.nil _ | refine Sub.sel (by repeat (first | exact Sel.here | apply Sel.there)) ?_ | apply Sub.cons)))
            · skip
              refine st_make (n := (young + 2 * half + 1).toNat) rfl rfl (by omega) Tryz.underlying27 inf3 rfl (by omega) (by omega) (ltn rfl) fun b39 => dr_nx ?_
              refine dr_eff rfl (st_make (n := (young + 2 * half + 1).toNat) rfl rfl (by omega) Tryz.underlying27 inf3 rfl (by omega) (by omega) (ltn rfl) fun b37 => dr_nx ?_)
              refine dV rfl (v_build (cells := [.slice sa sh.length scp, .int .i64 half, .int .i64 young, .slice (some ⟨b37, 0, none⟩) (young + 2 * half + 1).toNat (young + 2 * half + 1).toNat, .slice (some ⟨b39, 0, none⟩) (young + 2 * half + 1).toNat (young + 2 * half + 1).toNat, .slice (some ⟨b41, 0, none⟩) (young + 2 * half + 1).toNat (young + 2 * half + 1).toNat, .int .i64 1, .int .i64 0, .bool false, .bool false, .int .i64 0, .int .i64 0, .slice none 0 0]) rfl (fun _ => by kernel_rfl)) ?_
              refine dr_eff rfl (st_bx rfl rfl fun b43 => dr_nx ?_)
              refine dV rfl (vA rfl) ?_
              exact dr_nil (hcont (b43, b37, b39, b41) _ _ ⟨rfl, trivial⟩ (by repeat (first | exact Sub.refl _ | exact Sub.nil _ | refine Sub.sel (by repeat (first | exact Sel.here | apply Sel.there)) ?_ | apply Sub.cons)))
end
end Go.Proofs.YtmhmpjgkkpbnnaaGreat
namespace Go.Ck
open Go
theorem Ct.unpair {P : Program} {k : FuncId} {args : Array Value} {pre : SH} {a b : Res} {R R' : Value → SH → Prop} (h : Ct P k args (pre ++ [Res.star [a, b]]) R) (hr : ∀ v h', R v h' → ∃ p, h' = p ++ [Res.star [a, b]] ∧ R' v (p ++ [a, b])) : Ct P k args (pre ++ [a, b]) R' := fun k' w hh => by
  have p1 : (pre ++ [a, b] ++ k').Perm ([a, b] ++ (pre ++ k')) := by rw [← List.append_assoc]; exact (List.perm_append_comm).append_right k'
  have h2 : Holds w (Res.star [a, b] :: (pre ++ k')) := star_iff.2 (hh.perm p1)
  have p3 : (Res.star [a, b] :: (pre ++ k')).Perm (pre ++ [Res.star [a, b]] ++ k') := by rw [List.append_assoc]; exact List.perm_middle.symm
  refine (h k' w (h2.perm p3)).mono fun _ _ ⟨v, h', he, hR, hH, hS⟩ => ?_
  obtain ⟨p, rfl, hR'⟩ := hr v h' hR
  have p4 : (p ++ [Res.star [a, b]] ++ k').Perm (Res.star [a, b] :: (p ++ k')) := by rw [List.append_assoc]; exact List.perm_middle
  have p5 : ([a, b] ++ (p ++ k')).Perm (p ++ [a, b] ++ k') := by rw [← List.append_assoc]; exact (List.perm_append_comm).append_right k'
  exact ⟨v, p ++ [a, b], he, hR', Holds.perm p5 (star_iff.1 (hH.perm p4)), hS⟩
end Go.Ck
namespace Go.Hm.AM
def rootsQ (x : Act) (n : Int) : Bool :=
  if (x.k == 1 || x.k == 4) || x.k == 5 then decide (0 ≤ x.a) && decide (x.a ≤ n - 1)
  else if (x.k == 2 || x.k == 3) || x.k == 6 then (decide (0 ≤ x.a) && decide (x.a ≤ n - 1)) && (decide (0 ≤ x.b) && decide (x.b ≤ n - 1))
  else decide (7 ≤ x.k) && decide (x.k ≤ 9)
def actQ (m : AM) (r : List Int) (x : Act) : Int × AM × List Int :=
  if x.k = 1 then fresh false m r x else
  if x.k = 2 then getA m r x else
  if x.k = 3 then setA m r x else
  if x.k = 4 then putA m r x else
  if x.k = 5 then (0, m, r.set x.a.toNat 0) else
  if x.k = 6 then (0, m, r.set x.a.toNat (rdx r x.b)) else
  if x.k = 7 then clr false m r else
  if x.k = 8 then flp false m r else lok false m r x
theorem oob_notQ (i : Int) (xs : List Int) : oob i xs = !(decide (0 ≤ i) && decide (i ≤ (xs.length : Int) - 1)) := by
  unfold oob
  rw [Bool.eq_iff_iff]
  simp only [Bool.or_eq_true, decide_eq_true_eq, Bool.not_eq_true', Bool.and_eq_false_iff, decide_eq_false_iff_not]
  omega
theorem act_rootsQ (m : AM) (r : List Int) (x : Act) : act false m r x = if rootsQ x r.length then actQ m r x else (1, m, r) := by
  unfold act rootsQ rootA rootB
  rw [oob_notQ, oob_notQ]
  generalize (decide (0 ≤ x.a) && decide (x.a ≤ (r.length : Int) - 1)) = a
  generalize (decide (0 ≤ x.b) && decide (x.b ≤ (r.length : Int) - 1)) = b
  unfold actQ
  by_cases k1 : x.k = 1
  · rw [k1]; cases a <;> simp
  by_cases k2 : x.k = 2
  · rw [k2]; cases a <;> cases b <;> simp
  by_cases k3 : x.k = 3
  · rw [k3]; cases a <;> cases b <;> simp
  by_cases k4 : x.k = 4
  · rw [k4]; cases a <;> simp
  by_cases k5 : x.k = 5
  · rw [k5]; cases a <;> simp
  by_cases k6 : x.k = 6
  · rw [k6]; cases a <;> cases b <;> simp
  have e : (decide (7 ≤ x.k) && decide (x.k ≤ 9)) = !(decide (x.k < 1) || decide (9 < x.k)) := by
    rw [Bool.eq_iff_iff]
    simp only [Bool.and_eq_true, decide_eq_true_eq, Bool.not_eq_true', Bool.or_eq_false_iff, decide_eq_false_iff_not]
    omega
  have e1 : ((x.k == 1 || x.k == 4) || x.k == 5) = false := by simp [k1, k4, k5]
  have e2 : ((x.k == 2 || x.k == 3) || x.k == 6) = false := by simp [k2, k3, k6]
  have q : (if ((x.k == 1 || x.k == 4) || x.k == 5) = true then a else if ((x.k == 2 || x.k == 3) || x.k == 6) = true then a && b else decide (7 ≤ x.k) && decide (x.k ≤ 9)) = !(decide (x.k < 1) || decide (9 < x.k)) := by
    rw [e1, e2, ← e]; simp
  rw [q]
  by_cases hc : (decide (x.k < 1) || decide (9 < x.k)) = true
  · rw [if_pos hc, hc, if_neg (by simp)]
  · have hq : ¬ x.k ≤ 6 := by
      simp only [Bool.or_eq_true, decide_eq_true_eq, not_or] at hc
      omega
    have hb : (decide (x.k = 2) || decide (x.k = 3) || decide (x.k = 6)) = false := by simp [k2, k3, k6]
    have hc' : (decide (x.k < 1) || decide (9 < x.k)) = false := by simpa using hc
    rw [if_neg hc, hc', decide_eq_false hq, hb]
    simp
def mfresh (m : AM) (r : List Int) (s : Int) : Int × Int × AM × List Int :=
  if ((m.alloc s).2.1 != 14 || decide (m.Y < 1 + ((m.sh.getD s.toNat []).length : Int))) = true then ((m.alloc s).1, (m.alloc s).2.1, (m.alloc s).2.2, r)
  else if (m.minor r).2.1 ≠ 0 then (0, (m.minor r).2.1, (m.minor r).2.2, r)
  else (((m.minor r).2.2.alloc s).1, ((m.minor r).2.2.alloc s).2.1, ((m.minor r).2.2.alloc s).2.2, (m.minor r).1)
section
variable {m : AM} {ly ln lf : List Int} {φ : Int → Option Nat} {A : Store} {r : List Int} {s : Int}
theorem alloc_full (he : ¬ ((m.alloc s).2.1 != 14 || decide (m.Y < 1 + ((m.sh.getD s.toNat []).length : Int))) = true) : 0 ≤ s ∧ s < m.sh.length ∧ (m.alloc s).2.1 = 14 ∧ (m.alloc s).2.2 = m ∧ 1 + ((m.sh.getD s.toNat []).length : Int) ≤ m.Y ∧ m.Y - (m.new - 1) < 1 + ((m.sh.getD s.toNat []).length : Int) := by
  simp only [Bool.or_eq_true, bne_iff_ne, ne_eq, decide_eq_true_eq, not_or, Classical.not_not] at he
  obtain ⟨h1, h2⟩ := he
  have h3 := alloc_err (m := m) (s := s) (by rw [h1]; simp)
  unfold AM.alloc at h1
  by_cases hc : (decide (s < 0) || decide ((m.sh.length : Int) ≤ s)) = true
  · rw [if_pos hc] at h1; cases h1
  · rw [if_neg hc] at h1
    simp only [Bool.or_eq_true, decide_eq_true_eq, not_or] at hc
    simp only at h1
    split at h1
    · rename_i hf
      have hf := of_decide_eq_true hf
      exact ⟨by omega, by omega, by unfold AM.alloc; rw [if_neg (by simp; omega)]; simp only; rw [if_pos (decide_eq_true (by omega))], h3.1, by omega, by omega⟩
    · cases h1
theorem Good.made_ok (h : Good m ly ln lf φ A) (he : ¬ ((m.alloc s).2.1 != 14 || decide (m.Y < 1 + ((m.sh.getD s.toNat []).length : Int))) = true) (hm : (m.minor r).2.1 = 0) : ((m.minor r).2.2.alloc s).2.1 = 0 := by
  obtain ⟨h1, h2, _, _, h5, _⟩ := alloc_full he
  have hme : m.minorErr r = 0 := by
    by_cases hq : m.minorErr r = 0
    · exact hq
    · rw [minor_no hq] at hm; exact absurd hm hq
  obtain ⟨ln', φ', g, _, s1, s2, s3, s4, s5, s6, _⟩ := h.minor hme
  have := alloc_first (m := (m.minor r).2.2) s6 (s := s) h1 (by rw [s1]; exact h2)
  rw [s1, s2, if_neg (by omega)] at this
  exact this
theorem Good.fresh_eq (h : Good m ly ln lf φ A) (x : Act) : fresh false m r x = ((mfresh m r x.b).2.1, (mfresh m r x.b).2.2.1, if (mfresh m r x.b).2.1 = 0 then (mfresh m r x.b).2.2.2.set x.a.toNat (mfresh m r x.b).1 else r) := by
  by_cases he : ((m.alloc x.b).2.1 != 14 || decide (m.Y < 1 + ((m.sh.getD x.b.toNat []).length : Int))) = true
  · have hf : mfresh m r x.b = ((m.alloc x.b).1, (m.alloc x.b).2.1, (m.alloc x.b).2.2, r) := by unfold mfresh; rw [if_pos he]
    rw [hf]
    unfold fresh
    by_cases hc : (decide (x.b < 0) || decide ((m.sh.length : Int) ≤ x.b)) = true
    · have ha : m.alloc x.b = (0, 1, m) := by unfold AM.alloc; rw [if_pos hc]
      rw [if_pos hc, ha]; rfl
    · rw [if_neg hc]
      have ht : tight false m x = false := by
        unfold tight
        simp only [Bool.or_eq_true, bne_iff_ne, ne_eq, decide_eq_true_eq] at he
        rcases he with he | he
        · have : ¬ m.Y - (m.new - 1) < 1 + ((m.sh.getD x.b.toNat []).length : Int) := fun hh => he (by
            unfold AM.alloc; rw [if_neg hc]; simp only; rw [if_pos (decide_eq_true (by omega))])
          rw [decide_eq_false this]; rfl
        · rw [decide_eq_false (by omega : ¬ 1 + ((m.sh.getD x.b.toNat []).length : Int) ≤ m.Y), Bool.and_false]
      rw [ht, if_neg (by simp)]
      rfl
  · obtain ⟨h1, h2, h3, h4, h5, h6⟩ := alloc_full he
    have ht : tight false m x = true := by
      unfold tight
      rw [decide_eq_true h6, decide_eq_true h5]; rfl
    have hcl : clr false m r = ((m.minor r).2.1, (m.minor r).2.2, if (m.minor r).2.1 = 0 then (m.minor r).1 else r) := rfl
    have hfr : fresh false m r x = if (clr false m r).1 ≠ 0 then clr false m r else newAt (clr false m r).2.1 (clr false m r).2.2 x := by
      unfold fresh
      rw [if_neg (by simp only [Bool.or_eq_true, decide_eq_true_eq, not_or]; omega), ht, if_pos rfl]
    have hmf : mfresh m r x.b = if (m.minor r).2.1 ≠ 0 then (0, (m.minor r).2.1, (m.minor r).2.2, r) else (((m.minor r).2.2.alloc x.b).1, ((m.minor r).2.2.alloc x.b).2.1, ((m.minor r).2.2.alloc x.b).2.2, (m.minor r).1) := by
      unfold mfresh; rw [if_neg he]
    by_cases hm : (m.minor r).2.1 = 0
    · have h0 := h.made_ok he hm
      rw [hfr.trans (if_neg (show ¬ (m.minor r).2.1 ≠ 0 by rw [hm]; simp)), hmf.trans (if_neg (show ¬ (m.minor r).2.1 ≠ 0 by rw [hm]; simp)), hcl]
      unfold newAt
      dsimp only
      rw [h0, if_pos hm, if_pos rfl, if_pos rfl]
    · rw [hfr.trans (if_pos (show (m.minor r).2.1 ≠ 0 from hm)), hmf.trans (if_pos hm), hcl]
      dsimp only
      rw [if_neg hm, if_neg hm]
end
end Go.Hm.AM
namespace Go.Proofs.YtmhmpjgkkpbnnaaGreat
open Go.Ck Fx Go.Hm Go.Hm.AM
attribute [local irreducible] St Cd Xt Nx DrL LsW
section
variable {L : RL} {m : AM} {S R : Res} {v1 rv : Value} {ly ln lf : List Int} {φ : Int → Option Nat} {A : Store} {r : List Int} {t k s n : Int} {w : Bool} {l : List Go.Hm.Act}
set_option maxRecDepth 100000 in
theorem limits_ct (h : ActsV R v1 l) : Reads Tryz.prog 29 #[.int .i64 n, v1] [R] (.int .i64 (playedErr n l)) := by
  obtain ⟨a, cp, hv, _⟩ := id h
  unfold playedErr
  refine ct_of (n := 14) Tryz.func29 rfl rfl (len rfl) fun hr w0 => ?_
  refine cS (cR (sV (vA rfl) (sN (nT (cS (cS (cR (sV (vM rfl) (sV (v_gtr rfl rfl) (sV (vM rfl) (st_cut (k := 7) (d := 11) (v := .bool (decide (200 < n) || decide (2000 < (l.length : Int)))) (fun hcut => bool_want (b := decide (200 < n)) false (fun hg => ?_) (fun hg => ?_)) ?_)))))))))))
  · refine st_sk rfl rfl hg ?_
    refine st_sk rfl rfl hg ?_
    refine st_sk rfl rfl hg ?_
    refine sV (v_pick_true (bool_ev rfl hg) rfl) ?_
    exact hcut _ (ssub_head (by first | rfl | (rw [hg]; rfl) | simp_all) (uS rfl (uS rfl (uS rfl (ssub_refl)))))
  · skip
    refine st_vg rfl (bG rfl hg) (vM rfl) (st_vg rfl (bG rfl hg) (v_len (congrArg some hv) Tryz.underlying23) (st_vg rfl (bG rfl hg) (v_gtr rfl rfl) (sV (vP (bool_ev rfl hg) rfl) ?_)))
    exact hcut _ (ssub_head (by first | rfl | (rw [hg]; rfl) | simp_all) (uS rfl (uS rfl (uS rfl (ssub_refl)))))
  refine sN (nK [0, 4, 11] rfl (nT (cC rfl (fun hc => ?_) (fun hc => ?_))))
  · skip
    rw [if_pos hc]
    refine cS (cR (sV (vA rfl) (sN (nK [0, 4] rfl (nT (cT (xR ?_)))))))
    exact xt_rt rfl ⟨rfl, rfl⟩ (by (repeat (refine Sub.sel (by repeat (first | exact Sel.here | apply Sel.there)) ?_)); (repeat apply Sub.cons); first | exact Sub.refl _ | exact Sub.nil _)
  · skip
    rw [if_neg (by rw [hc]; simp)]
    refine cK (xT (cS (cS (cR (sV (vM rfl) (sV (v_lss rfl rfl) (sN (nK [4, 13] rfl (nT (cC rfl (fun hd => ?_) (fun hd => ?_)))))))))))
    · skip
      rw [if_pos (of_decide_eq_true hd)]
      refine cS (cR (sV (vA rfl) (sN (nK [4] rfl (nT (cT (xR ?_)))))))
      exact xt_rt rfl ⟨rfl, rfl⟩ (by (repeat (refine Sub.sel (by repeat (first | exact Sel.here | apply Sel.there)) ?_)); (repeat apply Sub.cons); first | exact Sub.refl _ | exact Sub.nil _)
    · skip
      rw [if_neg (of_decide_eq_false hd)]
      refine cK (xT (cS (cR (sV (vA rfl) (sN (nK [4] rfl (nT (cT ?_))))))))
      exact xt_rt rfl ⟨rfl, rfl⟩ (by (repeat (refine Sub.sel (by repeat (first | exact Sel.here | apply Sel.there)) ?_)); (repeat apply Sub.cons); first | exact Sub.refl _ | exact Sub.nil _)
set_option maxHeartbeats 2000000 in
set_option maxRecDepth 100000 in
theorem rootsOf_ct {p : Go.Hm.Act} (ha : I64 p.a) (hn : 0 ≤ n ∧ n ≤ 1000000) : Reads Tryz.prog 63 #[.agg #[.int .i64 p.k, .int .i64 p.a, .int .i64 p.b, .int .i64 p.c], .int .i64 n] [] (.bool (rootsQ p n)) := by
  unfold rootsQ
  refine ct_of (n := 35) Tryz.func63 rfl rfl (len rfl) fun hr w0 => ?_
  simp only [List.nil_append]
  refine cS (cR (st_bx rfl rfl fun b2 => ?_))
  refine sV (vA rfl) (sN (nK [1, 2, 4] rfl (nT (cS (cR (sV (vF rfl fa71_1 rfl) (sV (vL rfl ld3) ?_)))))))
  refine sV (vM rfl) (sV (v_sub rfl rfl (by unfold I64 at *; omega)) (st_clr rfl rfl en95 rfl (in_ct (a := p.a) (lo := 0) (hi := n - 1)) ?_))
  refine sV (vA rfl) (sN (nK [1, 2, 4, 5] rfl (nT (cS (cR (sV (vF rfl fa71_2 rfl) (sV (vL rfl ld3) ?_)))))))
  refine sV (vM rfl) (sV (v_sub rfl rfl (by unfold I64 at *; omega)) (st_clr rfl rfl en95 rfl (in_ct (a := p.b) (lo := 0) (hi := n - 1)) ?_))
  refine sV (vA rfl) (sN (nK [2, 4, 5, 6] rfl (nT (cS (cS (cR (sV (vF rfl fa71_0 rfl) (sV (vL rfl ld3) ?_))))))))
  refine sN (nK [2, 4, 5, 6, 18] rfl (nT (cd_block (cS (cS (cR (sV (v_eql rfl rfl) (sV (vA rfl) (sN (nK [2, 4, 5, 6, 18, 19] rfl (nT ?_)))))))))))
  generalize (decide (0 ≤ p.a) && decide (p.a ≤ n - 1)) = ca
  generalize (decide (0 ≤ p.b) && decide (p.b ≤ n - 1)) = cb
  refine cC rfl (fun h1 => ?_) (fun h1 => ?_)
  · skip
    rw [if_pos (show ((p.k == 1 || p.k == 4) || p.k == 5) = true by rw [h1]; rfl)]
    refine cK (xT ?_)
    rw [h1]
    refine cd_true rfl ?_
    refine cS (cR (sV (vM rfl) (sV (vA rfl) (sN (nK [2, 4] rfl (nT (cT (xt_ret_block (xR ?_)))))))))
    exact xt_rt rfl ⟨rfl, rfl⟩ (by (repeat (refine Sub.sel (by repeat (first | exact Sel.here | apply Sel.there)) ?_)); (repeat apply Sub.cons); first | exact Sub.refl _ | exact Sub.nil _)
  · skip
    refine cS (cR (sV (v_eql rfl rfl) (sV (vA rfl) (sN (nK [2, 4, 5, 6, 18, 19] rfl (nT (cC rfl (fun h4 => ?_) (fun h4 => ?_))))))))
    · skip
      rw [if_pos (show ((p.k == 1 || p.k == 4) || p.k == 5) = true by rw [h4]; simp)]
      refine cK (xT ?_)
      rw [h4]
      refine cd_true rfl ?_
      refine cS (cR (sV (vM rfl) (sV (vA rfl) (sN (nK [2, 4] rfl (nT (cT (xt_ret_block (xR ?_)))))))))
      exact xt_rt rfl ⟨rfl, rfl⟩ (by (repeat (refine Sub.sel (by repeat (first | exact Sel.here | apply Sel.there)) ?_)); (repeat apply Sub.cons); first | exact Sub.refl _ | exact Sub.nil _)
    · skip
      refine cR (sV (v_eql rfl rfl) (sV (vA rfl) (sN (nK [2, 4, 5, 6, 18, 19] rfl (nT (cC rfl (fun h5 => ?_) (fun h5 => ?_)))))))
      · skip
        rw [if_pos (show ((p.k == 1 || p.k == 4) || p.k == 5) = true by rw [h5]; simp)]
        refine cS (cR (sV (vM rfl) (sV (vA rfl) (sN (nK [2, 4] rfl (nT (cT (xt_ret_block (xR ?_)))))))))
        exact xt_rt rfl ⟨rfl, rfl⟩ (by (repeat (refine Sub.sel (by repeat (first | exact Sel.here | apply Sel.there)) ?_)); (repeat apply Sub.cons); first | exact Sub.refl _ | exact Sub.nil _)
      · skip
        rw [if_neg (show ¬ ((p.k == 1 || p.k == 4) || p.k == 5) = true by rw [h1, h4, h5]; simp)]
        refine cS (cS (cR (sV (v_eql rfl rfl) (sV (vA rfl) (sN (nK [2, 4, 5, 6, 18, 24] rfl (nT (cC rfl (fun h2 => ?_) (fun h2 => ?_)))))))))
        · skip
          rw [if_pos (show ((p.k == 2 || p.k == 3) || p.k == 6) = true by rw [h2]; rfl)]
          refine cK (xT ?_)
          rw [h2]
          refine cd_true rfl ?_
          refine cS (cR (sV (vM rfl) (sV (vM rfl) (st_cut (k := 4) (d := 31) (v := .bool (ca && cb)) (fun hcut => bool_want (b := ca) true (fun hg => ?_) (fun hg => ?_)) ?_))))
          · refine st_sk rfl rfl hg ?_
            refine sV (vP (bool_ev rfl hg) rfl) ?_
            exact hcut _ (ssub_head (by first | rfl | (rw [hg]; rfl) | simp_all) (uS rfl (ssub_refl)))
          · skip
            refine st_vg rfl (bG rfl hg) (vM rfl) (sV (v_pick_true (bool_ev rfl hg) rfl) ?_)
            exact hcut _ (ssub_head (by first | rfl | (rw [hg]; rfl) | simp_all) (uS rfl (ssub_refl)))
          refine sV (vA rfl) (sN (nK [2, 4] rfl (nT (cT (xt_ret_block (xR ?_))))))
          exact xt_rt rfl ⟨rfl, rfl⟩ (by (repeat (refine Sub.sel (by repeat (first | exact Sel.here | apply Sel.there)) ?_)); (repeat apply Sub.cons); first | exact Sub.refl _ | exact Sub.nil _)
        · skip
          refine cS (cR (sV (v_eql rfl rfl) (sV (vA rfl) (sN (nK [2, 4, 5, 6, 18, 24] rfl (nT (cC rfl (fun h3 => ?_) (fun h3 => ?_))))))))
          · skip
            rw [if_pos (show ((p.k == 2 || p.k == 3) || p.k == 6) = true by rw [h3]; simp)]
            refine cK (xT ?_)
            rw [h3]
            refine cd_true rfl ?_
            refine cS (cR (sV (vM rfl) (sV (vM rfl) (st_cut (k := 4) (d := 31) (v := .bool (ca && cb)) (fun hcut => bool_want (b := ca) true (fun hg => ?_) (fun hg => ?_)) ?_))))
            · refine st_sk rfl rfl hg ?_
              refine sV (vP (bool_ev rfl hg) rfl) ?_
              exact hcut _ (ssub_head (by first | rfl | (rw [hg]; rfl) | simp_all) (uS rfl (ssub_refl)))
            · skip
              refine st_vg rfl (bG rfl hg) (vM rfl) (sV (v_pick_true (bool_ev rfl hg) rfl) ?_)
              exact hcut _ (ssub_head (by first | rfl | (rw [hg]; rfl) | simp_all) (uS rfl (ssub_refl)))
            refine sV (vA rfl) (sN (nK [2, 4] rfl (nT (cT (xt_ret_block (xR ?_))))))
            exact xt_rt rfl ⟨rfl, rfl⟩ (by (repeat (refine Sub.sel (by repeat (first | exact Sel.here | apply Sel.there)) ?_)); (repeat apply Sub.cons); first | exact Sub.refl _ | exact Sub.nil _)
          · skip
            refine cR (sV (v_eql rfl rfl) (sV (vA rfl) (sN (nK [2, 4, 5, 6, 24] rfl (nT (cC rfl (fun h6 => ?_) (fun h6 => ?_)))))))
            · skip
              rw [if_pos (show ((p.k == 2 || p.k == 3) || p.k == 6) = true by rw [h6]; simp)]
              refine cS (cR (sV (vM rfl) (sV (vM rfl) (st_cut (k := 4) (d := 31) (v := .bool (ca && cb)) (fun hcut => bool_want (b := ca) true (fun hg => ?_) (fun hg => ?_)) ?_))))
              · refine st_sk rfl rfl hg ?_
                refine sV (vP (bool_ev rfl hg) rfl) ?_
                exact hcut _ (ssub_head (by first | rfl | (rw [hg]; rfl) | simp_all) (uS rfl (ssub_refl)))
              · skip
                refine st_vg rfl (bG rfl hg) (vM rfl) (sV (v_pick_true (bool_ev rfl hg) rfl) ?_)
                exact hcut _ (ssub_head (by first | rfl | (rw [hg]; rfl) | simp_all) (uS rfl (ssub_refl)))
              refine sV (vA rfl) (sN (nK [2, 4] rfl (nT (cT (xt_ret_block (xR ?_))))))
              exact xt_rt rfl ⟨rfl, rfl⟩ (by (repeat (refine Sub.sel (by repeat (first | exact Sel.here | apply Sel.there)) ?_)); (repeat apply Sub.cons); first | exact Sub.refl _ | exact Sub.nil _)
            · skip
              rw [if_neg (show ¬ ((p.k == 2 || p.k == 3) || p.k == 6) = true by rw [h2, h3, h6]; simp)]
              refine cK (xB (xT (cS (cR (sV (vF rfl fa71_0 rfl) (sV (vL rfl ld3) ?_))))))
              refine st_clr rfl rfl en95 rfl (in_ct (a := p.k) (lo := 7) (hi := 9)) ?_
              refine sV (vA rfl) (sN (nK [4] rfl (nT (cT ?_))))
              exact xt_rt rfl ⟨rfl, rfl⟩ (by (repeat (refine Sub.sel (by repeat (first | exact Sel.here | apply Sel.there)) ?_)); (repeat apply Sub.cons); first | exact Sub.refl _ | exact Sub.nil _)
set_option maxRecDepth 100000 in
theorem rkinded_ct (hS : Shp S L.vs m.sh) (h : AM.Good m ly ln lf φ A) : Reads Tryz.prog 65 #[.pointer (some ⟨L.hb, 0, none⟩), .int .i64 t, .int .i64 k, .bool w] [hR L m, eR L m, S] (.int .i64 (m.kinded t k w)) := by
  have z := h.g.sz
  unfold AM.kinded
  refine ct_of (n := 27) Tryz.func65 rfl rfl (len rfl) fun hr w0 => ?_
  refine cS (cR (sV (vA rfl) (sN (nT (cS (cR (sV (vM rfl) (sV (vM rfl) (sV (vM rfl) (st_clr rfl rfl en97 rfl (rfield_ct hS h.g) ?_))))))))))
  refine sV (vA rfl) (sN (nK [0, 1, 2, 3, 8, 9] rfl (nT (cS (cS (cR (sV (vM rfl) (sV (v_eql rfl rfl) (sV (vM rfl) ?_)))))))))
  by_cases he : m.fe t k = 0
  · rw [if_pos he]
    obtain ⟨ht, j, hkj, hj⟩ := h.g.field he
    subst hkj
    have o := ob_of h.g ht
    obtain ⟨u, hu, hct⟩ := rshape_ct hS z o
    obtain ⟨b, q, cp, hue, hrd⟩ := hu.at hj
    have href : (m.row t)[j] = m.ref t j := by unfold AM.ref; rw [Int.toNat_natCast, List.getD_eq_getElem?_getD, List.getElem?_eq_getElem hj]; rfl
    rw [href] at hrd
    rw [he]
    refine st_vg rfl rfl (vM rfl) (st_vg rfl rfl (vM rfl) (st_clrg rfl rfl rfl rfl en38 rfl (hct) ?_))
    refine st_vg rfl rfl (vM rfl) (st_vg rfl rfl (v_ixo j (congrArg some hue) rfl sl55 rfl hj) (st_vg rfl rfl (vL rfl ld4) ?_))
    refine st_vg rfl rfl (vM rfl) (st_vg rfl rfl (v_neq_bool Tryz.underlying4 rfl rfl) (sV (v_pick_true rfl rfl) (sN (nK [8, 9, 25] rfl (nT (cC rfl (fun hc => ?_) (fun hc => ?_)))))))
    · skip
      have hc' : (m.ref t j != w) = true := by simpa using hc
      rw [if_pos hc']
      refine cR (sV (vA rfl) (sN (nK [8, 9] rfl (nT (cS (cR (sV (vM rfl) (sV (vA rfl) (sN (nK [8] rfl (nT (cT ?_))))))))))))
      exact xt_rt rfl ⟨rfl, rfl⟩ (by (repeat (refine Sub.sel (by repeat (first | exact Sel.here | apply Sel.there)) ?_)); (repeat apply Sub.cons); first | exact Sub.refl _ | exact Sub.nil _)
    · skip
      have hc' : (m.ref t j != w) = false := by simpa using hc
      rw [if_neg (by rw [hc']; simp)]
      refine cK (xT (cS (cR (sV (vM rfl) (sV (vA rfl) (sN (nK [8] rfl (nT (cT ?_)))))))))
      exact xt_rt rfl ⟨rfl, rfl⟩ (by (repeat (refine Sub.sel (by repeat (first | exact Sel.here | apply Sel.there)) ?_)); (repeat apply Sub.cons); first | exact Sub.refl _ | exact Sub.nil _)
  · rw [if_neg he]
    have hb : (m.fe t k == 0) = false := by simpa using he
    rw [hb]
    refine st_sk rfl rfl rfl ?_
    refine st_sk rfl rfl rfl ?_
    refine st_sk rfl rfl rfl ?_
    refine st_sk rfl rfl rfl ?_
    refine st_sk rfl rfl rfl ?_
    refine st_sk rfl rfl rfl ?_
    refine st_sk rfl rfl rfl ?_
    refine st_sk rfl rfl rfl ?_
    refine sV (vP rfl rfl) (sN (nK [8, 9, 25] rfl (nT (cd_false rfl ?_))))
    refine cK (xT (cS (cR (sV (vM rfl) (sV (vA rfl) (sN (nK [8] rfl (nT (cT ?_)))))))))
    exact xt_rt rfl ⟨rfl, rfl⟩ (by (repeat (refine Sub.sel (by repeat (first | exact Sel.here | apply Sel.there)) ?_)); (repeat apply Sub.cons); first | exact Sub.refl _ | exact Sub.nil _)
theorem rminor2 (hS : Shp S L.vs m.sh) (h : AM.Good m ly ln lf φ A) (hv : RowI R rv r) (hrl : r.length ≤ 1000000) :
    Ct Tryz.prog 68 #[.pointer (some ⟨L.hb, 0, none⟩), rv] (rSH L m S ++ [R]) fun u h' => ∃ sl vk, u = .tuple #[sl, .int .i64 (m.minor r).2.1] ∧ h' = vec sl 3 1 (m.minor r).1.length (ints (m.minor r).1) :: (rSH { L with vk := vk } (m.minor r).2.2 S ++ [R]) := by
  refine Ct.unpair (pre := [hR L m, wR L m, eR L m, oR L m, kR L m]) (rminor_ct (S := Res.star [S, R]) (hS.star .here) h (hv.star (.there .here)) hrl) ?_
  rintro v h' ⟨sl, vk, rfl, rfl⟩
  exact ⟨vec sl 3 1 (m.minor r).1.length (ints (m.minor r).1) :: [hR { L with vk := vk } (m.minor r).2.2, wR { L with vk := vk } (m.minor r).2.2, eR { L with vk := vk } (m.minor r).2.2, oR { L with vk := vk } (m.minor r).2.2, kR { L with vk := vk } (m.minor r).2.2], rfl, sl, vk, rfl, rfl⟩
theorem rflip2 (hS : Shp S L.vs m.sh) (h : AM.Good m ly ln lf φ A) (hv : RowI R rv r) (hrl : r.length ≤ 1000000) :
    Ct Tryz.prog 69 #[.pointer (some ⟨L.hb, 0, none⟩), rv] (rSH L m S ++ [R]) fun u h' => ∃ sl vk, u = .tuple #[sl, .int .i64 (m.flip r).2.1] ∧ h' = vec sl 3 1 (m.flip r).1.length (ints (m.flip r).1) :: (rSH { L with vk := vk } (m.flip r).2.2 S ++ [R]) := by
  refine Ct.unpair (pre := [hR L m, wR L m, eR L m, oR L m, kR L m]) (rflip_ct (S := Res.star [S, R]) (hS.star .here) h (hv.star (.there .here)) hrl) ?_
  rintro v h' ⟨sl, vk, rfl, rfl⟩
  exact ⟨vec sl 3 1 (m.flip r).1.length (ints (m.flip r).1) :: [hR { L with vk := vk } (m.flip r).2.2, wR { L with vk := vk } (m.flip r).2.2, eR { L with vk := vk } (m.flip r).2.2, oR { L with vk := vk } (m.flip r).2.2, kR { L with vk := vk } (m.flip r).2.2], rfl, sl, vk, rfl, rfl⟩
set_option maxHeartbeats 2000000 in
set_option maxRecDepth 100000 in
theorem rmade_ct (hS : Shp S L.vs m.sh) (h : AM.Good m ly ln lf φ A) (hrl : r.length ≤ 1000000) :
    Ct Tryz.prog 64 #[.pointer (some ⟨L.hb, 0, none⟩), rv, .int .i64 s] (rSH L m S ++ [vec rv 3 1 r.length (ints r)]) fun u h' => ∃ rv' vk, u = .tuple #[rv', .int .i64 (mfresh m r s).1, .int .i64 (mfresh m r s).2.1] ∧ ((mfresh m r s).2.1 ≠ 0 → rv' = rv ∧ (mfresh m r s).2.2.2 = r) ∧
      h' = rSH { L with vk := vk } (mfresh m r s).2.2.1 S ++ [vec rv' 3 1 (mfresh m r s).2.2.2.length (ints (mfresh m r s).2.2.2)] := by
  have hal := ralloc_ct hS h.g s
  unfold rSH at hal ⊢
  unfold mfresh
  refine ct_of (n := 59) Tryz.func64 rfl rfl (len rfl) fun hr w0 => ?_
  simp only [List.cons_append, List.nil_append] at hal ⊢
  refine cS (cR (sV (vA rfl) (sV (vA rfl) (sV (vA rfl) (sN (nT (cS (cR (sV (vM rfl) (sV (vM rfl) (st_cl rfl rfl en96 rfl (hal) ?_)))))))))))
  rintro v' h' ⟨rfl, rfl⟩
  simp only [List.cons_append, List.nil_append]
  refine sV (vM rfl) (sV (v_extract rfl rfl) (sV (v_extract rfl rfl) (sV (vA rfl) (sV (vA rfl) (sN (nK [0, 1, 2, 6, 7, 8, 9, 10] rfl (nT (cS (cS (cd_drawh (ork [(0, 2), (1, 2), (2, 2), (3, 2), (4, 2), (5, 2), (6, 1), (7, 2), (8, 2), (9, 1), (10, 2), (11, 2), (12, 2), (13, 2), (14, 2), (15, 1), (16, 2), (17, 2)] .nil) (fun _ => true) mixed (by kernel_rfl) ?_))))))))))
  refine dV rfl (vM rfl) (dV rfl (v_neq rfl rfl) (dV rfl (vM rfl) ?_))
  by_cases he : ((m.alloc s).2.1 != 14) = true
  · rw [if_pos (show ((m.alloc s).2.1 != 14 || decide (m.Y < 1 + ((m.sh.getD s.toNat []).length : Int))) = true by rw [he]; rfl)]
    rw [he]
    refine dp_sk rfl rfl rfl rfl ?_
    refine dp_sk rfl rfl rfl rfl ?_
    refine dp_sk rfl rfl rfl rfl ?_
    refine dr_sk rfl rfl rfl rfl ?_
    refine dp_sk rfl rfl rfl rfl ?_
    refine dp_sk rfl rfl rfl rfl ?_
    refine dr_sk rfl rfl rfl rfl ?_
    refine dp_sk rfl rfl rfl rfl ?_
    refine dp_sk rfl rfl rfl rfl ?_
    refine dp_sk rfl rfl rfl rfl ?_
    refine dp_sk rfl rfl rfl rfl ?_
    refine dp_sk rfl rfl rfl rfl ?_
    refine dr_sk rfl rfl rfl rfl ?_
    refine dp_sk rfl rfl rfl rfl ?_
    refine dV rfl (v_pick_true rfl rfl) (dr_nil (nK [0, 1, 2, 6, 7, 8, 9, 10, 36] rfl (nT (cd_true rfl ?_))))
    refine cS (cR (sV (vM rfl) (sV (vM rfl) (sV (vM rfl) (sV (vA rfl) (sV (vA rfl) (sV (vA rfl) (sN (nK [0, 1, 2, 6, 7, 8, 9, 10] rfl (nT (cT (xR ?_))))))))))))
    exact xt_rt rfl ⟨rv, L.vk, rfl, fun _ => ⟨rfl, rfl⟩, rfl⟩ (by (repeat (refine Sub.sel (by repeat (first | exact Sel.here | apply Sel.there)) ?_)); (repeat apply Sub.cons); first | exact Sub.refl _ | exact Sub.nil _)
  · have he1 : ((m.alloc s).2.1 != 14) = false := by simpa using he
    rw [he1]
    have h14 : (m.alloc s).2.1 = 14 := by simpa using he
    obtain ⟨hm0, hz⟩ := alloc_err (m := m) (s := s) (by rw [h14]; simp)
    have hrg : 0 ≤ s ∧ s < m.sh.length := by
      unfold AM.alloc at h14
      by_cases hq : (decide (s < 0) || decide ((m.sh.length : Int) ≤ s)) = true
      · rw [if_pos hq] at h14; cases h14
      · simp only [Bool.or_eq_true, decide_eq_true_eq, not_or] at hq; omega
    have hk : s.toNat < m.sh.length := by omega
    obtain ⟨b1, o1, cp1, u, hv', hu, a2, cp2, hu2, _⟩ := hS.row hk
    have hsz : m.sh[s.toNat].length ≤ 100 := h.g.sz.w _ (List.getElem_mem hk)
    have hg0 : m.sh.getD s.toNat [] = m.sh[s.toNat] := getD_lt hk
    rw [hm0, hg0, Bool.false_or]
    refine dp_vg rfl rfl rfl (vM rfl) (dp_vg rfl rfl rfl (vN rfl) (dp_vg rfl rfl rfl (vF rfl fa53_0 rfl) (dr_vg rfl rfl rfl (vL rfl ld22) ?_)))
    refine dp_vg rfl rfl rfl (vM rfl) (dp_vg rfl rfl rfl (v_ixo _ (congrArg some hv') rfl sl22 (Int.toNat_of_nonneg hrg.1).symm hk) (dr_vg rfl rfl rfl (vL rfl ld55) ?_))
    refine dp_vg rfl rfl rfl (v_len (congrArg some hu2) Tryz.underlying55) (dp_vg rfl rfl rfl (v_add rfl rfl (by unfold I64 at *; omega)) (dp_vg rfl rfl rfl (vM rfl) (dp_vg rfl rfl rfl (vN rfl) (dp_vg rfl rfl rfl (vF rfl fa53_2 rfl) (dr_vg rfl rfl rfl (vL rfl ld3) ?_)))))
    refine dp_vg rfl rfl rfl (v_gtr rfl rfl) (dV rfl (vP rfl rfl) (dr_nil (nK [0, 1, 2, 6, 7, 8, 9, 10, 36] rfl (nT (cC rfl (fun hc => ?_) (fun hc => ?_))))))
    · skip
      rw [if_pos hc]
      refine cS (cR (sV (vM rfl) (sV (vM rfl) (sV (vM rfl) (sV (vA rfl) (sV (vA rfl) (sV (vA rfl) (sN (nK [0, 1, 2, 6, 7, 8, 9, 10] rfl (nT (cT (xR ?_))))))))))))
      exact xt_rt rfl ⟨rv, L.vk, rfl, fun _ => ⟨rfl, rfl⟩, rfl⟩ (by (repeat (refine Sub.sel (by repeat (first | exact Sel.here | apply Sel.there)) ?_)); (repeat apply Sub.cons); first | exact Sub.refl _ | exact Sub.nil _)
    · skip
      rw [if_neg (show ¬ decide (m.Y < 1 + (m.sh[s.toNat].length : Int)) = true by rw [hc]; simp)]
      refine cd_vecshape (v := rv) (E := 3) (sz := 1) (n := r.length) (l := ints r) (by repeat (first | exact Sel.here | apply Sel.there)) fun ra rcp hrv hra => ?_
      have hri := rowI_vec hrv hra rfl
      have hmi := rminor2 (L := L) hS h hri hrl
      have hok := h.made_ok (s := s) (r := r) (by rw [he1, hg0, hc]; simp)
      have hF := Fine.minor ⟨_, _, _, _, _, h⟩ r
      have hsh2 : (m.minor r).2.2.sh = m.sh := by
        by_cases hq : m.minorErr r = 0
        · obtain ⟨_, _, _, _, s1, _⟩ := h.minor hq
          exact s1
        · rw [minor_no hq]
      obtain ⟨ly2, ln2, lf2, φ2, A2, hg2⟩ := hF
      unfold rSH at hmi
      simp only [List.cons_append, List.nil_append] at hmi
      refine cK (xT (cS (cR (sV (vM rfl) (sV (vM rfl) (st_cl rfl rfl en68 rfl (hmi) ?_))))))
      rintro v' h' ⟨sl, vk, rfl, rfl⟩
      simp only [List.cons_append, List.nil_append]
      refine sV (vM rfl) (sV (v_extract rfl rfl) (sV (v_extract rfl rfl) (sV (vA rfl) (sV (vA rfl) (sN (nK [0, 1, 2, 6, 7, 8, 9, 10, 11, 12] rfl (nT (cS (cS (cR (sV (vM rfl) (sV (v_neq rfl rfl) (sN (nK [0, 1, 2, 6, 7, 8, 9, 10, 11, 12, 47] rfl (nT (cC rfl (fun hd => ?_) (fun hd => ?_)))))))))))))))))
      · skip
        have hd' : (m.minor r).2.1 ≠ 0 := by simpa using hd
        rw [if_pos hd']
        refine cS (cR (sV (vM rfl) (sV (vM rfl) (sV (vA rfl) (sV (vA rfl) (sV (vA rfl) (sN (nK [0, 2, 6, 7, 8, 9, 10, 11] rfl (nT (cT (xR ?_)))))))))))
        exact xt_rt rfl ⟨rv, vk, rfl, fun _ => ⟨rfl, rfl⟩, rfl⟩ (by (repeat (refine Sub.sel (by repeat (first | exact Sel.here | apply Sel.there)) ?_)); (repeat apply Sub.cons); first | exact Sub.refl _ | exact Sub.nil _)
      · skip
        have hd' : (m.minor r).2.1 = 0 := by simpa using hd
        rw [if_neg (show ¬ (m.minor r).2.1 ≠ 0 by rw [hd']; simp)]
        have hal2 := ralloc_ct (L := { L with vk := vk }) (by rw [hsh2]; exact hS) hg2.g s
        unfold rSH at hal2
        refine cK (xT (cS (cR (sV (vM rfl) (sV (vM rfl) (st_cl rfl rfl en96 rfl (hal2) ?_))))))
        rintro v' h' ⟨rfl, rfl⟩
        simp only [List.cons_append, List.nil_append]
        refine sV (vM rfl) (sV (v_extract rfl rfl) (sV (v_extract rfl rfl) (sV (vA rfl) (sV (vA rfl) (sN (nK [6, 7, 8, 9, 10, 11] rfl (nT (cS (cR (sV (vM rfl) (sV (vM rfl) (sV (vM rfl) (sV (vA rfl) (sV (vA rfl) (sV (vA rfl) ?_)))))))))))))))
        refine sN (nK [6, 7, 8] rfl (nT (cT ?_)))
        exact xt_rt rfl ⟨sl, vk, rfl, fun hq => absurd (hok hd') hq, rfl⟩ (by (repeat (refine Sub.sel (by repeat (first | exact Sel.here | apply Sel.there)) ?_)); (repeat apply Sub.cons); first | exact Sub.refl _ | exact Sub.nil _)
end
end Go.Proofs.YtmhmpjgkkpbnnaaGreat
namespace Go.Proofs.YtmhmpjgkkpbnnaaGreat
open Go.Ck Fx Go.Hm Go.Hm.AM
attribute [local irreducible] St Cd Xt Nx DrL LsW
theorem rdx_at {r : List Int} {i : Int} (h0 : 0 ≤ i) (h1 : i < r.length) : rdx r i = r[i.toNat]'(by omega) := by
  unfold rdx
  rw [List.getD_eq_getElem?_getD, List.getElem?_eq_getElem]; rfl
theorem kinded_fe {m : AM} {t k : Int} {w : Bool} (h : m.kinded t k w = 0) : m.fe t k = 0 := by
  unfold AM.kinded at h
  by_cases he : m.fe t k = 0
  · exact he
  · rw [if_neg he] at h; exact h
theorem get_no {m : AM} {t k : Int} (h : m.fe t k = 0) : (m.get t k).2.1 = 0 := by unfold AM.get; rw [if_neg (by rw [h]; simp)]
theorem mfresh_len (m : AM) (r : List Int) (s : Int) : (mfresh m r s).2.2.2.length = r.length := by
  have hc := clr_len (en := false) (m := m) (r := r)
  have hcl : clr false m r = ((m.minor r).2.1, (m.minor r).2.2, if (m.minor r).2.1 = 0 then (m.minor r).1 else r) := rfl
  rw [hcl] at hc
  unfold mfresh
  split
  · rfl
  split
  · rfl
  · rename_i hm
    have hm : (m.minor r).2.1 = 0 := by simpa using hm
    rw [if_pos hm] at hc
    exact hc
section
variable {L : RL} {m : AM} {S R : Res} {rv : Value} {ly ln lf : List Int} {φ : Int → Option Nat} {A : Store} {r : List Int} {k a b c : Int} {b5 : Nat} {Q : Exit → Act → World → Prop} {w0 : World} {hr : SH}
set_option maxHeartbeats 4000000 in
theorem ract_block (hS : Shp S L.vs m.sh) (h : AM.Good m ly ln lf φ A) (hrl : r.length ≤ 1000000) (hI : I64 a) (hq : rootsQ ⟨k, a, b, c⟩ r.length = true)
    (hcont : ∀ (vk lv xv : Value) (e' : Int) (m' : AM) (r' : List Int), actQ m r ⟨k, a, b, c⟩ = (e', m', r') → (e' = 0 → xv = lv) → (e' ≠ 0 → xv = rv) → Xt ⟨Tryz.prog, none, 169, [], w0⟩ .normal Q [(1, rv), (9, .int .i64 e'), (11, lv)] (vec xv 3 1 r'.length (ints r') :: (rSH { L with vk := vk } m' S ++ hr))) :
    Cd ⟨Tryz.prog, none, 169, [], w0⟩ (cdr (cdl (cdr (cdr (cdr (cdr (cdr (cdr (fbody Tryz.f30))))))))) Q [(0, .pointer (some ⟨L.hb, 0, none⟩)), (1, rv), (5, .pointer (some ⟨b5, 0, none⟩)), (9, .int .i64 0), (10, .int .i64 0), (11, rv), (21, .int .i64 k)] (rSH L m S ++ (vec rv 3 1 r.length (ints r) :: pt b5 (cl [.int .i64 k, .int .i64 a, .int .i64 b, .int .i64 c] 71) :: hr)) := by
  have hG : ∀ (lv xv : Value) (e' : Int) (m' : AM) (r' : List Int), actQ m r ⟨k, a, b, c⟩ = (e', m', r') → (e' = 0 → xv = lv) → (e' ≠ 0 → xv = rv) → Xt ⟨Tryz.prog, none, 169, [], w0⟩ .normal Q [(1, rv), (9, .int .i64 e'), (11, lv)] (vec xv 3 1 r'.length (ints r') :: (rSH L m' S ++ hr)) := fun lv xv => hcont L.vk lv xv
  unfold rSH at hcont hG ⊢
  unfold actQ at hcont hG
  unfold rootsQ at hq
  dsimp only at hcont hG hq
  refine cd_vecshape (v := rv) (E := 3) (sz := 1) (n := r.length) (l := ints r) (by repeat (first | exact Sel.here | apply Sel.there)) fun ra rcp hrv hra => ?_
  have hri := rowI_vec hrv hra rfl
  simp only [List.cons_append, List.nil_append] at hcont hG ⊢
  refine cd_block (cS (cR (sV (v_eql rfl rfl) (sV (vA rfl) (sN (nK [0, 1, 5, 9, 10, 11, 21, 22] rfl (nT (cC rfl (fun h1 => ?_) (fun h1 => ?_)))))))))
  · skip
    have e1 : k = 1 := by simpa using h1
    subst e1
    have ha : 0 ≤ a ∧ a ≤ (r.length : Int) - 1 := by simpa using hq
    rw [if_pos rfl, Good.fresh_eq h] at hcont
    have hmd := rmade_ct (rv := rv) (s := b) hS h hrl
    unfold rSH at hmd
    simp only [List.cons_append, List.nil_append] at hmd
    dsimp only at hcont
    refine cS (cR (sV (vM rfl) (sV (vM rfl) (sV (vF rfl fa71_2 rfl) (sV (vL rfl ld3) ?_)))))
    refine st_cl rfl rfl en64 rfl (hmd) ?_
    rintro v' h' ⟨rv', vk, rfl, hne, rfl⟩
    simp only [List.cons_append, List.nil_append]
    generalize hF : mfresh m r b = F at *
    obtain ⟨at', e', m', l'⟩ := F
    dsimp only at hcont hne ⊢
    refine sV (vM rfl) (sV (v_extract rfl rfl) (sV (v_extract rfl rfl) (sV (v_extract rfl rfl) (sV (vA rfl) (sV (vA rfl) (sV (vA rfl) (sN (nK [1, 5, 9, 10, 11] rfl (nT (cS (cR (sV (vM rfl) (sV (v_eql rfl rfl) (sN (nK [1, 5, 9, 10, 11, 34] rfl (nT (cC rfl (fun hc => ?_) (fun hc => ?_))))))))))))))))))
    · skip
      have he : e' = 0 := by simpa using hc
      subst he
      rw [if_pos rfl] at hcont
      have hll : l'.length = r.length := by have := mfresh_len m r b; rw [hF] at this; exact this
      refine cd_row (v := rv') (n := l'.length) (l := ints l') (by omega) (by repeat (first | exact Sel.here | apply Sel.there)) fun b3 cp3 j3 hrv3 ho3 => ?_
      refine cR (sV (vM rfl) (sV (vF rfl fa71_1 rfl) (sV (vL rfl ld3) ?_)))
      refine sV (vM rfl) (sV (v_idx a.toNat (congrArg some hrv3) rfl sl27 (by omega) (by omega)) (st_sto rfl rfl sz3 ?_))
      refine sN (nK [1, 9, 11] rfl (nx_xt (xB ?_)))
      rw [show (ints l' ++ j3).set a.toNat #[rv', Value.int .i64 at', Value.int .i64 0][1] = ints (l'.set a.toNat at') ++ j3 from set_ints (by omega)]
      refine xt_shut (E := 3) (l' := ints (l'.set a.toNat at')) ho3 (by simp [ints]) (by repeat (first | exact Sel.here | apply Sel.there)) ?_
      exact xt_use (hcont vk rv' rv' 0 m' (l'.set a.toNat at') rfl (fun _ => rfl) (fun hh => absurd rfl hh)) (by repeat (first | exact trivial | refine ⟨rfl, ?_⟩)) (by rw [List.length_set]; exact (by (repeat (refine Sub.sel (by repeat (first | exact Sel.here | apply Sel.there)) ?_)); (repeat apply Sub.cons); first | exact Sub.refl _ | exact Sub.nil _))
    · skip
      have he : e' ≠ 0 := by simpa using hc
      rw [if_neg he] at hcont
      obtain ⟨rfl, rfl⟩ := hne he
      refine cK (xB ?_)
      exact xt_use (hcont vk rv' rv' e' m' l' rfl (fun _ => rfl) (fun _ => rfl))
  · skip
    have e1 : ¬ k = 1 := by simpa using h1
    rw [if_neg e1] at hcont hG
    refine cS (cR (sV (v_eql rfl rfl) (sV (vA rfl) (sN (nK [0, 1, 5, 9, 11, 21, 40] rfl (nT (cC rfl (fun h2 => ?_) (fun h2 => ?_))))))))
    · skip
      have e2 : k = 2 := by simpa using h2
      subst e2
      have hab : (0 ≤ a ∧ a ≤ (r.length : Int) - 1) ∧ 0 ≤ b ∧ b ≤ (r.length : Int) - 1 := by simpa using hq
      rw [if_pos rfl] at hG
      unfold AM.getA at hG
      dsimp only at hG
      have hrb := rdx_at (r := r) hab.2.1 (by omega)
      obtain ⟨rb, rfl⟩ := hra (by omega)
      have hrd : Rd (vec rv 3 1 r.length (ints r)) ⟨rb, b.toNat, none⟩ (.int .i64 (rdx r b)) := by
        rw [hrb]; exact rd_vec hrv (by simp [ints])
      have hk := rkinded_ct (L := L) (t := rdx r b) (k := c) (w := true) hS h
      refine cS (cd_drawh (ork [(0, 2), (1, 2), (2, 2), (3, 1), (4, 2), (5, 1), (6, 2), (7, 1), (8, 1), (9, 2)] .nil) (fun _ => true) mixed (by kernel_rfl) ?_)
      refine dV rfl (vM rfl) (dV rfl (vM rfl) (dV rfl (vF rfl fa71_2 rfl) (dr_v rfl (vL rfl ld3) ?_)))
      refine dV rfl (v_idx b.toNat (congrArg some hrv) rfl sl27 (by omega) (by omega)) (dr_v rfl (vL rfl ld3) ?_)
      refine dV rfl (vF rfl fa71_3 rfl) (dr_v rfl (vL rfl ld3) ?_)
      refine dr_clr rfl rfl rfl en65 rfl (hk) ?_
      refine dV rfl (vA rfl) (dr_nil (nK [0, 1, 5, 9, 11] rfl (nT (cS (cR (sV (vM rfl) (sV (v_eql rfl rfl) (sN (nK [0, 1, 5, 9, 11, 52] rfl (nT (cC rfl (fun hc => ?_) (fun hc => ?_))))))))))))
      · skip
        have he : m.kinded (rdx r b) c true = 0 := by simpa using hc
        have hfe := kinded_fe he
        have hg0 := get_no hfe
        rw [if_neg (by rw [he]; simp), hg0, if_pos rfl] at hG
        have hgt := rget_ct (L := L) hS h (rdx r b) c
        rw [hg0] at hgt
        unfold rSH at hgt
        refine cd_row (v := rv) (n := r.length) (l := ints r) (by omega) (by repeat (first | exact Sel.here | apply Sel.there)) fun b3 cp3 j3 hrv3 ho3 => ?_
        have hrd3 : Rd (pt b3 (cl (ints r ++ j3) 3)) ⟨b3, b.toNat, none⟩ (.int .i64 (rdx r b)) := rd_cl (by rw [hrb, List.getElem?_append_left (by simp [ints]; omega)]; simp [ints])
        refine cd_draw (ork [(0, 2), (1, 2), (2, 1), (3, 2), (4, 2), (5, 2), (6, 1), (7, 2), (8, 1), (9, 2), (10, 1), (11, 0), (12, 2), (13, 2), (14, 2), (15, 2), (16, 0), (17, 2)] .nil) (fun i => !(Nat.beq i 16)) [pt b3 (cl (ints r ++ j3) 3), pt b5 (cl [.int .i64 2, .int .i64 a, .int .i64 b, .int .i64 c] 71)] mixed (by kernel_rfl) ?_
        refine dV rfl (vM rfl) (dV rfl (vF rfl fa71_1 rfl) (dr_v rfl (vL rfl ld3) ?_))
        refine dV rfl (vM rfl) (dV rfl (vM rfl) (dV rfl (vF rfl fa71_2 rfl) (dr_v rfl (vL rfl ld3) ?_)))
        refine dV rfl (v_idx b.toNat (congrArg some hrv3) rfl sl27 (by omega) (by omega)) (dr_v rfl (vL rfl ld3) ?_)
        refine dV rfl (vF rfl fa71_3 rfl) (dr_v rfl (vL rfl ld3) ?_)
        refine dr_eff rfl (st_cl rfl rfl en66 rfl (hgt) ?_)
        rintro v' h' ⟨rfl, rfl⟩
        simp only [List.cons_append, List.nil_append]
        refine dr_nx ?_
        refine dV rfl (vM rfl) (dV rfl (v_extract rfl rfl) (dV rfl (v_extract rfl rfl) (dV rfl (v_idx a.toNat (congrArg some hrv3) rfl sl27 (by omega) (by omega)) (dr_eff rfl (st_sto rfl rfl sz3 (dr_nx ?_))))))
        refine dV rfl (vA rfl) (dr_nil (nK [1, 9, 11] rfl (nx_xt (xB ?_))))
        rw [show (ints r ++ j3).set a.toNat #[Value.int .i64 (m.get (rdx r b) c).1, Value.int .i64 0][0] = ints (r.set a.toNat (m.get (rdx r b) c).1) ++ j3 from set_ints (by omega)]
        refine xt_shut (E := 3) (l' := ints (r.set a.toNat (m.get (rdx r b) c).1)) ho3 (by simp [ints]) (by repeat (first | exact Sel.here | apply Sel.there)) ?_
        exact xt_use (hG rv rv 0 _ _ rfl (fun _ => rfl) (fun hh => absurd rfl hh)) (by repeat (first | exact trivial | refine ⟨rfl, ?_⟩)) (by rw [List.length_set]; exact (by (repeat (refine Sub.sel (by repeat (first | exact Sel.here | apply Sel.there)) ?_)); (repeat apply Sub.cons); first | exact Sub.refl _ | exact Sub.nil _))
      · skip
        have he : m.kinded (rdx r b) c true ≠ 0 := by simpa using hc
        rw [if_pos he] at hG
        refine cK (xB ?_)
        exact xt_use (hG rv rv _ m r rfl (fun _ => rfl) (fun _ => rfl))
    · skip
      have e2 : ¬ k = 2 := by simpa using h2
      rw [if_neg e2] at hcont hG
      refine cS (cR (sV (v_eql rfl rfl) (sV (vA rfl) (sN (nK [0, 1, 5, 9, 11, 21, 69] rfl (nT (cC rfl (fun h3 => ?_) (fun h3 => ?_))))))))
      · skip
        have e3 : k = 3 := by simpa using h3
        subst e3
        have hab : (0 ≤ a ∧ a ≤ (r.length : Int) - 1) ∧ 0 ≤ b ∧ b ≤ (r.length : Int) - 1 := by simpa using hq
        rw [if_pos rfl] at hcont
        unfold AM.setA at hcont
        dsimp only at hcont
        have hrda := rdx_at (r := r) hab.1.1 (by omega)
        have hrdb := rdx_at (r := r) hab.2.1 (by omega)
        obtain ⟨rb, rfl⟩ := hra (by omega)
        have hrd : Rd (vec rv 3 1 r.length (ints r)) ⟨rb, a.toNat, none⟩ (.int .i64 (rdx r a)) := by
          rw [hrda]; exact rd_vec hrv (by simp [ints])
        have hrd2 : Rd (vec rv 3 1 r.length (ints r)) ⟨rb, b.toNat, none⟩ (.int .i64 (rdx r b)) := by
          rw [hrdb]; exact rd_vec hrv (by simp [ints])
        have hk := rkinded_ct (L := L) (t := rdx r a) (k := c) (w := true) hS h
        have hst := rset_ct (L := L) hS h (rdx r a) c (rdx r b)
        unfold rSH at hst
        refine cS (cd_drawh (ork [(0, 2), (1, 2), (2, 2), (3, 1), (4, 2), (5, 1), (6, 2), (7, 1), (8, 1), (9, 2)] .nil) (fun _ => true) mixed (by kernel_rfl) ?_)
        refine dV rfl (vM rfl) (dV rfl (vM rfl) (dV rfl (vF rfl fa71_1 rfl) (dr_v rfl (vL rfl ld3) ?_)))
        refine dV rfl (v_idx a.toNat (congrArg some hrv) rfl sl27 (by omega) (by omega)) (dr_v rfl (vL rfl ld3) ?_)
        refine dV rfl (vF rfl fa71_3 rfl) (dr_v rfl (vL rfl ld3) ?_)
        refine dr_clr rfl rfl rfl en65 rfl (hk) ?_
        refine dV rfl (vA rfl) (dr_nil (nK [0, 1, 5, 9, 11] rfl (nT (cS (cR (sV (vM rfl) (sV (v_eql rfl rfl) (sN (nK [0, 1, 5, 9, 11, 81] rfl (nT (cC rfl (fun hc => ?_) (fun hc => ?_))))))))))))
        · skip
          have he : m.kinded (rdx r a) c true = 0 := by simpa using hc
          rw [if_neg (by rw [he]; simp)] at hcont
          refine cd_drawh (ork [(0, 2), (1, 2), (2, 2), (3, 1), (4, 2), (5, 1), (6, 2), (7, 1), (8, 2), (9, 2), (10, 1), (11, 2), (12, 1), (13, 0), (14, 2)] .nil) (fun i => !(Nat.beq i 13)) mixed (by kernel_rfl) ?_
          refine dV rfl (vM rfl) (dV rfl (vM rfl) (dV rfl (vF rfl fa71_1 rfl) (dr_v rfl (vL rfl ld3) ?_)))
          refine dV rfl (v_idx a.toNat (congrArg some hrv) rfl sl27 (by omega) (by omega)) (dr_v rfl (vL rfl ld3) ?_)
          refine dV rfl (vF rfl fa71_3 rfl) (dr_v rfl (vL rfl ld3) ?_)
          refine dV rfl (vM rfl) (dV rfl (vF rfl fa71_2 rfl) (dr_v rfl (vL rfl ld3) ?_))
          refine dV rfl (v_idx b.toNat (congrArg some hrv) rfl sl27 (by omega) (by omega)) (dr_v rfl (vL rfl ld3) ?_)
          refine dr_eff rfl (st_cl rfl rfl en67 rfl (hst) ?_)
          rintro v' h' ⟨rfl, vk, rfl⟩
          simp only [List.cons_append, List.nil_append]
          refine dr_nx ?_
          refine dV rfl (vA rfl) (dr_nil (nK [1, 9, 11] rfl (nx_xt (xB ?_))))
          exact xt_use (hcont vk rv rv _ _ r rfl (fun _ => rfl) (fun _ => rfl))
        · skip
          have he : m.kinded (rdx r a) c true ≠ 0 := by simpa using hc
          rw [if_pos he] at hcont
          refine cK (xB ?_)
          exact xt_use (hcont L.vk rv rv _ m r rfl (fun _ => rfl) (fun _ => rfl))
      · skip
        have e3 : ¬ k = 3 := by simpa using h3
        rw [if_neg e3] at hcont hG
        refine cS (cR (sV (v_eql rfl rfl) (sV (vA rfl) (sN (nK [0, 1, 5, 9, 11, 21, 96] rfl (nT (cC rfl (fun h4 => ?_) (fun h4 => ?_))))))))
        · skip
          have e4 : k = 4 := by simpa using h4
          subst e4
          have ha : 0 ≤ a ∧ a ≤ (r.length : Int) - 1 := by simpa using hq
          rw [if_pos rfl] at hcont
          unfold AM.putA at hcont
          dsimp only at hcont
          have hrda := rdx_at (r := r) ha.1 (by omega)
          obtain ⟨rb, rfl⟩ := hra (by omega)
          have hrd : Rd (vec rv 3 1 r.length (ints r)) ⟨rb, a.toNat, none⟩ (.int .i64 (rdx r a)) := by
            rw [hrda]; exact rd_vec hrv (by simp [ints])
          have hk := rkinded_ct (L := L) (t := rdx r a) (k := c) (w := false) hS h
          have hst := rset_ct (L := L) hS h (rdx r a) c b
          unfold rSH at hst
          refine cS (cd_drawh (ork [(0, 2), (1, 2), (2, 2), (3, 1), (4, 2), (5, 1), (6, 2), (7, 1), (8, 1), (9, 2)] .nil) (fun _ => true) mixed (by kernel_rfl) ?_)
          refine dV rfl (vM rfl) (dV rfl (vM rfl) (dV rfl (vF rfl fa71_1 rfl) (dr_v rfl (vL rfl ld3) ?_)))
          refine dV rfl (v_idx a.toNat (congrArg some hrv) rfl sl27 (by omega) (by omega)) (dr_v rfl (vL rfl ld3) ?_)
          refine dV rfl (vF rfl fa71_3 rfl) (dr_v rfl (vL rfl ld3) ?_)
          refine dr_clr rfl rfl rfl en65 rfl (hk) ?_
          refine dV rfl (vA rfl) (dr_nil (nK [0, 1, 5, 9, 11] rfl (nT (cS (cR (sV (vM rfl) (sV (v_eql rfl rfl) (sN (nK [0, 1, 5, 9, 11, 108] rfl (nT (cC rfl (fun hc => ?_) (fun hc => ?_))))))))))))
          · skip
            have he : m.kinded (rdx r a) c false = 0 := by simpa using hc
            rw [if_neg (by rw [he]; simp)] at hcont
            refine cd_drawh (ork [(0, 2), (1, 2), (2, 2), (3, 1), (4, 2), (5, 1), (6, 2), (7, 1), (8, 2), (9, 1), (10, 0), (11, 2)] .nil) (fun i => !(Nat.beq i 10)) mixed (by kernel_rfl) ?_
            refine dV rfl (vM rfl) (dV rfl (vM rfl) (dV rfl (vF rfl fa71_1 rfl) (dr_v rfl (vL rfl ld3) ?_)))
            refine dV rfl (v_idx a.toNat (congrArg some hrv) rfl sl27 (by omega) (by omega)) (dr_v rfl (vL rfl ld3) ?_)
            refine dV rfl (vF rfl fa71_3 rfl) (dr_v rfl (vL rfl ld3) ?_)
            refine dV rfl (vF rfl fa71_2 rfl) (dr_v rfl (vL rfl ld3) ?_)
            refine dr_eff rfl (st_cl rfl rfl en67 rfl (hst) ?_)
            rintro v' h' ⟨rfl, vk, rfl⟩
            simp only [List.cons_append, List.nil_append]
            refine dr_nx ?_
            refine dV rfl (vA rfl) (dr_nil (nK [1, 9, 11] rfl (nx_xt (xB ?_))))
            exact xt_use (hcont vk rv rv _ _ r rfl (fun _ => rfl) (fun _ => rfl))
          · skip
            have he : m.kinded (rdx r a) c false ≠ 0 := by simpa using hc
            rw [if_pos he] at hcont
            refine cK (xB ?_)
            exact xt_use (hcont L.vk rv rv _ m r rfl (fun _ => rfl) (fun _ => rfl))
        · skip
          have e4 : ¬ k = 4 := by simpa using h4
          rw [if_neg e4] at hcont hG
          refine cS (cR (sV (v_eql rfl rfl) (sV (vA rfl) (sN (nK [0, 1, 5, 9, 11, 21, 120] rfl (nT (cC rfl (fun h5 => ?_) (fun h5 => ?_))))))))
          · skip
            have e5 : k = 5 := by simpa using h5
            subst e5
            have ha : 0 ≤ a ∧ a ≤ (r.length : Int) - 1 := by simpa using hq
            rw [if_pos rfl] at hG
            refine cd_row (v := rv) (n := r.length) (l := ints r) (by omega) (by repeat (first | exact Sel.here | apply Sel.there)) fun b3 cp3 j3 hrv3 ho3 => ?_
            refine cR (sV (vM rfl) (sV (vF rfl fa71_1 rfl) (sV (vL rfl ld3) ?_)))
            refine sV (v_idx a.toNat (congrArg some hrv3) rfl sl27 (by omega) (by omega)) (st_sto rfl rfl sz3 ?_)
            refine sN (nK [1, 9, 11] rfl (nx_xt (xB ?_)))
            rw [show (ints r ++ j3).set a.toNat (Value.int .i64 0) = ints (r.set a.toNat 0) ++ j3 from set_ints (by omega)]
            refine xt_shut (E := 3) (l' := ints (r.set a.toNat 0)) ho3 (by simp [ints]) (by repeat (first | exact Sel.here | apply Sel.there)) ?_
            exact xt_use (hG rv rv 0 m _ rfl (fun _ => rfl) (fun hh => absurd rfl hh)) (by repeat (first | exact trivial | refine ⟨rfl, ?_⟩)) (by rw [List.length_set]; exact (by (repeat (refine Sub.sel (by repeat (first | exact Sel.here | apply Sel.there)) ?_)); (repeat apply Sub.cons); first | exact Sub.refl _ | exact Sub.nil _))
          · skip
            have e5 : ¬ k = 5 := by simpa using h5
            rw [if_neg e5] at hcont hG
            refine cS (cR (sV (v_eql rfl rfl) (sV (vA rfl) (sN (nK [0, 1, 5, 9, 11, 21, 126] rfl (nT (cC rfl (fun h6 => ?_) (fun h6 => ?_))))))))
            · skip
              have e6 : k = 6 := by simpa using h6
              subst e6
              have hab : (0 ≤ a ∧ a ≤ (r.length : Int) - 1) ∧ 0 ≤ b ∧ b ≤ (r.length : Int) - 1 := by simpa using hq
              rw [if_pos rfl] at hG
              have hrb := rdx_at (r := r) hab.2.1 (by omega)
              refine cd_row (v := rv) (n := r.length) (l := ints r) (by omega) (by repeat (first | exact Sel.here | apply Sel.there)) fun b3 cp3 j3 hrv3 ho3 => ?_
              have hrd3 : Rd (pt b3 (cl (ints r ++ j3) 3)) ⟨b3, b.toNat, none⟩ (.int .i64 (rdx r b)) := rd_cl (by rw [hrb, List.getElem?_append_left (by simp [ints]; omega)]; simp [ints])
              refine cd_drawh (ork [(0, 2), (1, 2), (2, 1), (3, 2), (4, 2), (5, 1), (6, 2), (7, 1), (8, 2), (9, 0)] .nil) (fun i => !(Nat.beq i 9)) mixed (by kernel_rfl) ?_
              refine dV rfl (vM rfl) (dV rfl (vF rfl fa71_1 rfl) (dr_v rfl (vL rfl ld3) ?_))
              refine dV rfl (vM rfl) (dV rfl (vF rfl fa71_2 rfl) (dr_v rfl (vL rfl ld3) ?_))
              refine dV rfl (v_idx b.toNat (congrArg some hrv3) rfl sl27 (by omega) (by omega)) (dr_v rfl (vL rfl ld3) ?_)
              refine dV rfl (v_idx a.toNat (congrArg some hrv3) rfl sl27 (by omega) (by omega)) (dr_eff rfl (st_sto rfl rfl sz3 (dr_nx ?_)))
              refine dr_nil (nK [1, 9, 11] rfl (nx_xt (xB ?_)))
              rw [show (ints r ++ j3).set a.toNat (Value.int .i64 (rdx r b)) = ints (r.set a.toNat (rdx r b)) ++ j3 from set_ints (by omega)]
              refine xt_shut (E := 3) (l' := ints (r.set a.toNat (rdx r b))) ho3 (by simp [ints]) (by repeat (first | exact Sel.here | apply Sel.there)) ?_
              exact xt_use (hG rv rv 0 m _ rfl (fun _ => rfl) (fun hh => absurd rfl hh)) (by repeat (first | exact trivial | refine ⟨rfl, ?_⟩)) (by rw [List.length_set]; exact (by (repeat (refine Sub.sel (by repeat (first | exact Sel.here | apply Sel.there)) ?_)); (repeat apply Sub.cons); first | exact Sub.refl _ | exact Sub.nil _))
            · skip
              have e6 : ¬ k = 6 := by simpa using h6
              rw [if_neg e6] at hcont hG
              have k79 : 7 ≤ k ∧ k ≤ 9 := by
                have q1 : ((k == 1 || k == 4) || k == 5) = false := by simp [e1, e4, e5]
                have q2 : ((k == 2 || k == 3) || k == 6) = false := by simp [e2, e3, e6]
                rw [q1, q2] at hq
                simpa using hq
              refine cS (cR (sV (v_eql rfl rfl) (sV (vA rfl) (sN (nK [0, 1, 5, 9, 11, 21, 137] rfl (nT (cC rfl (fun h7 => ?_) (fun h7 => ?_))))))))
              · skip
                have e7 : k = 7 := by simpa using h7
                subst e7
                rw [if_pos rfl] at hcont
                have hmi := rminor2 (L := L) hS h hri hrl
                unfold rSH at hmi
                simp only [List.cons_append, List.nil_append] at hmi
                have hcl : clr false m r = ((m.minor r).2.1, (m.minor r).2.2, if (m.minor r).2.1 = 0 then (m.minor r).1 else r) := rfl
                rw [hcl] at hcont
                refine cR (sV (vM rfl) (sV (vM rfl) (st_cl rfl rfl en68 rfl (hmi) ?_)))
                rintro v' h' ⟨sl, vk, rfl, rfl⟩
                simp only [List.cons_append, List.nil_append]
                refine sV (vM rfl) (sV (v_extract rfl rfl) (sV (v_extract rfl rfl) (sV (vA rfl) (sV (vA rfl) (sN (nK [1, 9, 11] rfl (nx_xt (xB ?_))))))))
                by_cases he : (m.minor r).2.1 = 0
                · rw [he, if_pos rfl] at hcont
                  rw [he]
                  exact xt_use (hcont vk sl sl 0 _ _ rfl (fun _ => rfl) (fun hh => absurd rfl hh))
                · rw [if_neg he] at hcont
                  exact xt_use (hcont vk sl rv _ _ r rfl (fun hh => absurd hh he) (fun _ => rfl))
              · skip
                have e7 : ¬ k = 7 := by simpa using h7
                rw [if_neg e7] at hcont hG
                refine cS (cR (sV (v_eql rfl rfl) (sV (vA rfl) (sN (nK [0, 1, 5, 9, 11, 21, 145] rfl (nT (cC rfl (fun h8 => ?_) (fun h8 => ?_))))))))
                · skip
                  have e8 : k = 8 := by simpa using h8
                  subst e8
                  rw [if_pos rfl] at hcont
                  have hmi := rflip2 (L := L) hS h hri hrl
                  unfold rSH at hmi
                  simp only [List.cons_append, List.nil_append] at hmi
                  have hcl : flp false m r = ((m.flip r).2.1, (m.flip r).2.2, if (m.flip r).2.1 = 0 then (m.flip r).1 else r) := rfl
                  rw [hcl] at hcont
                  refine cR (sV (vM rfl) (sV (vM rfl) (st_cl rfl rfl en69 rfl (hmi) ?_)))
                  rintro v' h' ⟨sl, vk, rfl, rfl⟩
                  simp only [List.cons_append, List.nil_append]
                  refine sV (vM rfl) (sV (v_extract rfl rfl) (sV (v_extract rfl rfl) (sV (vA rfl) (sV (vA rfl) (sN (nK [1, 9, 11] rfl (nx_xt (xB ?_))))))))
                  by_cases he : (m.flip r).2.1 = 0
                  · rw [he, if_pos rfl] at hcont
                    rw [he]
                    exact xt_use (hcont vk sl sl 0 _ _ rfl (fun _ => rfl) (fun hh => absurd rfl hh))
                  · rw [if_neg he] at hcont
                    exact xt_use (hcont vk sl rv _ _ r rfl (fun hh => absurd hh he) (fun _ => rfl))
                · skip
                  have e8 : ¬ k = 8 := by simpa using h8
                  have e9 : k = 9 := by omega
                  subst e9
                  rw [if_neg e8] at hcont
                  have hst := rstep_ct (L := L) hS h hI
                  unfold rSH at hst
                  have hcl : lok false m r ⟨9, a, b, c⟩ = ((m.step a).2.1, (m.step a).2.2, r) := rfl
                  rw [hcl] at hcont
                  refine cS (cR (sV (v_eql rfl rfl) (sV (vA rfl) (sN (nK [0, 1, 5, 9, 11, 153] rfl (nT (cd_true rfl ?_)))))))
                  refine cR (sV (vM rfl) (sV (vF rfl fa71_1 rfl) (sV (vL rfl ld3) ?_)))
                  refine st_cl rfl rfl en70 rfl (hst) ?_
                  rintro v' h' ⟨rfl, rfl⟩
                  simp only [List.cons_append, List.nil_append]
                  refine sV (vM rfl) (sV (v_extract rfl rfl) (sV (v_extract rfl rfl) (sV (vA rfl) (sN (nK [1, 9, 11] rfl (nx_xt (xB ?_)))))))
                  exact xt_use (hcont L.vk rv rv _ _ r rfl (fun _ => rfl) (fun _ => rfl))
end
end Go.Proofs.YtmhmpjgkkpbnnaaGreat
namespace Go.Ck
open Go Go.RowKit
theorem v_append_none {P : Program} {e : Env} {h : SH} {t E ty : TypeId} {x y : Operand} {z : Value} {sz bytes : Nat} {a : Addr} {n cp : Nat} (hx : e.ev? x = some (.slice (some a) n cp)) (hy : e.ev? y = some (.slice none 0 0)) (hT : P.underlying t = some (.slice E)) (hE : Inf P E z sz bytes) (hn : n ≤ cp) : Vop P e h (.call { callee := .builtin .append, args := #[x, y], argTypes := #[t, t] }) ty (.slice (some a) n cp) :=
  ⟨by simp, by simp, fun ρ w d pos after g hρ _ => by
    obtain ⟨i, hi, hz, hisz, hiby⟩ := hE.parts
    simp [execOp, resolve, invoke, builtin, hρ x _ hx, hρ y _ hy, Builtin.append_, run_underlying hT, sizeOf, typeInfo, hi, Builtin.lenOf, Builtin.firstCells, loadCells, loadCellsFrom, hn, storeCells]⟩
end Go.Ck
namespace Go.Proofs.YtmhmpjgkkpbnnaaGreat
open Go.Ck Fx Go.Hm Go.Hm.AM
attribute [local irreducible] St Cd Xt Nx DrL LsW
section
variable {L : RL} {m : AM} {S R : Res} {rv : Value} {ly ln lf : List Int} {φ : Int → Option Nat} {A : Store} {r : List Int} {k a b c : Int}
set_option maxHeartbeats 4000000 in
set_option maxRecDepth 100000 in
theorem ract_ct (hS : Shp S L.vs m.sh) (h : AM.Good m ly ln lf φ A) (hrl : r.length ≤ 1000000) (hI : I64 a) :
    Ct Tryz.prog 30 #[.pointer (some ⟨L.hb, 0, none⟩), rv, .agg #[.int .i64 k, .int .i64 a, .int .i64 b, .int .i64 c]] (rSH L m S ++ [vec rv 3 1 r.length (ints r)]) fun u h' =>
      ∃ rv' vk, u = .tuple #[rv', .int .i64 (AM.act false m r ⟨k, a, b, c⟩).1] ∧ h' = vec rv' 3 1 (AM.act false m r ⟨k, a, b, c⟩).2.2.length (ints (AM.act false m r ⟨k, a, b, c⟩).2.2) :: rSH { L with vk := vk } (AM.act false m r ⟨k, a, b, c⟩).2.1 S := by
  have hro := rootsOf_ct (p := ⟨k, a, b, c⟩) (n := (r.length : Int)) hI (by omega)
  dsimp only at hro
  refine ct_of (n := 169) Tryz.func30 rfl rfl (len rfl) fun hr w0 => ?_
  refine cd_vecshape (v := rv) (E := 3) (sz := 1) (n := r.length) (l := ints r) (by unfold rSH; simp only [List.cons_append, List.nil_append]; exact (by repeat (first | exact Sel.here | apply Sel.there))) fun ra rcp hrv hra => ?_
  unfold rSH
  simp only [List.cons_append, List.nil_append]
  refine cS (cR (st_bx rfl rfl fun b5 => ?_))
  refine sV (vA rfl) (sV (vA rfl) (sN (nK [0, 1, 5, 6, 7] rfl (nT (cS (cR (sV (v_loadW rfl ld71 rfl (by repeat (first | exact Sel.here | apply Sel.there))) ?_)))))))
  refine sV (vM rfl) (sV (v_len (congrArg some hrv) Tryz.underlying27) (st_clr rfl rfl en63 rfl (hro) ?_))
  refine sV (vA rfl) (sN (nK [0, 1, 5, 6, 7, 8] rfl (nT (cS (cS (cR (sV (vM rfl) (sV (v_not rfl) (sN (nK [0, 1, 5, 6, 7, 17] rfl (nT ?_)))))))))))
  rw [act_rootsQ]
  refine cC rfl (fun hq => ?_) (fun hq => ?_)
  · skip
    have hq' : rootsQ ⟨k, a, b, c⟩ r.length = false := by simpa using hq
    rw [hq', if_neg (by simp)]
    refine cS (cR (sV (vM rfl) (sV (vA rfl) (sV (vA rfl) (sN (nK [0, 1, 5, 6, 7] rfl (nT (cT (xR ?_)))))))))
    exact xt_rt rfl ⟨rv, L.vk, rfl, rfl⟩ (by (repeat (refine Sub.sel (by repeat (first | exact Sel.here | apply Sel.there)) ?_)); (repeat apply Sub.cons); first | exact Sub.refl _ | exact Sub.nil _)
  · skip
    have hq' : rootsQ ⟨k, a, b, c⟩ r.length = true := by simpa using hq
    rw [hq', if_pos rfl]
    refine cK (xT (cS (cR (sV (vA rfl) (sN (nK [0, 1, 5, 6, 7, 9] rfl (nT (cS (cR (sV (vA rfl) (sN (nT (cS (cR (sV (vM rfl) (sV (vA rfl) ?_))))))))))))))))
    refine sN (nK [0, 1, 5, 6, 7, 9, 10, 11] rfl (nT (cS (cS (cR (sV (vF rfl fa71_0 rfl) (sV (vL rfl ld3) ?_)))))))
    refine sN (nK [0, 1, 5, 6, 7, 9, 10, 11, 21] rfl (nT (cd_use (ract_block (L := L) (b5 := b5) (w0 := w0) (hr := hr) (rv := rv) (k := k) (a := a) (b := b) (c := c) hS h hrl hI hq' fun vk lv xv e' m' r' hact hx1 hx2 => ?_) (by repeat (first | exact trivial | refine ⟨rfl, ?_⟩)) (by unfold rSH; simp only [List.cons_append, List.nil_append]; exact (by (repeat (refine Sub.sel (by repeat (first | exact Sel.here | apply Sel.there)) ?_)); (repeat apply Sub.cons); first | exact Sub.refl _ | exact Sub.nil _)))))
    have hl' : r'.length = r.length := by
      have := act_len false m r ⟨k, a, b, c⟩
      rw [act_rootsQ, hq', if_pos rfl, hact] at this
      exact this
    rw [hact]
    dsimp only
    unfold rSH
    simp only [List.cons_append, List.nil_append]
    refine xT (cS (cS (cR (sV (vM rfl) (sV (v_neq rfl rfl) (sN (nK [1, 9, 11, 163] rfl (nT (cC rfl (fun hc => ?_) (fun hc => ?_))))))))))
    · skip
      have he : e' ≠ 0 := by simpa using hc
      rw [hx2 he]
      refine cS (cR (sV (vM rfl) (sV (vM rfl) (sV (vA rfl) (sV (vA rfl) (sN (nK [6, 7, 11] rfl (nT (cT (xR ?_))))))))))
      exact xt_rt rfl ⟨rv, vk, rfl, rfl⟩ (by (repeat (refine Sub.sel (by repeat (first | exact Sel.here | apply Sel.there)) ?_)); (repeat apply Sub.cons); first | exact Sub.refl _ | exact Sub.nil _)
    · skip
      have he : e' = 0 := by simpa using hc
      rw [hx1 he, he]
      refine cK (xT (cS (cd_vform (v := lv) (E := 3) (sz := 1) (n := r'.length) (l := ints r') (by repeat (first | exact Sel.here | apply Sel.there)) fun hvf => ?_)))
      rcases hvf with ⟨h1, h2, h3⟩ | ⟨lb, lcp, rfl⟩
      · subst h1
        refine cR (st_buildSlice0 Tryz.underlying27 inf3 (ltn rfl) fun b166 => ?_)
        refine sV (vM rfl) (sV (v_append_none rfl rfl Tryz.underlying27 inf3 (Nat.le_refl _)) (sV (vA rfl) (sV (vA rfl) (sN (nK [6, 7] rfl (nT (cT (xt_rt rfl ⟨.slice (some ⟨b166, 0, none⟩) 0 0, vk, rfl, rfl⟩ ?_))))))))
        rw [h2, h3]
        exact (by (repeat (refine Sub.sel (by repeat (first | exact Sel.here | apply Sel.there)) ?_)); (repeat apply Sub.cons); first | exact Sub.refl _ | exact Sub.nil _)
      · skip
        refine cR (st_buildSlice0 Tryz.underlying27 inf3 (ltn rfl) fun b166 => ?_)
        refine sV (vM rfl) (st_append (v := .slice (some ⟨b166, 0, none⟩) 0 0) (n := 0) (xs := []) (news := ints r') rfl rfl Tryz.underlying27 inf3 rfl (ltn rfl) (by repeat (first | exact Sel.here | apply Sel.there)) (by simp [ints]) (fun j u hu => by rw [Nat.zero_add]; exact at_there (at_here (rd_vec rfl hu))) (by intro u hu; simp only [ints, List.mem_map] at hu; obtain ⟨x, _, rfl⟩ := hu; rfl) (by omega) (by omega) (ltn rfl) fun nv hnv hn1 => ?_)
        refine sV (vA rfl) (sV (vA rfl) (sN (nK [6, 7] rfl (nT (cT (xt_rt rfl ⟨nv, vk, rfl, rfl⟩ ?_))))))
        rw [Nat.zero_add, List.nil_append]
        exact (by (repeat (refine Sub.sel (by repeat (first | exact Sel.here | apply Sel.there)) ?_)); (repeat apply Sub.cons); first | exact Sub.refl _ | exact Sub.nil _)
end
end Go.Proofs.YtmhmpjgkkpbnnaaGreat
namespace Go.Proofs.YtmhmpjgkkpbnnaaGreat
open Go.Ck Fx Go.Hm Go.Hm.AM
attribute [local irreducible] St Cd Xt Nx DrL LsW
section
variable {R : Res} {v0 v4 : Value} {sh : List (List Bool)} {xs : List Go.Hm.Act} {half young n : Int}
theorem kactsM (en : Bool) : ∀ (l : List Go.Hm.Act) {m : AM}, Fine m → (r : List Int) → Kept m (AM.acts en l m r).2.1
  | [], m, _, _ => Kept.refl m
  | x :: t, m, h, r => by
    have h' := h.act en r x
    obtain ⟨_, _, _, _, _, g⟩ := h
    exact (g.kact en r x).trans (kactsM en t h' _)
structure RPl where
  i : Nat
  vk : Value
  rv : Value
  ev : Value
set_option maxHeartbeats 4000000 in
set_option maxRecDepth 100000 in
theorem rplay_c (hS : Shp R v0 sh) (hs0 : sh.length ≤ 1000000) (hX : ActsV R v4 xs) (ha : ∀ x ∈ xs, I64 x.a) : Ct Tryz.prog 7 #[v0, .int .i64 half, .int .i64 young, .int .i64 n, v4] [R] fun u h' =>
    (playErr sh half young n xs ≠ 0 ∧ u = .agg #[.pointer none, .slice none 0 0, .slice none 0 0, .int .i64 (playErr sh half young n xs)] ∧ h' = [R]) ∨
    (playErr sh half young n xs = 0 ∧ newErr sh half young = 0 ∧ 0 ≤ n ∧ n ≤ 200 ∧ xs.length ≤ 2000 ∧ ∃ L rv ev, L.vs = v0 ∧ u = .agg #[.pointer (some ⟨L.hb, 0, none⟩), rv, ev, .int .i64 0] ∧
      h' = vec rv 3 1 (AM.acts false xs (new' sh half young) (List.replicate n.toNat 0)).2.2.length (ints (AM.acts false xs (new' sh half young) (List.replicate n.toNat 0)).2.2) ::
        vec ev 29 1 (AM.acts false xs (new' sh half young) (List.replicate n.toNat 0)).1.length (ints (AM.acts false xs (new' sh half young) (List.replicate n.toNat 0)).1) ::
        rSH L (AM.acts false xs (new' sh half young) (List.replicate n.toNat 0)).2.1 R) := by
  obtain ⟨xa, xcp, hxv, _⟩ := id hX
  unfold playErr
  refine ct_of (n := 63) Tryz.func7 rfl rfl (len rfl) fun hr w0 => ?_
  simp only [List.cons_append, List.nil_append]
  refine cS (cR (st_alc al34 fun b10 => ?_))
  refine sN (nT (cS (cR (sV (vM rfl) (sV (vM rfl) (sV (vM rfl) (st_cl rfl rfl en28 rfl (rnew_ct (half := half) (young := young) hS hs0) ?_)))))))
  rintro v' h' hu
  rcases hu with ⟨hne, rfl, rfl⟩ | ⟨hne, L0, hL0, rfl, rfl⟩
  · skip
    rw [if_neg hne]
    simp only [List.cons_append, List.nil_append]
    refine sV (vM rfl) (sV (v_extract rfl rfl) (sV (v_extract rfl rfl) (sV (vA rfl) (sV (vA rfl) (sN (nK [3, 4, 10, 11, 12] rfl (nT (cS (cS (cR (sV (vM rfl) (sV (v_eql rfl rfl) (sN (nK [3, 4, 10, 11, 12, 25] rfl (nT (cC rfl (fun hA => ?_) (fun hA => ?_)))))))))))))))))
    · skip
      exact absurd (by simpa using hA) hne
    · skip
      refine cK (xT (cS (cS (cR (sV (vM rfl) (sV (v_neq rfl rfl) (sN (nK [3, 4, 10, 11, 12, 30] rfl (nT (cC rfl (fun hB => ?_) (fun hB => ?_)))))))))))
      · skip
        refine cS (cR (sV (vM rfl) (sV (v_build (cells := [.pointer none, .slice none 0 0, .slice none 0 0, .int .i64 (newErr sh half young)]) rfl (fun _ => by kernel_rfl)) ?_)))
        refine st_stoW rfl rfl sz34 rfl rfl ?_
        refine sN (nK [3, 4, 10, 11] rfl (nT (cT (xR ?_))))
        exact xt_retV (.cellN rfl ld34 rfl (by repeat (first | exact Sel.here | apply Sel.there)) .nil) (.inl ⟨hne, rfl, rfl⟩) (by (repeat (refine Sub.sel (by repeat (first | exact Sel.here | apply Sel.there)) ?_)); (repeat apply Sub.cons); first | exact Sub.refl _ | exact Sub.nil _)
      · skip
        exact absurd (by simpa using hB) hne
  · skip
    rw [if_pos hne]
    unfold rSH
    simp only [List.cons_append, List.nil_append]
    refine sV (vM rfl) (sV (v_extract rfl rfl) (sV (v_extract rfl rfl) (sV (vA rfl) (sV (vA rfl) (sN (nK [3, 4, 10, 11, 12] rfl (nT (cS (cS (cR (sV (vM rfl) (sV (v_eql rfl rfl) (sN (nK [3, 4, 10, 11, 12, 25] rfl (nT (cd_true rfl ?_))))))))))))))))
    refine cR (sV (vM rfl) (sV (vM rfl) (st_clr rfl rfl en29 rfl (limits_ct hX) ?_)))
    refine sV (vA rfl) (sN (nK [3, 4, 10, 11, 12] rfl (nT (cS (cS (cR (sV (vM rfl) (sV (v_neq rfl rfl) (sN (nK [3, 4, 10, 11, 12, 30] rfl (nT (cC rfl (fun hB => ?_) (fun hB => ?_)))))))))))))
    · skip
      refine cS (cR (sV (vM rfl) (sV (v_build (cells := [.pointer none, .slice none 0 0, .slice none 0 0, .int .i64 (playedErr n xs)]) rfl (fun _ => by kernel_rfl)) ?_)))
      refine st_stoW rfl rfl sz34 rfl rfl ?_
      refine sN (nK [3, 4, 10, 11] rfl (nT (cT (xR ?_))))
      exact xt_retV (.cellN rfl ld34 rfl (by repeat (first | exact Sel.here | apply Sel.there)) .nil) (.inl ⟨by simpa using hB, rfl, rfl⟩) (by (repeat (refine Sub.sel (by repeat (first | exact Sel.here | apply Sel.there)) ?_)); (repeat apply Sub.cons); first | exact Sub.refl _ | exact Sub.nil _)
    · skip
      refine cK (xT (cS (cR (sV (vM rfl) (sV (vM rfl) ?_)))))
      have hp : playedErr n xs = 0 := by simpa using hB
      have hp' := hp
      unfold playedErr at hp'
      have hq : ¬ (decide (200 < n) || decide (2000 < (xs.length : Int))) = true := fun hh => by rw [if_pos hh] at hp'; cases hp'
      rw [if_neg hq] at hp'
      have hn0 : 0 ≤ n := by
        by_cases h0 : n < 0
        · rw [if_pos h0] at hp'; cases hp'
        · omega
      simp only [Bool.or_eq_true, decide_eq_true_eq, not_or] at hq
      obtain ⟨N, rfl⟩ : ∃ N : Nat, n = N := ⟨n.toNat, by omega⟩
      rw [hp, Int.toNat_natCast]
      refine st_make (n := N) rfl rfl rfl Tryz.underlying27 inf3 rfl (by omega) (by omega) (ltn rfl) fun b1 => ?_
      refine sV (v_build (cells := [.pointer (some ⟨L0.hb, 0, none⟩), .slice (some ⟨b1, 0, none⟩) N N, .slice none 0 0, .int .i64 0]) rfl (fun _ => by kernel_rfl)) ?_
      refine st_alc al34 fun b13 => ?_
      refine st_stoW rfl rfl sz34 rfl rfl ?_
      refine sN (nK [4, 10, 11, 13] rfl (nT (cS (cS (cR (sV (vA rfl) (sN (nT (cd_block (cd_vecnil 29 1 ?_))))))))))
      refine cd_shut (v := .slice (some ⟨b1, 0, none⟩) N N) (E := 3) (sz := 1) (n := N) (l := ints (List.replicate N 0)) (l' := ints (List.replicate N 0)) (b := b1) (cp := N) (j := []) ⟨rfl, by simp [ints], Nat.le_refl _, by unfold maxLen; omega, by simp [ints]⟩ rfl (by rw [show ints (List.replicate N 0) ++ [] = List.replicate N (.int .i64 0) by simp [ints]]; exact (by repeat (first | exact Sel.here | apply Sel.there))) ?_
      simp only [List.cons_append, List.nil_append, List.append_assoc]
      refine cd_loop (σ := RPl) (fun s => [(4, v4), (10, .pointer (some ⟨b10, 0, none⟩)), (11, .pointer (some ⟨L0.hb, 0, none⟩)), (13, .pointer (some ⟨b13, 0, none⟩)), (14, .int .i64 (s.i : Nat))]) (fun s => pt b10 (cl [.pointer none, .slice none 0 0, .slice none 0 0, .int .i64 0] 34) :: pt b13 (cl [.pointer (some ⟨L0.hb, 0, none⟩), s.rv, s.ev, .int .i64 0] 34) :: vec s.rv 3 1 (acts false (xs.take s.i) (new' sh half young) (List.replicate N 0)).2.2.length (ints (acts false (xs.take s.i) (new' sh half young) (List.replicate N 0)).2.2) :: vec s.ev 29 1 (acts false (xs.take s.i) (new' sh half young) (List.replicate N 0)).1.length (ints (acts false (xs.take s.i) (new' sh half young) (List.replicate N 0)).1) :: (rSH { L0 with vk := s.vk } (acts false (xs.take s.i) (new' sh half young) (List.replicate N 0)).2.1 R ++ hr)) (fun s => s.i ≤ xs.length) (fun s => xs.length - s.i) ⟨0, L0.vk, .slice (some ⟨b1, 0, none⟩) N N, .slice none 0 0⟩ (Nat.zero_le _) ⟨rfl, rfl, rfl, rfl, rfl, trivial⟩ (by unfold rSH; simp only [List.cons_append, List.nil_append, List.take_zero, acts, List.length_replicate, List.length_nil]; exact (by (repeat (refine Sub.sel (by repeat (first | exact Sel.here | apply Sel.there)) ?_)); (repeat apply Sub.cons); first | exact Sub.refl _ | exact Sub.nil _)) ?_
      rintro ⟨i, vk, rv, ev⟩ hi
      dsimp only at hi ⊢
      unfold rSH
      simp only [List.cons_append, List.nil_append]
      refine cS (cS (cR (sV (vM rfl) (sV (vM rfl) (sV (v_len (congrArg some hxv) Tryz.underlying23) (sV (v_lss rfl rfl) (sN (nK [4, 10, 11, 13, 14, 40] rfl (nT (cC rfl (fun hd => ?_) (fun hd => ?_)))))))))))
      · skip
        have hlt : i < xs.length := by simpa using hd
        obtain ⟨b, o, cp', hv', hrds⟩ := hX.at hlt
        have hF := Fine.acts false (xs.take i) (fine_new hne) (List.replicate N 0)
        have hK := kactsM false (xs.take i) (fine_new hne) (List.replicate N 0)
        obtain ⟨ly, ln, lf, φ, A, hg⟩ := hF
        have hlen : (acts false (xs.take i) (new' sh half young) (List.replicate N 0)).2.2.length ≤ 1000000 := by rw [acts_len, List.length_replicate]; omega
        have hel : (acts false (xs.take i) (new' sh half young) (List.replicate N 0)).1.length = i := by rw [acts_errs, List.length_take]; omega
        have hsn := acts_snoc false (xs.take i) xs[i] (new' sh half young) (List.replicate N 0)
        rw [← List.take_succ_eq_append_getElem hlt] at hsn
        have hact := ract_ct (L := { L0 with vk := vk }) (rv := rv) (k := xs[i].k) (a := xs[i].a) (b := xs[i].b) (c := xs[i].c) (by rw [hK.sh]; show Shp R L0.vs sh; rw [hL0]; exact hS) hg hlen (ha _ (List.getElem_mem hlt))
        unfold rSH at hact
        simp only [List.cons_append, List.nil_append] at hact
        refine cK (xT (cS (cd_block (cS (cd_drawh (ork [(0, 2), (1, 2), (2, 1), (3, 2), (4, 2), (5, 2), (6, 1), (7, 0), (8, 2), (9, 2), (10, 2), (11, 2), (12, 2)] .nil) (fun i => !(Nat.beq i 7)) mixed (by kernel_rfl) ?_)))))
        refine dV rfl (vM rfl) (dV rfl (vF rfl fa34_1 rfl) (dr_v rfl (vL rfl ld27) ?_))
        refine dV rfl (vM rfl) (dV rfl (vM rfl) (dV rfl (v_indexAddr (congrArg some hv') rfl sl23 rfl hlt rfl) (dr_v rfl (v_loadR rfl ld71 rfl (by repeat (first | exact Sel.here | apply Sel.there)) hrds) ?_)))
        refine dr_eff rfl (st_cl rfl rfl en30 rfl (hact) ?_)
        rintro v' h' ⟨rv1, vk1, rfl, rfl⟩
        simp only [List.cons_append, List.nil_append]
        refine dr_nx ?_
        refine dV rfl (vM rfl) (dV rfl (v_extract rfl rfl) (dV rfl (v_extract rfl rfl) (dV rfl (vA rfl) (dV rfl (vA rfl) (dr_nil (nK [4, 10, 11, 13, 14, 15, 16] rfl (nT (cS (cd_vform (v := rv1) (E := 3) (sz := 1) (by repeat (first | exact Sel.here | apply Sel.there)) fun hf1 => ?_)))))))))
        have o3 := VForm.one hf1
        refine cR (sV (vM rfl) (sV (vF rfl fa34_1 rfl) (st_sto rfl rfl sz27 ?_ o3)))
        refine sN (nK [4, 10, 11, 13, 14, 16] rfl (nT (cR (sV (vF rfl fa34_2 rfl) (sV (vL rfl ld28) ?_)))))
        refine sV (vM rfl) (st_buildSlice (cells := [.int .i64 (AM.act false (acts false (xs.take i) (new' sh half young) (List.replicate N 0)).2.1 (acts false (xs.take i) (new' sh half young) (List.replicate N 0)).2.2 ⟨xs[i].k, xs[i].a, xs[i].b, xs[i].c⟩).1]) rfl Tryz.underlying28 inf29 rfl rfl (by kernel_rfl) (ltn rfl) fun b59 => ?_)
        refine st_append (news := [.int .i64 (AM.act false (acts false (xs.take i) (new' sh half young) (List.replicate N 0)).2.1 (acts false (xs.take i) (new' sh half young) (List.replicate N 0)).2.2 ⟨xs[i].k, xs[i].a, xs[i].b, xs[i].c⟩).1]) rfl rfl Tryz.underlying28 inf29 rfl (ltn rfl) (by repeat (first | exact Sel.here | apply Sel.there)) rfl (fun j u hu => by repeat (first | exact at_here (rd_cl (by simpa using hu)) | apply at_there)) (ones rfl) (by omega) (by omega) (ltn rfl) fun ev' hev' hv1 => ?_
        refine sV (vF rfl fa34_2 rfl) (st_sto rfl rfl sz28 ?_)
        refine sN (nK [4, 10, 11, 13, 14] rfl (nx_xt (xB (xT (cR (sV (vM rfl) (sV (v_add rfl rfl (by unfold I64 at *; omega)) (sV (vA rfl) (sN (nK [4, 10, 11, 13, 14] rfl (nx_xt ?_)))))))))))
        have hi2 : (acts false (xs.take (i + 1)) (new' sh half young) (List.replicate N 0)).2 = (AM.act false (acts false (xs.take i) (new' sh half young) (List.replicate N 0)).2.1 (acts false (xs.take i) (new' sh half young) (List.replicate N 0)).2.2 ⟨xs[i].k, xs[i].a, xs[i].b, xs[i].c⟩).2 := by rw [hsn]
        have hi1 : (acts false (xs.take (i + 1)) (new' sh half young) (List.replicate N 0)).1 = (acts false (xs.take i) (new' sh half young) (List.replicate N 0)).1 ++ [(AM.act false (acts false (xs.take i) (new' sh half young) (List.replicate N 0)).2.1 (acts false (xs.take i) (new' sh half young) (List.replicate N 0)).2.2 ⟨xs[i].k, xs[i].a, xs[i].b, xs[i].c⟩).1] := by rw [hsn]
        refine xt_ag (⟨i + 1, vk1, rv1, ev'⟩ : RPl) (by dsimp only; omega) (by dsimp only; omega) (by repeat (first | exact trivial | refine ⟨rfl, ?_⟩)) ?_
        dsimp only
        rw [hi1, hi2, List.length_append, show ∀ (l : List Int) (x : Int), ints (l ++ [x]) = ints l ++ [.int .i64 x] from fun l x => by simp [ints]]
        exact (by (repeat (refine Sub.sel (by repeat (first | exact Sel.here | apply Sel.there)) ?_)); (repeat apply Sub.cons); first | exact Sub.refl _ | exact Sub.nil _)
      · skip
        have hge : i = xs.length := by
          have : ¬ i < xs.length := by simpa using hd
          omega
        subst hge
        rw [List.take_length]
        refine cd_vform (v := rv) (E := 3) (sz := 1) (by repeat (first | exact Sel.here | apply Sel.there)) fun hf1 => ?_
        refine cd_vform (v := ev) (E := 29) (sz := 1) (by repeat (first | exact Sel.here | apply Sel.there)) fun hf2 => ?_
        have o1 := VForm.one hf1; have o2 := VForm.one hf2
        refine cd_exit (xE (xE (xt_exit_block (xT (cS (cR (sV (v_loadW rfl ld34 rfl (by repeat (first | exact Sel.here | apply Sel.there))) ?_)))))))
        refine st_stoW rfl rfl sz34 rfl (by simp only [List.all_cons, List.all_nil, o1, o2]; rfl) ?_
        refine sN (nK [10] rfl (nT (cT ?_)))
        exact xt_retV (.cellN rfl ld34 rfl (by repeat (first | exact Sel.here | apply Sel.there)) .nil) (.inr ⟨trivial, hne, by omega, by omega, by omega, { L0 with vk := vk }, rv, ev, hL0, rfl, rfl⟩) (by (repeat (refine Sub.sel (by repeat (first | exact Sel.here | apply Sel.there)) ?_)); (repeat apply Sub.cons); first | exact Sub.refl _ | exact Sub.nil _)
end
end Go.Proofs.YtmhmpjgkkpbnnaaGreat
