/-
  Package heir: Without. Conditions: what is read to its end.
  The specification: Add, Without. Conditions: what is read.
  The specification: Without, SameGraph. Conditions: what is read.
  HeirChanges. Conditions: what is read to its end.
  HeirBack. Conditions: what is read to its end.
  What the arguments of the laws read as, to their end. No condition.
  HeirBack: for every input the law answers true, and the input reads as it did. No condition.
-/
import Derived.Test.YtjgiaohieadeiaaGreatM11
import Derived.Test.YtjgiaohieadeiaaGreatM9
import Derived.Test.YtjgiaohieadeiaaGreatM10
import Derived.Test.YtjgiaohieadeiaaGreatM8
import Derived.Test.YtjgiaohieadeiaaGreatRows
import Derived.SizedLaws
set_option linter.unusedVariables false
set_option linter.unusedSimpArgs false
namespace Go.Hr
open Go Go.RowKit Go.Ck Go.Proofs Go.Proofs.YtjgiaohieadeiaaGreat Fx
attribute [local irreducible] Go.Ck.Sub St Cd Xt Nx DrL LsW
def wouE (l : Sys) (c : Nm) : Int := if rightE l [c] = 0 then (if used l c then 10 else 0) else rightE l [c]
section
variable {S N : Res} {v : Value} {l : Sys} {us : List Value} {x : Cls} {kf : FuncId} {cp : Array Value} {g : Cls → Bool}
set_option maxRecDepth 100000 in
theorem other_ct {b : Nat} (hx : clsC S us x) (c : Nm) : Reads Tryz.prog 34 #[.agg us.toArray, .pointer (some ⟨b, 0, none⟩)] [pt b (cl [sv c] 9)] (.bool (x.name != c)) := by
  obtain ⟨d, f, pv, c2, fa, fc, iv, rfl, hone, hp⟩ := id hx
  refine ct_of (n := 8) Tryz.func34 rfl rfl (len rfl) fun hr w0 => ?_
  refine cd_seq (cd_region (st_bx rfl rfl fun b2 => ?_))
  refine st_v (v_assign rfl) (st_nil (nx_kp [1, 2, 3] rfl (nx_then (cd_seq (cd_region (st_v (v_fieldAddr rfl fa29_0 rfl) (st_v (v_ldy rfl ld9) ?_)))))))
  refine st_v (v_ldy rfl ld9) ?_
  refine st_v (v_sneq rfl rfl) (st_v (v_assign rfl) (st_nil (nx_kp [3] rfl (nx_then (cd_ret ?_)))))
  exact xt_rt rfl ⟨rfl, rfl⟩ (by (repeat (refine Sub.sel (by repeat (first | exact Sel.here | apply Sel.there)) ?_)); (repeat apply Sub.cons); first | exact Sub.refl _ | exact Sub.nil _)
set_option maxRecDepth 100000 in
theorem filterS_ct (hv : sysG S v l) (hl : l.length ≤ 1000000) (hE : Ck.Enters Tryz.prog kf) (hf : ∀ us x, x ∈ l → clsC S us x → Reads Tryz.prog kf (#[] ++ [.agg us.toArray].toArray ++ cp) [N] (.bool (g x))) : CtN Tryz.prog 33 #[v, .func (.func kf) #[] cp] [S, N] fun u T => u.oneCell' = true ∧ ∃ rows, T = VR u 29 7 rows ∧ Cor (clsG S) rows (l.filter g) := by
  obtain ⟨a, cap, rfl, _⟩ := id hv
  refine ct_of (n := 23) Tryz.func33 rfl rfl (len rfl) fun hr w0 => ?_
  refine cd_seq (cd_region (st_v (v_assign rfl) (st_nil (nx_then (cd_seq (cd_region (st_v (v_assign rfl) (st_nil (nx_then (cd_seq (cd_seq (cd_region (st_v (v_move rfl) (st_v (v_len rfl Tryz.underlying22) (st_v (v_move rfl) ?_)))))))))))))))
  refine st_nil (nx_kp [1, 4, 5, 8, 9, 10] rfl (nx_then (cd_block (cd_vw (vw_nil 29 7) (cd_lq (σ := Value × List (List Value) × Nat) (fun q => [(1, .func (.func kf) #[] cp), (5, q.1), (8, .slice a l.length cap), (9, .int .i64 l.length), (10, .int .i64 (q.2.2 : Nat))]) (fun q => VR q.1 29 7 q.2.1 :: S :: N :: hr) (fun q => q.1.oneCell' = true ∧ q.2.2 ≤ l.length ∧ Cor (clsG S) q.2.1 ((l.take q.2.2).filter g)) (fun q => l.length - q.2.2) (.slice none 0 0, [], 0) ⟨rfl, Nat.zero_le _, Cor.nil⟩ ?_)))))
  rintro ⟨w, rows, i⟩ ⟨hw, hi, hcor⟩
  simp only at hw hi hcor
  dsimp only
  refine cd_seq (cd_region (st_v (v_lss rfl rfl) (st_nil (nx_then (cd_seq (cd_cond rfl (fun hd => ?_) (fun hd => ?_)))))))
  · skip
    have hlt : i < l.length := by simpa using hd
    obtain ⟨b, o, cap2, us, e1, hus, hrd, hxg⟩ := Row.at hv (List.getElem?_eq_getElem hlt)
    cases e1
    obtain ⟨d, f, pv, c2, fa, fc, iv, rfl, hone, hp⟩ := id hxg.1
    have hmem : l[i] ∈ l := List.getElem_mem hlt
    have hll : ((l.take i).filter g).length ≤ i := Nat.le_trans (List.length_filter_le _ _) (by rw [List.length_take]; omega)
    have hrl := hcor.1
    have ht : (l.take (i + 1)).filter g = (l.take i).filter g ++ (if g l[i] = true then [l[i]] else []) := by
      rw [List.take_succ_eq_append_getElem hlt, List.filter_append]
      congr 1
      by_cases hg : g l[i] = true <;> simp [hg]
    refine cd_skip (xt_then (cd_seq (cd_block (cd_seq (cd_region (st_v (v_indexAddr (k := i) rfl rfl sl22 rfl hlt rfl) (st_v (v_ldn rfl ld29 rfl hrd) ?_)))))))
    refine st_alc al29 fun b7 => ?_
    refine st_stoW rfl rfl sz29 rfl hone ?_
    refine st_nil (nx_kp [1, 5, 7, 8, 9, 10] rfl (nx_then (cd_seq (cd_region (st_v (v_move rfl) (st_v (v_ldn rfl ld29 rfl rds_pt) ?_))))))
    refine st_clr rfl rfl hE rfl ((hf _ l[i] hmem hxg.1)) ?_
    refine st_nil (nx_kp [1, 5, 7, 8, 9, 10, 16] rfl (nx_then (cd_cond rfl (fun he => ?_) (fun he => ?_))))
    · skip
      rw [if_pos he] at ht
      refine cd_region (st_v (v_move rfl) (st_v (v_ldn rfl ld29 rfl rds_pt) ?_))
      refine st_buildSlice (cells := [sv (l[i]).name, d, f, pv, c2, .slice fa (l[i]).feats fc, iv]) rfl Tryz.underlying22 inf29 rfl rfl (by kernel_rfl) (ltn rfl) fun b19 => ?_
      refine st_app [[sv (l[i]).name, d, f, pv, c2, .slice fa (l[i]).feats fc, iv]] rfl rfl Tryz.underlying22 inf29 rfl (by decide) (show Sel _ (VR w 29 7 rows) _ from (by repeat (first | exact Sel.here | apply Sel.there))) (by simp) rfl (fun j u2 hu2 => at_here (rd_cl (by simpa using hu2))) (fun u hu => List.all_eq_true.1 hone u (by simpa using hu)) (by omega) (by omega) (ltn rfl) fun w3 hw3 _ => ?_
      refine st_v (v_assign rfl) (st_nil (nx_kp [1, 5, 8, 9, 10] rfl (nx_xt (xt_normal_block (xt_then (cd_region (st_v (v_add rfl rfl (by unfold I64 at *; omega)) (st_v (v_move rfl) (st_nil (nx_kp [1, 5, 8, 9, 10] rfl (nx_xt ?_)))))))))))
      refine xt_aq (w3, rows ++ [[sv (l[i]).name, d, f, pv, c2, .slice fa (l[i]).feats fc, iv]], i + 1) ⟨hw3, hlt, by show Cor _ _ ((l.take (i + 1)).filter g); rw [ht]; exact hcor.snoc hxg⟩ (Nat.sub_lt_sub_left hlt (Nat.lt_succ_self i))
    · skip
      rw [if_neg (by rw [he]; decide), List.append_nil] at ht
      refine cd_skip (xt_normal_block (xt_then (cd_region (st_v (v_add rfl rfl (by unfold I64 at *; omega)) (st_v (v_move rfl) (st_nil (nx_kp [1, 5, 8, 9, 10] rfl (nx_xt ?_))))))))
      refine xt_aq (w, rows, i + 1) ⟨hw, hlt, by show Cor _ _ ((l.take (i + 1)).filter g); rw [ht]; exact hcor⟩ (Nat.sub_lt_sub_left hlt (Nat.lt_succ_self i))
  · skip
    have hil : i = l.length := by have : ¬ i < l.length := by simpa using hd
                                  omega
    subst hil
    rw [List.take_length] at hcor
    refine cd_exit (xt_exit_then (xt_exit_then (xt_exit_block (xt_then (cd_seq (cd_region (st_v (v_move rfl) (st_v (v_assign rfl) (st_nil (nx_kp [4] rfl (nx_then (cd_ret ?_))))))))))))
    exact xt_rt rfl ⟨_, rfl, hw, _, rfl, hcor⟩ (by (repeat (refine Sub.sel (by repeat (first | exact Sel.here | apply Sel.there)) ?_)); (repeat apply Sub.cons); first | exact Sub.refl _ | exact Sub.nil _)
set_option maxHeartbeats 1000000 in
set_option maxRecDepth 100000 in
theorem Without_ct (hv : sysG S v l) (c : Nm) : CtN Tryz.prog 9 #[v, sv c] [S] fun u T => ∃ w, u = .tuple #[w, .int .i64 (wouE l c)] ∧ w.oneCell' = true ∧ sysG T w (okL (wouE l c) (rest l c)) := by
  have hs := hv.sys
  obtain ⟨a, cap, rfl, hlc, _⟩ := id hv
  refine ct_of (n := 40) Tryz.func9 rfl rfl (len rfl) fun hr w0 => ?_
  refine cd_seq (cd_region (st_bx rfl rfl fun b3 => ?_))
  refine st_v (v_assign rfl) (st_v (v_assign rfl) (st_nil (nx_kp [0, 3, 4, 5] rfl (nx_then (cd_seq (cd_region (st_v (v_move rfl) (st_v (v_ldy rfl ld9) ?_))))))))
  refine st_buildSlice (cells := [sv c]) rfl Tryz.underlying25 inf9 rfl rfl (by kernel_rfl) (ltn rfl) fun b14 => ?_
  refine st_pv (pv_of (b := b14) (n := 1) (sz := 1) (E := 9) [nC c] rfl (by simp [nC]) rfl (by decide)) ?_
  simp only [List.cons_append, List.nil_append]
  refine st_ok (r := NR (.slice (some ⟨b14, 0, none⟩) 1 1) [c]) (by repeat (first | exact Sel.here | apply Sel.there)) fun hok => ?_
  refine st_cl rfl rfl en32 rfl (right_ct hs (nms_own hok) (by simp)) ?_
  rintro u h' (⟨he, rfl, rfl⟩ | ⟨he, mb, rfl, rfl⟩)
  · skip
    rw [show wouE l c = rightE l [c] from if_neg he]
    simp only [List.cons_append, List.nil_append]
    unfold gr0
    refine st_v (v_move rfl) (st_v (v_extract rfl rfl) (st_v (v_extract rfl rfl) (st_alc al75 fun b6 => ?_)))
    refine st_stoW rfl rfl sz75 rfl rfl ?_
    refine st_v (v_assign rfl) (st_nil (nx_kp [0, 3, 4, 5, 6, 7] rfl (nx_then (cd_seq (cd_seq (cd_region (st_v (v_move rfl) (st_v (v_neq rfl rfl) (st_nil (nx_kp [0, 3, 4, 5, 6, 7, 19] rfl (nx_then ?_)))))))))))
    rw [ne_true he]
    refine cd_true rfl ?_
    refine cd_seq (cd_region (st_v (v_move rfl) (st_v (v_assign rfl) (st_v (v_assign rfl) (st_nil (nx_kp [4, 5] rfl (nx_then (cd_ret (xt_ret_then ?_)))))))))
    rw [okL_ne he]
    refine xt_vw (vw_unstar (L := [])) ?_
    exact xt_rt rfl ⟨Res.star [], rfl, _, rfl, rfl, Row.nil⟩ (by (repeat (refine Sub.sel (by repeat (first | exact Sel.here | apply Sel.there)) ?_)); (repeat apply Sub.cons); first | exact Sub.refl _ | exact Sub.nil _)
  · skip
    obtain ⟨hR, hm⟩ := rightE_zero.1 he
    have hFl := hR.len
    have hw : wouE l c = if used l c then 10 else 0 := if_pos he
    have hrest : (rest l c).length ≤ l.length := List.length_filter_le _ _
    simp only [List.cons_append, List.nil_append]
    refine st_v (v_move rfl) (st_v (v_extract rfl rfl) (st_v (v_extract rfl rfl) (st_alc al75 fun b6 => ?_)))
    refine st_stoW rfl rfl sz75 rfl rfl ?_
    refine st_v (v_assign rfl) (st_nil (nx_kp [0, 3, 4, 5, 6, 7] rfl (nx_then (cd_seq (cd_seq (cd_region (st_v (v_move rfl) (st_v (v_neq rfl rfl) (st_nil (nx_kp [0, 3, 4, 5, 6, 7, 19] rfl (nx_then (cd_false rfl ?_))))))))))))
    refine cd_skip (xt_then (cd_seq (cd_region (st_v (v_move rfl) (st_v (v_makeFunc rfl rfl) (st_cl rfl rfl en33 rfl (filterS_ct (N := pt b3 (cl [sv c] 9)) (g := fun x => x.name != c) hv (by omega) en34 (fun us x _ h => other_ct h c)) ?_))))))
    rintro u h' ⟨T, rfl, hu, rows, rfl, hcor⟩
    have hcor : Cor (clsG S) rows (rest l c) := hcor
    simp only [List.cons_append, List.nil_append]
    refine st_ok (r := VR u 29 7 rows) (by repeat (first | exact Sel.here | apply Sel.there)) fun hok2 => ?_
    have hrow : Row (VR u 29 7 rows) 7 (clsG S) u (rest l c) := row_vr hok2 hcor.1 (fun _ _ h => h) hcor.2
    obtain ⟨ra, rcap, rfl, hrlc, _⟩ := id hrow
    refine st_v (v_assign rfl) (st_nil (nx_kp [3, 4, 5, 6, 8] rfl (nx_then (cd_seq (cd_seq (cd_region (st_v (v_move rfl) (st_v (v_len rfl Tryz.underlying22) (st_v (v_move rfl) (st_nil (nx_then (cd_block (cd_lq (σ := Nat) (fun i => [(3, .pointer (some ⟨b3, 0, none⟩)), (6, .pointer (some ⟨b6, 0, none⟩)), (8, .slice ra (rest l c).length rcap), (24, .slice ra (rest l c).length rcap), (25, .int .i64 (rest l c).length), (26, .int .i64 (i : Nat))]) (fun _ => pt b6 (cl [.slice a l.length cap, .map (some mb)] 75) :: pt b3 (cl [sv c] 9) :: mps mb (kindsM l) :: VR (.slice ra (rest l c).length rcap) 29 7 rows :: S :: hr) (fun i => i ≤ (rest l c).length ∧ ∀ (j : Nat) y, j < i → (rest l c)[j]? = some y → (par l y.name).contains c = false) (fun i => (rest l c).length - i) 0 ⟨Nat.zero_le _, fun j y hj => absurd hj (Nat.not_lt_zero _)⟩ ?_)))))))))))))
    rintro i ⟨hi, hal⟩
    refine cd_seq (cd_region (st_v (v_lss rfl rfl) (st_nil (nx_then (cd_seq (cd_cond rfl (fun hd => ?_) (fun hd => ?_)))))))
    · skip
      have hlt : i < (rest l c).length := by simpa using hd
      have hget := List.getElem?_eq_getElem hlt
      obtain ⟨b, o, cap2, us, e1, hus, hrd, hxg⟩ := Row.at hrow hget
      cases e1
      generalize (rest l c)[i] = y at hget hxg
      obtain ⟨d, f, pv, c2, fa, fc, iv, rfl, hone, hp⟩ := id hxg.1
      refine cd_skip (xt_then (cd_seq (cd_block (cd_seq (cd_region (st_v (v_indexAddr (k := i) rfl rfl sl22 rfl hlt rfl) (st_v (v_ldn rfl ld29 rfl hrd) ?_)))))))
      refine st_alc al29 fun b10 => ?_
      refine st_stoW rfl rfl sz29 rfl hone ?_
      refine st_nil (nx_kp [3, 6, 8, 10, 24, 25, 26] rfl (nx_then (cd_seq (cd_drawh (ork [(0, 1), (1, 2), (2, 1), (5, 1), (3, 0), (4, 0), (6, 0)] .nil) (fun i => !(Nat.beq i 6)) mixed (by kernel_rfl) ?_))))
      refine dr_v rfl (v_ldn rfl ld75 rfl rds_pt) ?_
      refine dp_v rfl (v_fieldAddr rfl fa29_0 rfl) (dr_v rfl (v_ldy rfl ld9) ?_)
      refine dr_v rfl (v_ldy rfl ld9) ?_
      refine dr_eff rfl (st_cl rfl rfl en37 rfl (parents0_ct rfl) ?_)
      rintro u h' ⟨c1, c3, rfl, rfl⟩
      simp only [List.cons_append, List.nil_append]
      refine dr_nx ?_
      refine dr_eff rfl (st_cl rfl rfl en36 rfl (Collect_ct hs hR.fine y.name) ?_)
      rintro u h' ⟨hu2, rfl⟩
      simp only [List.cons_append, List.nil_append]
      have hpl := par_len hR.fine y.name
      refine st_ok (r := NR u (par l y.name)) (by repeat (first | exact Sel.here | apply Sel.there)) fun hok3 => ?_
      refine dr_nx ?_
      refine dr_eff rfl (st_cl rfl rfl en35 rfl (Contains_ct (nms_own hok3) c (by omega)) ?_)
      rintro u2 h' ⟨rfl, rfl⟩
      simp only [List.cons_append, List.nil_append]
      refine dr_nx ?_
      refine dr_nil (nx_kp [3, 6, 8, 24, 25, 26, 36] rfl (nx_then (cd_cond rfl (fun hno => ?_) (fun hno => ?_))))
      · skip
        have hno : (par l y.name).contains c = true := by simpa using hno
        have hus : used l c = true := by
          rw [← hR.used_rest]
          exact List.any_eq_true.2 ⟨y, List.mem_of_getElem? hget, hno⟩
        rw [show wouE l c = 10 by rw [hw, hus]; rfl, okL_ne (by decide)]
        refine cd_seq (cd_region (st_v (v_assign rfl) (st_v (v_assign rfl) (st_nil (nx_kp [4, 5] rfl (nx_then (cd_ret (xt_ret_block (xt_ret_then (xt_ret_then (xt_ret_block (xt_ret_then (xt_vw (vw_unstar (L := [])) ?_)))))))))))))
        exact xt_rt rfl ⟨Res.star [], rfl, _, rfl, rfl, Row.nil⟩ (by (repeat (refine Sub.sel (by repeat (first | exact Sel.here | apply Sel.there)) ?_)); (repeat apply Sub.cons); first | exact Sub.refl _ | exact Sub.nil _)
      · skip
        have hno : (par l y.name).contains c = false := by simpa using hno
        refine cd_skip (xt_normal_block (xt_then (cd_region (st_v (v_add rfl rfl (by unfold I64 at *; omega)) (st_v (v_move rfl) (st_nil (nx_kp [3, 6, 8, 24, 25, 26] rfl (nx_xt (xt_aq (i + 1) ⟨hlt, fun j z hj hz => ?_⟩ (by show _ - _ < _ - _; omega))))))))))
        by_cases hji : j = i
        · subst hji; rw [hget] at hz; cases hz; exact hno
        · exact hal j z (by omega) hz
    · skip
      have hil : i = (rest l c).length := by have : ¬ i < (rest l c).length := by simpa using hd
                                             omega
      have hus : used l c = false := by
        rw [← hR.used_rest, List.any_eq_false]
        intro y hy
        obtain ⟨j, hj, rfl⟩ := List.getElem_of_mem hy
        rw [hal j _ (by omega) (List.getElem?_eq_getElem hj)]; decide
      rw [show wouE l c = 0 by rw [hw, hus]; rfl, okL_eq rfl]
      refine cd_exit (xt_exit_then (xt_exit_then (xt_exit_block (xt_then (cd_seq (cd_region (st_v (v_move rfl) (st_cl rfl rfl en30 rfl (cloneN_ct hcor (by omega)) ?_))))))))
      rintro u2 h' ⟨T, rfl, h1, h2⟩
      simp only [List.cons_append, List.nil_append]
      refine st_v (v_assign rfl) (st_v (v_assign rfl) (st_nil (nx_kp [4, 5] rfl (nx_then (cd_ret ?_)))))
      exact xt_rt rfl ⟨T, rfl, _, rfl, h1, h2⟩ (by (repeat (refine Sub.sel (by repeat (first | exact Sel.here | apply Sel.there)) ?_)); (repeat apply Sub.cons); first | exact Sub.refl _ | exact Sub.nil _)
end
end Go.Hr
namespace Go.Hr
open Go Go.RowKit Go.Ck Go.Proofs Go.Proofs.YtjgiaohieadeiaaGreat Fx
attribute [local irreducible] Go.Ck.Sub St Cd Xt Nx DrL LsW
theorem ld36 : LdN Tryz.prog 36 2 := LdN.of Tryz.underlying36 sz36
theorem cls_ones {S : Res} {us : List Value} {x : Cls} (h : clsC S us x) : ∀ u ∈ us, u.oneCell' = true := by
  obtain ⟨d, f, pv, c, fa, fc, iv, rfl, hone, _⟩ := h
  exact fun u hu => List.all_eq_true.1 hone u hu
theorem ct_star {P : Program} {k : FuncId} {args : Array Value} {L : SH} {Q : Value → Prop} (h : Ct P k args [Res.star L] fun u h' => Q u ∧ h' = [Res.star L]) : Ct P k args L fun u h' => Q u ∧ h' = L := fun hr w hh =>
  (h hr w (holds_star1.2 hh)).mono fun _ _ ⟨u, h', he, ⟨hu, hh'⟩, hH, hS⟩ => ⟨u, L, he, ⟨hu, rfl⟩, by subst hh'; exact holds_star1.1 hH, hS⟩
theorem ct_ex {P : Program} {k : FuncId} {args : Array Value} {L h2 : SH} {α : Type} {F : α → Value → Prop} (h : Ct P k args L fun u h' => ∃ n, F n u ∧ h' = h2) : Ct P k args L fun u h' => (∃ n, F n u) ∧ h' = h2 := fun hr w hh =>
  (h hr w hh).mono fun _ _ ⟨u, h', he, ⟨n, hu, hh'⟩, hH, hS⟩ => ⟨u, h', he, ⟨⟨n, hu⟩, hh'⟩, hH, hS⟩
theorem rd_sub {k k' : SH} (s : Sub k k') (p : Addr) (u : Value) (h : Rd (Res.star k) p u) : Rd (Res.star k') p u := fun w hw => h w (Holds.sub s hw)
section
variable {S N : Res} {v : Value} {l : Sys} {us : List Value} {x : Cls}
set_option maxHeartbeats 1000000 in
set_option maxRecDepth 100000 in
theorem AddS_ct (hv : sysR S v l) (hx : clsC S us x) (hl : l.length ≤ 1000000) : CtN Tryz.prog 8 #[v, .agg us.toArray] [S] fun u T => ∃ w, u = .agg #[w, .int .i64 (addE l x)] ∧ w.oneCell' = true ∧ sysR (Res.star [T, S]) w (okL (addE l x) (l ++ [x])) := by
  have hml : maxLen = 9223372036854775807 := rfl
  obtain ⟨d, f, pv, c, fa, fc, iv, rfl, hone, hp⟩ := id hx
  obtain ⟨a, cap, rfl, hlc, _⟩ := id hv
  refine ct_of (n := 32) Tryz.func8 rfl rfl (len rfl) fun hr w0 => ?_
  refine cd_seq (cd_region (st_bx rfl rfl fun b3 => ?_))
  refine st_alc al36 fun b4 => ?_
  refine st_nil (nx_kp [0, 3, 4] rfl (nx_then (cd_seq (cd_region (st_v (v_move rfl) (st_cl rfl rfl en31 rfl (CheckS_ct hv hl) ?_))))))
  rintro u h' ⟨n, rfl, rfl⟩
  simp only [List.cons_append, List.nil_append]
  refine st_alc al71 fun b5 => ?_
  refine st_stoW rfl rfl sz71 rfl rfl ?_
  refine st_nil (nx_kp [0, 3, 4, 5] rfl (nx_then (cd_seq (cd_seq (cd_region (st_v (v_fieldAddr rfl fa71_0 rfl) (st_v (v_ldy rfl ld32) ?_)))))))
  refine st_v (v_neq rfl rfl) (st_nil (nx_kp [0, 3, 4, 5, 12] rfl (nx_then (cd_cond rfl (fun he => ?_) (fun he => ?_)))))
  · skip
    have he : ¬ (check l).1 = 0 := by simpa using he
    rw [show addE l x = (check l).1 from if_neg he, okL_ne he]
    refine cd_seq (cd_region (st_v (v_fieldAddr rfl fa71_0 rfl) (st_v (v_ldy rfl ld32) ?_)))
    refine st_v (v_build (cells := [.slice none 0 0, .int .i64 (check l).1]) rfl (fun _ => by kernel_rfl)) ?_
    refine st_stoW rfl rfl sz36 rfl rfl ?_
    refine st_nil (nx_kp [4] rfl (nx_then (cd_ret (xt_ret_then (xt_vw (vw_unstar (L := [])) ?_)))))
    exact xt_retV (.cellN rfl ld36 rfl (by repeat (first | exact Sel.here | apply Sel.there)) .nil) ⟨Res.star [], rfl, _, rfl, rfl, Row.nil⟩ (by repeat (first | exact Sub.refl _ | exact Sub.nil _ | refine Sub.sel (by repeat (first | exact Sel.here | apply Sel.there)) ?_ | apply Sub.cons))
  · skip
    have he : (check l).1 = 0 := by simpa using he
    have hR := check_zero.1 he
    have hFl := hR.len
    rw [show addE l x = (check (l ++ [x])).1 from if_pos he]
    refine cd_skip (xt_then (cd_seq (cd_drawh (ork [(1, 2), (3, 1)] (.two 0 (.two 2 (ork [(4, 0), (5, 0), (6, 2)] .nil) 4 (ork [(2, 0), (5, 0), (6, 2)] .nil)) 4 (ork [(0, 0), (2, 0), (5, 0), (6, 2)] .nil))) (fun i => !(Nat.beq i 4 || Nat.beq i 5)) mixed (by kernel_rfl) ?_)))
    refine dp_v rfl (v_move rfl) (dr_v rfl (v_ldn rfl ld29 rfl rds_pt) ?_)
    refine dr_two rfl rfl ?_ ?_
    · skip
      refine st_bs0 Tryz.underlying22 inf29 fun b16 => dr_nx ?_
      refine dr_two rfl rfl ?_ ?_
      · skip
        refine st_apr hv rfl rfl Tryz.underlying22 inf29 rfl (by decide) (show Sel _ (VR (.slice (some ⟨b16, 0, none⟩) 0 0) 29 7 []) _ from (by repeat (first | exact Sel.here | apply Sel.there))) (show Sel _ S _ from (by repeat (first | exact Sel.here | apply Sel.there))) (fun us x _ h => cls_ones h) (by simp <;> omega) (by simp <;> omega) (ltn rfl) fun v18 n1 hv18 q1 q2 q3 => dr_nx ?_
        refine dr_eff rfl (st_buildSlice (cells := [sv x.name, d, f, pv, c, .slice fa x.feats fc, iv]) rfl Tryz.underlying22 inf29 rfl rfl (by kernel_rfl) (ltn rfl) fun b20 => dr_nx ?_)
        refine dr_eff rfl (st_app [[sv x.name, d, f, pv, c, .slice fa x.feats fc, iv]] rfl rfl Tryz.underlying22 inf29 rfl (by decide) (show Sel _ (VR v18 29 7 ([] ++ n1)) _ from (by repeat (first | exact Sel.here | apply Sel.there))) (by simp) rfl (fun j u2 hu2 => by repeat (first | exact at_here (rd_cl (by simpa using hu2)) | apply at_there)) (fun u hu => List.all_eq_true.1 hone u (by simpa using hu)) (by simp [q1]; omega) (by simp [q1]; omega) (ltn rfl) fun v21 hv21 _ => dr_nx ?_)
        refine dp_v rfl (v_assign rfl) (dr_nil (nx_kp [4, 6] rfl (nx_then (cd_seq (cd_region (st_v (v_move rfl) ?_))))))
        have hcor : Cor (clsC S) ([] ++ n1 ++ [[sv x.name, d, f, pv, c, .slice fa x.feats fc, iv]]) (l ++ [x]) := (Cor.nil.app ⟨q1, q3⟩).snoc hx
        refine st_ok (r := VR v21 29 7 ([] ++ n1 ++ [[sv x.name, d, f, pv, c, .slice fa x.feats fc, iv]])) (by repeat (first | exact Sel.here | apply Sel.there)) fun hok => ?_
        have hR2 : sysR (Res.star [VR v21 29 7 ([] ++ n1 ++ [[sv x.name, d, f, pv, c, .slice fa x.feats fc, iv]]), S]) v21 (l ++ [x]) := row_vr hok hcor.1 (rd_in .here) fun i us x h1 h2 => (hcor.2 i us x h1 h2).mono (rd_in (.there .here))
        refine st_cl rfl rfl en31 rfl (ct_star (ct_ex (CheckS_ct (S := Res.star [VR v21 29 7 ([] ++ n1 ++ [[sv x.name, d, f, pv, c, .slice fa x.feats fc, iv]]), S]) hR2 (by simp; omega)))) ?_
        rintro u h' ⟨⟨n2, rfl⟩, rfl⟩
        simp only [List.cons_append, List.nil_append]
        refine st_alc al71 fun b7 => ?_
        refine st_stoW rfl rfl sz71 rfl rfl ?_
        refine st_nil (nx_kp [4, 6, 7] rfl (nx_then (cd_seq (cd_seq (cd_region (st_v (v_fieldAddr rfl fa71_0 rfl) (st_v (v_ldy rfl ld32) ?_)))))))
        refine st_v (v_neq rfl rfl) (st_nil (nx_kp [4, 6, 7, 26] rfl (nx_then (cd_cond rfl (fun he2 => ?_) (fun he2 => ?_)))))
        · skip
          have he2 : ¬ (check (l ++ [x])).1 = 0 := by simpa using he2
          rw [okL_ne he2]
          refine cd_seq (cd_region (st_v (v_fieldAddr rfl fa71_0 rfl) (st_v (v_ldy rfl ld32) ?_)))
          refine st_v (v_build (cells := [.slice none 0 0, .int .i64 (check (l ++ [x])).1]) rfl (fun _ => by kernel_rfl)) ?_
          refine st_stoW rfl rfl sz36 rfl rfl ?_
          refine st_nil (nx_kp [4] rfl (nx_then (cd_ret (xt_ret_then (xt_vw (vw_unstar (L := [])) ?_)))))
          exact xt_retV (.cellN rfl ld36 rfl (by repeat (first | exact Sel.here | apply Sel.there)) .nil) ⟨Res.star [], rfl, _, rfl, rfl, Row.nil⟩ (by repeat (first | exact Sub.refl _ | exact Sub.nil _ | refine Sub.sel (by repeat (first | exact Sel.here | apply Sel.there)) ?_ | apply Sub.cons))
        · skip
          have he2 : (check (l ++ [x])).1 = 0 := by simpa using he2
          rw [okL_eq he2, he2]
          obtain ⟨va, vcap, rfl, _⟩ := id hR2
          refine cd_skip (xt_then (cd_seq (cd_region (st_v (v_move rfl) (st_v (v_build (cells := [.slice va (l ++ [x]).length vcap, .int .i64 0]) rfl (fun _ => by kernel_rfl)) ?_)))))
          refine st_stoW rfl rfl sz36 rfl rfl ?_
          refine st_nil (nx_kp [4] rfl (nx_then (cd_ret ?_)))
          exact xt_retV (.cellN rfl ld36 rfl (by repeat (first | exact Sel.here | apply Sel.there)) .nil) ⟨VR (.slice va (l ++ [x]).length vcap) 29 7 ([] ++ n1 ++ [[sv x.name, d, f, pv, c, .slice fa x.feats fc, iv]]), rfl, _, rfl, rfl, hR2⟩ (by repeat (first | exact Sub.refl _ | exact Sub.nil _ | refine Sub.sel (by repeat (first | exact Sel.here | apply Sel.there)) ?_ | apply Sub.cons))
      · skip
        refine st_buildSlice (cells := [sv x.name, d, f, pv, c, .slice fa x.feats fc, iv]) rfl Tryz.underlying22 inf29 rfl rfl (by kernel_rfl) (ltn rfl) fun b20 => dr_nx ?_
        refine dr_eff rfl (st_apr hv rfl rfl Tryz.underlying22 inf29 rfl (by decide) (show Sel _ (VR (.slice (some ⟨b16, 0, none⟩) 0 0) 29 7 []) _ from (by repeat (first | exact Sel.here | apply Sel.there))) (show Sel _ S _ from (by repeat (first | exact Sel.here | apply Sel.there))) (fun us x _ h => cls_ones h) (by simp <;> omega) (by simp <;> omega) (ltn rfl) fun v18 n1 hv18 q1 q2 q3 => dr_nx ?_)
        refine dr_eff rfl (st_app [[sv x.name, d, f, pv, c, .slice fa x.feats fc, iv]] rfl rfl Tryz.underlying22 inf29 rfl (by decide) (show Sel _ (VR v18 29 7 ([] ++ n1)) _ from (by repeat (first | exact Sel.here | apply Sel.there))) (by simp) rfl (fun j u2 hu2 => by repeat (first | exact at_here (rd_cl (by simpa using hu2)) | apply at_there)) (fun u hu => List.all_eq_true.1 hone u (by simpa using hu)) (by simp [q1]; omega) (by simp [q1]; omega) (ltn rfl) fun v21 hv21 _ => dr_nx ?_)
        refine dp_v rfl (v_assign rfl) (dr_nil (nx_kp [4, 6] rfl (nx_then (cd_seq (cd_region (st_v (v_move rfl) ?_))))))
        have hcor : Cor (clsC S) ([] ++ n1 ++ [[sv x.name, d, f, pv, c, .slice fa x.feats fc, iv]]) (l ++ [x]) := (Cor.nil.app ⟨q1, q3⟩).snoc hx
        refine st_ok (r := VR v21 29 7 ([] ++ n1 ++ [[sv x.name, d, f, pv, c, .slice fa x.feats fc, iv]])) (by repeat (first | exact Sel.here | apply Sel.there)) fun hok => ?_
        have hR2 : sysR (Res.star [VR v21 29 7 ([] ++ n1 ++ [[sv x.name, d, f, pv, c, .slice fa x.feats fc, iv]]), S]) v21 (l ++ [x]) := row_vr hok hcor.1 (rd_in .here) fun i us x h1 h2 => (hcor.2 i us x h1 h2).mono (rd_in (.there .here))
        refine st_cl rfl rfl en31 rfl (ct_star (ct_ex (CheckS_ct (S := Res.star [VR v21 29 7 ([] ++ n1 ++ [[sv x.name, d, f, pv, c, .slice fa x.feats fc, iv]]), S]) hR2 (by simp; omega)))) ?_
        rintro u h' ⟨⟨n2, rfl⟩, rfl⟩
        simp only [List.cons_append, List.nil_append]
        refine st_alc al71 fun b7 => ?_
        refine st_stoW rfl rfl sz71 rfl rfl ?_
        refine st_nil (nx_kp [4, 6, 7] rfl (nx_then (cd_seq (cd_seq (cd_region (st_v (v_fieldAddr rfl fa71_0 rfl) (st_v (v_ldy rfl ld32) ?_)))))))
        refine st_v (v_neq rfl rfl) (st_nil (nx_kp [4, 6, 7, 26] rfl (nx_then (cd_cond rfl (fun he2 => ?_) (fun he2 => ?_)))))
        · skip
          have he2 : ¬ (check (l ++ [x])).1 = 0 := by simpa using he2
          rw [okL_ne he2]
          refine cd_seq (cd_region (st_v (v_fieldAddr rfl fa71_0 rfl) (st_v (v_ldy rfl ld32) ?_)))
          refine st_v (v_build (cells := [.slice none 0 0, .int .i64 (check (l ++ [x])).1]) rfl (fun _ => by kernel_rfl)) ?_
          refine st_stoW rfl rfl sz36 rfl rfl ?_
          refine st_nil (nx_kp [4] rfl (nx_then (cd_ret (xt_ret_then (xt_vw (vw_unstar (L := [])) ?_)))))
          exact xt_retV (.cellN rfl ld36 rfl (by repeat (first | exact Sel.here | apply Sel.there)) .nil) ⟨Res.star [], rfl, _, rfl, rfl, Row.nil⟩ (by repeat (first | exact Sub.refl _ | exact Sub.nil _ | refine Sub.sel (by repeat (first | exact Sel.here | apply Sel.there)) ?_ | apply Sub.cons))
        · skip
          have he2 : (check (l ++ [x])).1 = 0 := by simpa using he2
          rw [okL_eq he2, he2]
          obtain ⟨va, vcap, rfl, _⟩ := id hR2
          refine cd_skip (xt_then (cd_seq (cd_region (st_v (v_move rfl) (st_v (v_build (cells := [.slice va (l ++ [x]).length vcap, .int .i64 0]) rfl (fun _ => by kernel_rfl)) ?_)))))
          refine st_stoW rfl rfl sz36 rfl rfl ?_
          refine st_nil (nx_kp [4] rfl (nx_then (cd_ret ?_)))
          exact xt_retV (.cellN rfl ld36 rfl (by repeat (first | exact Sel.here | apply Sel.there)) .nil) ⟨VR (.slice va (l ++ [x]).length vcap) 29 7 ([] ++ n1 ++ [[sv x.name, d, f, pv, c, .slice fa x.feats fc, iv]]), rfl, _, rfl, rfl, hR2⟩ (by repeat (first | exact Sub.refl _ | exact Sub.nil _ | refine Sub.sel (by repeat (first | exact Sel.here | apply Sel.there)) ?_ | apply Sub.cons))
    · skip
      refine st_buildSlice (cells := [sv x.name, d, f, pv, c, .slice fa x.feats fc, iv]) rfl Tryz.underlying22 inf29 rfl rfl (by kernel_rfl) (ltn rfl) fun b20 => dr_nx ?_
      refine dr_eff rfl (st_bs0 Tryz.underlying22 inf29 fun b16 => dr_nx ?_)
      refine dr_eff rfl (st_apr hv rfl rfl Tryz.underlying22 inf29 rfl (by decide) (show Sel _ (VR (.slice (some ⟨b16, 0, none⟩) 0 0) 29 7 []) _ from (by repeat (first | exact Sel.here | apply Sel.there))) (show Sel _ S _ from (by repeat (first | exact Sel.here | apply Sel.there))) (fun us x _ h => cls_ones h) (by simp <;> omega) (by simp <;> omega) (ltn rfl) fun v18 n1 hv18 q1 q2 q3 => dr_nx ?_)
      refine dr_eff rfl (st_app [[sv x.name, d, f, pv, c, .slice fa x.feats fc, iv]] rfl rfl Tryz.underlying22 inf29 rfl (by decide) (show Sel _ (VR v18 29 7 ([] ++ n1)) _ from (by repeat (first | exact Sel.here | apply Sel.there))) (by simp) rfl (fun j u2 hu2 => by repeat (first | exact at_here (rd_cl (by simpa using hu2)) | apply at_there)) (fun u hu => List.all_eq_true.1 hone u (by simpa using hu)) (by simp [q1]; omega) (by simp [q1]; omega) (ltn rfl) fun v21 hv21 _ => dr_nx ?_)
      refine dp_v rfl (v_assign rfl) (dr_nil (nx_kp [4, 6] rfl (nx_then (cd_seq (cd_region (st_v (v_move rfl) ?_))))))
      have hcor : Cor (clsC S) ([] ++ n1 ++ [[sv x.name, d, f, pv, c, .slice fa x.feats fc, iv]]) (l ++ [x]) := (Cor.nil.app ⟨q1, q3⟩).snoc hx
      refine st_ok (r := VR v21 29 7 ([] ++ n1 ++ [[sv x.name, d, f, pv, c, .slice fa x.feats fc, iv]])) (by repeat (first | exact Sel.here | apply Sel.there)) fun hok => ?_
      have hR2 : sysR (Res.star [VR v21 29 7 ([] ++ n1 ++ [[sv x.name, d, f, pv, c, .slice fa x.feats fc, iv]]), S]) v21 (l ++ [x]) := row_vr hok hcor.1 (rd_in .here) fun i us x h1 h2 => (hcor.2 i us x h1 h2).mono (rd_in (.there .here))
      refine st_cl rfl rfl en31 rfl (ct_star (ct_ex (CheckS_ct (S := Res.star [VR v21 29 7 ([] ++ n1 ++ [[sv x.name, d, f, pv, c, .slice fa x.feats fc, iv]]), S]) hR2 (by simp; omega)))) ?_
      rintro u h' ⟨⟨n2, rfl⟩, rfl⟩
      simp only [List.cons_append, List.nil_append]
      refine st_alc al71 fun b7 => ?_
      refine st_stoW rfl rfl sz71 rfl rfl ?_
      refine st_nil (nx_kp [4, 6, 7] rfl (nx_then (cd_seq (cd_seq (cd_region (st_v (v_fieldAddr rfl fa71_0 rfl) (st_v (v_ldy rfl ld32) ?_)))))))
      refine st_v (v_neq rfl rfl) (st_nil (nx_kp [4, 6, 7, 26] rfl (nx_then (cd_cond rfl (fun he2 => ?_) (fun he2 => ?_)))))
      · skip
        have he2 : ¬ (check (l ++ [x])).1 = 0 := by simpa using he2
        rw [okL_ne he2]
        refine cd_seq (cd_region (st_v (v_fieldAddr rfl fa71_0 rfl) (st_v (v_ldy rfl ld32) ?_)))
        refine st_v (v_build (cells := [.slice none 0 0, .int .i64 (check (l ++ [x])).1]) rfl (fun _ => by kernel_rfl)) ?_
        refine st_stoW rfl rfl sz36 rfl rfl ?_
        refine st_nil (nx_kp [4] rfl (nx_then (cd_ret (xt_ret_then (xt_vw (vw_unstar (L := [])) ?_)))))
        exact xt_retV (.cellN rfl ld36 rfl (by repeat (first | exact Sel.here | apply Sel.there)) .nil) ⟨Res.star [], rfl, _, rfl, rfl, Row.nil⟩ (by repeat (first | exact Sub.refl _ | exact Sub.nil _ | refine Sub.sel (by repeat (first | exact Sel.here | apply Sel.there)) ?_ | apply Sub.cons))
      · skip
        have he2 : (check (l ++ [x])).1 = 0 := by simpa using he2
        rw [okL_eq he2, he2]
        obtain ⟨va, vcap, rfl, _⟩ := id hR2
        refine cd_skip (xt_then (cd_seq (cd_region (st_v (v_move rfl) (st_v (v_build (cells := [.slice va (l ++ [x]).length vcap, .int .i64 0]) rfl (fun _ => by kernel_rfl)) ?_)))))
        refine st_stoW rfl rfl sz36 rfl rfl ?_
        refine st_nil (nx_kp [4] rfl (nx_then (cd_ret ?_)))
        exact xt_retV (.cellN rfl ld36 rfl (by repeat (first | exact Sel.here | apply Sel.there)) .nil) ⟨VR (.slice va (l ++ [x]).length vcap) 29 7 ([] ++ n1 ++ [[sv x.name, d, f, pv, c, .slice fa x.feats fc, iv]]), rfl, _, rfl, rfl, hR2⟩ (by repeat (first | exact Sub.refl _ | exact Sub.nil _ | refine Sub.sel (by repeat (first | exact Sel.here | apply Sel.there)) ?_ | apply Sub.cons))
end
end Go.Hr
namespace Go.Hr
open Go Go.RowKit Go.Ck Go.Proofs Go.Proofs.YtjgiaohieadeiaaGreat Fx
attribute [local irreducible] Go.Ck.Sub St Cd Xt Nx DrL LsW
section
variable {S N : Res} {v v' : Value} {l l' : Sys} {us : List Value} {x : Cls}
set_option maxHeartbeats 1000000 in
set_option maxRecDepth 100000 in
theorem WithoutS_ct (hv : sysR S v l) (hl : l.length ≤ 1000000) (c : Nm) : CtN Tryz.prog 10 #[v, sv c] [S] fun u T => ∃ w, u = .agg #[w, .int .i64 (wouE l c)] ∧ w.oneCell' = true ∧ sysR (Res.star [T, S]) w (okL (wouE l c) (rest l c)) := by
  have hml : maxLen = 9223372036854775807 := rfl
  obtain ⟨a, cap, rfl, hlc, _⟩ := id hv
  refine ct_of (n := 50) Tryz.func10 rfl rfl (len rfl) fun hr w0 => ?_
  refine cd_seq (cd_region (st_alc al36 fun b4 => ?_))
  refine st_nil (nx_then (cd_seq (cd_region (st_v (v_move rfl) (st_v (v_move rfl) (st_buildSlice (cells := [sv c]) rfl Tryz.underlying25 inf9 rfl rfl (by kernel_rfl) (ltn rfl) fun b11 => ?_))))))
  refine st_pv (pv_of (b := b11) (n := 1) (sz := 1) (E := 9) [nC c] rfl (by simp [nC]) rfl (by decide)) ?_
  simp only [List.cons_append, List.nil_append]
  refine st_ok (r := NR (.slice (some ⟨b11, 0, none⟩) 1 1) [c]) (by repeat (first | exact Sel.here | apply Sel.there)) fun hok => ?_
  refine st_clr rfl rfl en38 rfl (asked_ct hv hl (nms_own hok) (by simp)) ?_
  refine st_v (v_assign rfl) (st_nil (nx_kp [0, 1, 4, 5] rfl (nx_then (cd_seq (cd_seq (cd_region (st_v (v_move rfl) (st_v (v_neq rfl rfl) (st_nil (nx_kp [0, 1, 4, 5, 14] rfl (nx_then (cd_cond rfl (fun he => ?_) (fun he => ?_)))))))))))))
  · skip
    have he : ¬ rightE l [c] = 0 := by simpa using he
    rw [show wouE l c = rightE l [c] from if_neg he, okL_ne he]
    refine cd_seq (cd_region (st_v (v_move rfl) (st_v (v_build (cells := [.slice none 0 0, .int .i64 (rightE l [c])]) rfl (fun _ => by kernel_rfl)) ?_)))
    refine st_stoW rfl rfl sz36 rfl rfl ?_
    refine st_nil (nx_kp [4] rfl (nx_then (cd_ret (xt_ret_then (xt_vw (vw_unstar (L := [])) ?_)))))
    exact xt_retV (.cellN rfl ld36 rfl (by repeat (first | exact Sel.here | apply Sel.there)) .nil) ⟨Res.star [], rfl, _, rfl, rfl, Row.nil⟩ (by repeat (first | exact Sub.refl _ | exact Sub.nil _ | refine Sub.sel (by repeat (first | exact Sel.here | apply Sel.there)) ?_ | apply Sub.cons))
  · skip
    have he : rightE l [c] = 0 := by simpa using he
    obtain ⟨hR, hm⟩ := rightE_zero.1 he
    have hFl := hR.len
    have hw : wouE l c = if used l c then 10 else 0 := if_pos he
    refine cd_skip (xt_then (cd_seq (cd_region (st_v (v_assign rfl) (st_nil (nx_kp [0, 1, 4, 6] rfl (nx_then (cd_seq (cd_seq (cd_region (st_v (v_assign rfl) (st_nil (nx_then (cd_block (cd_vw (vw_nil 29 7) (cd_lq (σ := Value × List (List Value) × Nat) (fun q => [(0, .slice a l.length cap), (1, sv c), (4, .pointer (some ⟨b4, 0, none⟩)), (6, q.1), (7, .int .i64 (q.2.2 : Nat))]) (fun q => pt b4 (cl [.slice none 0 0, .int .i64 0] 36) :: VR q.1 29 7 q.2.1 :: S :: hr) (fun q => q.1.oneCell' = true ∧ q.2.2 ≤ l.length ∧ Cor (clsC S) q.2.1 (rest (l.take q.2.2) c) ∧ ∀ (j : Nat) y, j < q.2.2 → l[j]? = some y → (pars l y.name).contains c = false) (fun q => l.length - q.2.2) (.slice none 0 0, [], 0) ⟨rfl, Nat.zero_le _, Cor.nil, fun j y hj => absurd hj (Nat.not_lt_zero _)⟩ ?_))))))))))))))))
    rintro ⟨w, rows, i⟩ ⟨hw1, hi, hcor, hal⟩
    simp only at hw1 hi hcor hal
    dsimp only
    refine cd_seq (cd_seq (cd_region (st_v (v_move rfl) (st_v (v_move rfl) (st_v (v_len rfl Tryz.underlying22) (st_v (v_lss rfl rfl) (st_nil (nx_kp [0, 1, 4, 6, 7, 20] rfl (nx_then (cd_cond rfl (fun hd => ?_) (fun hd => ?_)))))))))))
    · skip
      have hlt : i < l.length := by simpa using hd
      have hget := List.getElem?_eq_getElem hlt
      obtain ⟨b, o, cap2, us, e1, hus, hrd, hxg⟩ := Row.at hv hget
      cases e1
      have ht : rest (l.take (i + 1)) c = rest (l.take i) c ++ (if ((l[i]).name != c) = true then [l[i]] else []) := by
        unfold rest
        rw [List.take_succ_eq_append_getElem hlt, List.filter_append]
        congr 1
        by_cases hg : ((l[i]).name != c) = true
        · rw [List.filter_cons, if_pos hg, if_pos hg, List.filter_nil]
        · rw [List.filter_cons, if_neg hg, if_neg hg, List.filter_nil]
      have hll : (rest (l.take i) c).length ≤ i := Nat.le_trans (List.length_filter_le _ _) (by rw [List.length_take]; omega)
      have hrl := hcor.1
      generalize l[i] = y at hget hxg ht
      obtain ⟨d, f, pv, c2, fa, fc, iv, rfl, hone, hp⟩ := id hxg
      refine cd_skip (xt_then (cd_seq (cd_block (cd_seq (cd_region (st_v (v_move rfl) (st_v (v_move rfl) (st_v (v_move rfl) (st_v (v_indexAddr (k := i) rfl rfl sl22 rfl hlt rfl) (st_v (v_fieldAddr rfl fa29_0 rfl) (st_v (v_ldy rfl ld9) ?_)))))))))))
      refine st_cl rfl rfl en40 rfl (parents_ct hv y.name (by omega) (fun z hz => by have := hR.few z hz; omega)) ?_
      rintro u h' ⟨T, rfl, hu1, rfl, hu⟩
      simp only [List.cons_append, List.nil_append]
      refine st_v (v_move rfl) (st_clr rfl rfl en39 rfl (Has_ct hu c (by rw [hR.pars_eq]; have := hR.par_few y.name; omega)) ?_)
      refine st_v (v_assign rfl) (st_nil (nx_kp [0, 1, 4, 6, 7, 8] rfl (nx_then (cd_seq (cd_seq (cd_region (st_v (v_move rfl) (st_nil (nx_kp [0, 1, 4, 6, 7, 32] rfl (nx_then (cd_cond rfl (fun hno => ?_) (fun hno => ?_))))))))))))
      · skip
        have hus : used l c = true := by
          rw [← hR.used_pars]
          exact List.any_eq_true.2 ⟨y, List.mem_of_getElem? hget, hno⟩
        rw [show wouE l c = 10 by rw [hw, hus]; rfl, okL_ne (by decide)]
        refine cd_seq (cd_region (st_v (v_build (cells := [.slice none 0 0, .int .i64 10]) rfl (fun _ => by kernel_rfl)) ?_))
        refine st_stoW rfl rfl sz36 rfl rfl ?_
        refine st_nil (nx_kp [4] rfl (nx_then (cd_ret (xt_ret_then (xt_ret_block (xt_ret_then (xt_ret_then (xt_ret_block (xt_ret_then (xt_vw (vw_unstar (L := [])) ?_))))))))))
        exact xt_retV (.cellN rfl ld36 rfl (by repeat (first | exact Sel.here | apply Sel.there)) .nil) ⟨Res.star [], rfl, _, rfl, rfl, Row.nil⟩ (by repeat (first | exact Sub.refl _ | exact Sub.nil _ | refine Sub.sel (by repeat (first | exact Sel.here | apply Sel.there)) ?_ | apply Sub.cons))
      · skip
        have hal2 : ∀ (j : Nat) z, j < i + 1 → l[j]? = some z → (pars l z.name).contains c = false := fun j z hj hz => by
          by_cases hji : j = i
          · subst hji; rw [hget] at hz; cases hz; exact hno
          · exact hal j z (by omega) hz
        refine cd_skip (xt_then (cd_seq (cd_region (st_v (v_move rfl) (st_v (v_move rfl) (st_v (v_indexAddr (k := i) rfl rfl sl22 rfl hlt rfl) (st_v (v_fieldAddr rfl fa29_0 rfl) (st_v (v_ldy rfl ld9) ?_))))))))
        refine st_v (v_move rfl) (st_v (v_sneq rfl rfl) (st_nil (nx_kp [0, 1, 4, 6, 7, 40] rfl (nx_then (cd_cond rfl (fun he2 => ?_) (fun he2 => ?_))))))
        · skip
          rw [if_pos (show (y.name != c) = true from he2)] at ht
          refine cd_region (st_v (v_move rfl) (st_v (v_move rfl) (st_v (v_move rfl) (st_v (v_indexAddr (k := i) rfl rfl sl22 rfl hlt rfl) (st_v (v_ldn rfl ld29 rfl hrd) ?_)))))
          refine st_buildSlice (cells := [sv y.name, d, f, pv, c2, .slice fa y.feats fc, iv]) rfl Tryz.underlying22 inf29 rfl rfl (by kernel_rfl) (ltn rfl) fun b46 => ?_
          refine st_app [[sv y.name, d, f, pv, c2, .slice fa y.feats fc, iv]] rfl rfl Tryz.underlying22 inf29 rfl (by decide) (show Sel _ (VR w 29 7 rows) _ from (by repeat (first | exact Sel.here | apply Sel.there))) (by simp) rfl (fun j u2 hu2 => by repeat (first | exact at_here (rd_cl (by simpa using hu2)) | apply at_there)) (fun u hu => List.all_eq_true.1 hone u (by simpa using hu)) (by omega) (by omega) (ltn rfl) fun w3 hw3 _ => ?_
          refine st_v (v_assign rfl) (st_nil (nx_kp [0, 1, 4, 6, 7] rfl (nx_xt (xt_normal_block (xt_then (cd_region (st_v (v_move rfl) (st_v (v_add rfl rfl (by unfold I64 at *; omega)) (st_v (v_assign rfl) (st_nil (nx_kp [0, 1, 4, 6, 7] rfl (nx_xt ?_))))))))))))
          refine xt_aq (w3, rows ++ [[sv y.name, d, f, pv, c2, .slice fa y.feats fc, iv]], i + 1) ⟨hw3, hlt, by show Cor _ _ (rest (l.take (i + 1)) c); rw [ht]; exact hcor.snoc hxg, hal2⟩ (Nat.sub_lt_sub_left hlt (Nat.lt_succ_self i))
        · skip
          rw [if_neg (by rw [show (y.name != c) = false from he2]; decide), List.append_nil] at ht
          refine cd_skip (xt_normal_block (xt_then (cd_region (st_v (v_move rfl) (st_v (v_add rfl rfl (by unfold I64 at *; omega)) (st_v (v_assign rfl) (st_nil (nx_kp [0, 1, 4, 6, 7] rfl (nx_xt ?_)))))))))
          refine xt_aq (w, rows, i + 1) ⟨hw1, hlt, by show Cor _ _ (rest (l.take (i + 1)) c); rw [ht]; exact hcor, hal2⟩ (Nat.sub_lt_sub_left hlt (Nat.lt_succ_self i))
    · skip
      have hil : i = l.length := by have : ¬ i < l.length := by simpa using hd
                                    omega
      subst hil
      rw [List.take_length] at hcor
      have hus : used l c = false := by
        rw [← hR.used_pars, List.any_eq_false]
        intro y hy
        obtain ⟨j, hj, rfl⟩ := List.getElem_of_mem hy
        rw [hal j _ (by omega) (List.getElem?_eq_getElem hj)]; decide
      rw [show wouE l c = 0 by rw [hw, hus]; rfl, okL_eq rfl]
      refine cd_exit (xt_exit_then (xt_exit_then (xt_exit_block (xt_then (cd_seq (cd_region (st_v (v_move rfl) (st_ok (r := VR w 29 7 rows) (by repeat (first | exact Sel.here | apply Sel.there)) fun hokw => ?_))))))))
      have hrow : sysR (Res.star [VR w 29 7 rows, S]) w (rest l c) := row_vr hokw hcor.1 (rd_in .here) fun i us x h1 h2 => (hcor.2 i us x h1 h2).mono (rd_in (.there .here))
      obtain ⟨ra, rcap, rfl, _⟩ := id hrow
      refine st_v (v_build (cells := [.slice ra (rest l c).length rcap, .int .i64 0]) rfl (fun _ => by kernel_rfl)) ?_
      refine st_stoW rfl rfl sz36 rfl rfl ?_
      refine st_nil (nx_kp [4] rfl (nx_then (cd_ret ?_)))
      exact xt_retV (.cellN rfl ld36 rfl (by repeat (first | exact Sel.here | apply Sel.there)) .nil) ⟨VR (.slice ra (rest l c).length rcap) 29 7 rows, rfl, _, rfl, rfl, hrow⟩ (by repeat (first | exact Sub.refl _ | exact Sub.nil _ | refine Sub.sel (by repeat (first | exact Sel.here | apply Sel.there)) ?_ | apply Sub.cons))
theorem drop_cons {α : Type} {l : List α} {i : Nat} (h : i < l.length) : l.drop i = l[i] :: l.drop (i + 1) := List.drop_eq_getElem_cons h
theorem pars_head {y : Cls} {t : Sys} : pars (y :: t) y.name = y.parents := by
  unfold pars find
  rw [List.find?_cons_of_pos (by simp)]; rfl
set_option maxHeartbeats 1000000 in
set_option maxRecDepth 100000 in
theorem SameGraph_ct (hv : sysR S v l) (hv' : sysR S v' l) (hl : l.length ≤ 1000000) (hp : ∀ x ∈ l, x.parents.length ≤ 1099511627776) : Reads Tryz.prog 11 #[v, v'] [S] (.bool true) := by
  obtain ⟨a, cap, rfl, hlc, _⟩ := id hv
  obtain ⟨a', cap', rfl, hlc', _⟩ := id hv'
  refine ct_of (n := 67) Tryz.func11 rfl rfl (len rfl) fun hr w0 => ?_
  refine cd_seq (cd_region (st_v (v_assign rfl) (st_nil (nx_then (cd_seq (cd_seq (cd_region (st_v (v_move rfl) (st_v (v_len rfl Tryz.underlying22) (st_v (v_move rfl) (st_v (v_len rfl Tryz.underlying22) (st_v (v_neq rfl rfl) (st_nil (nx_kp [0, 1, 4, 11] rfl (nx_then ?_)))))))))))))))
  rw [show ((l.length : Int) != (l.length : Int)) = false by simp]
  refine cd_false rfl ?_
  refine cd_skip (xt_then (cd_seq (cd_seq (cd_region (st_v (v_assign rfl) (st_nil (nx_kp [0, 1, 4, 5] rfl (nx_then (cd_block (cd_lq (σ := Nat) (fun i => [(0, .slice a l.length cap), (1, .slice a' l.length cap'), (5, .int .i64 (i : Nat))]) (fun _ => S :: hr) (fun i => i ≤ l.length) (fun i => l.length - i) 0 (Nat.zero_le _) ?_))))))))))
  rintro i hi
  refine cd_seq (cd_seq (cd_region (st_v (v_move rfl) (st_v (v_move rfl) (st_v (v_len rfl Tryz.underlying22) (st_v (v_lss rfl rfl) (st_nil (nx_kp [0, 1, 5, 15] rfl (nx_then (cd_cond rfl (fun hd => ?_) (fun hd => ?_)))))))))))
  · skip
    have hlt : i < l.length := by simpa using hd
    have hget := List.getElem?_eq_getElem hlt
    obtain ⟨b, o, cap2, us, e1, hus, hrd, hxg⟩ := Row.at hv hget
    cases e1
    obtain ⟨b', o', cap2', us', e1, hus', hrd', hxg'⟩ := Row.at hv' hget
    cases e1
    have hdr := Row.dropA hv (k := i) hi
    have hdr' := Row.dropA hv' (k := i) hi
    have hpn : pars (l.drop i) (l[i]).name = (l[i]).parents := by rw [drop_cons hlt]; exact pars_head
    have hpl := hp _ (List.getElem_mem hlt)
    generalize l[i] = y at hget hxg hxg' hpn hpl
    obtain ⟨d, f, pv, c, fa, fc, iv, rfl, hone, hq⟩ := id hxg
    obtain ⟨d', f', pv', c', fa', fc', iv', rfl, hone', hq'⟩ := id hxg'
    have hld : (l.drop i).length ≤ 1099511627776 := by rw [List.length_drop]; omega
    have hpd : ∀ x ∈ l.drop i, x.parents.length ≤ 1099511627776 := fun x hx => hp x (List.mem_of_mem_drop hx)
    refine cd_skip (xt_then (cd_seq (cd_block (cd_seq (cd_drawh (ork [(0, 2), (1, 2), (2, 1), (3, 2), (4, 2), (5, 2), (6, 2), (7, 1), (9, 2), (10, 2), (11, 1), (12, 2), (13, 2), (14, 2), (15, 2), (16, 1), (8, 0), (17, 0), (18, 0), (19, 2)] .nil) (fun i => !(Nat.beq i 17 || Nat.beq i 18)) mixed (by kernel_rfl) ?_)))))
    refine dp_v rfl (v_move rfl) (dp_v rfl (v_move rfl) (dr_v rfl (v_sliceTailA (lo := i) rfl rfl sl22 rfl hi hlc) (dp_v rfl (v_move rfl) (dp_v rfl (v_move rfl) (dp_v rfl (v_indexAddr (k := i) rfl rfl sl22 rfl hlt rfl) (dp_v rfl (v_fieldAddr rfl fa29_0 rfl) (dr_v rfl (v_ldy rfl ld9) ?_)))))))
    refine dp_v rfl (v_move rfl) (dp_v rfl (v_move rfl) (dr_v rfl (v_sliceTailA (lo := i) rfl rfl sl22 rfl hi hlc') (dp_v rfl (v_move rfl) (dp_v rfl (v_move rfl) (dp_v rfl (v_indexAddr (k := i) rfl rfl sl22 rfl hlt rfl) (dp_v rfl (v_fieldAddr rfl fa29_0 rfl) (dr_v rfl (v_ldy rfl ld9) ?_)))))))
    refine dr_eff rfl (st_cl rfl rfl en40 rfl (parents_ct hdr y.name hld hpd) ?_)
    rintro u1 h' ⟨T1, rfl, g1, rfl, k1⟩
    simp only [List.cons_append, List.nil_append]
    refine dr_nx ?_
    refine dr_eff rfl (st_cl rfl rfl en40 rfl (parents_ct hdr' y.name hld hpd) ?_)
    rintro u2 h' ⟨T2, rfl, g2, rfl, k2⟩
    simp only [List.cons_append, List.nil_append]
    refine dr_nx ?_
    rw [hpn] at k1 k2 ⊢
    refine dr_eff rfl (st_cl rfl rfl en27 rfl (SameNames_ct k1 k2 hpl) ?_)
    rintro u3 h' ⟨rfl, rfl⟩
    rw [beq_self_eq_true]
    simp only [List.cons_append, List.nil_append]
    refine dr_nx ?_
    refine dp_v rfl (v_assign rfl) (dr_nil (nx_kp [0, 1, 5, 6] rfl (nx_then (cd_seq (cd_drawh (ork [(0, 2), (1, 2), (2, 2), (3, 2), (4, 1), (5, 2), (6, 2), (7, 2), (8, 2), (9, 1), (10, 1), (11, 2), (12, 2), (13, 2), (14, 2), (15, 2), (16, 2), (17, 2), (18, 2), (19, 2), (20, 1), (21, 2), (22, 2), (23, 2), (24, 2), (25, 2), (26, 1), (27, 2), (28, 2), (29, 2)] .nil) (fun _ => true) mixed (by kernel_rfl) ?_)))))
    refine dp_v rfl (v_move rfl) (dp_v rfl (v_move rfl) (dp_v rfl (v_indexAddr (k := i) rfl rfl sl22 rfl hlt rfl) (dp_v rfl (v_fieldAddr rfl fa29_0 rfl) (dr_v rfl (v_ldy rfl ld9) ?_))))
    refine dp_v rfl (v_move rfl) (dp_v rfl (v_move rfl) (dp_v rfl (v_indexAddr (k := i) rfl rfl sl22 rfl hlt rfl) (dp_v rfl (v_fieldAddr rfl fa29_0 rfl) (dr_v rfl (v_ldy rfl ld9) ?_))))
    refine dr_v rfl (v_sneq rfl rfl) (dp_v rfl (v_move rfl) ?_)
    rw [show (!(y.name == y.name)) = false by simp]
    refine dp_vg rfl rfl rfl (v_move rfl) (dp_vg rfl rfl rfl (v_not rfl) (dp_v rfl (v_pick_false rfl rfl) (dp_v rfl (v_move rfl) (dp_vg rfl rfl rfl (v_move rfl) (dp_vg rfl rfl rfl (v_move rfl) (dp_vg rfl rfl rfl (v_indexAddr (k := i) rfl rfl sl22 rfl hlt rfl) (dp_vg rfl rfl rfl (v_fieldAddr rfl fa29_5 rfl) (dr_vg rfl rfl rfl (v_ldy rfl ld26) ?_))))))))
    refine dp_vg rfl rfl rfl (v_len rfl Tryz.underlying26) (dp_vg rfl rfl rfl (v_move rfl) (dp_vg rfl rfl rfl (v_move rfl) (dp_vg rfl rfl rfl (v_indexAddr (k := i) rfl rfl sl22 rfl hlt rfl) (dp_vg rfl rfl rfl (v_fieldAddr rfl fa29_5 rfl) (dr_vg rfl rfl rfl (v_ldy rfl ld26) ?_)))))
    refine dp_vg rfl rfl rfl (v_len rfl Tryz.underlying26) (dp_vg rfl rfl rfl (v_neq rfl rfl) (dp_v rfl (v_pick_false rfl rfl) (dr_nil (nx_kp [0, 1, 5, 66] rfl (nx_then ?_)))))
    rw [show ((y.feats : Int) != (y.feats : Int)) = false by simp]
    refine cd_false rfl ?_
    refine cd_skip (xt_normal_block (xt_then (cd_region (st_v (v_move rfl) (st_v (v_add rfl rfl (by unfold I64 at *; omega)) (st_v (v_assign rfl) (st_nil (nx_kp [0, 1, 5] rfl (nx_xt ?_)))))))))
    refine xt_aq (i + 1) hlt (Nat.sub_lt_sub_left hlt (Nat.lt_succ_self i))
  · skip
    refine cd_exit (xt_exit_then (xt_exit_then (xt_exit_block (xt_then (cd_seq (cd_region (st_v (v_assign rfl) (st_nil (nx_kp [4] rfl (nx_then (cd_ret ?_)))))))))))
    exact xt_rt rfl ⟨rfl, rfl⟩ (by (repeat (refine Sub.sel (by repeat (first | exact Sel.here | apply Sel.there)) ?_)); (repeat apply Sub.cons); first | exact Sub.refl _ | exact Sub.nil _)
end
end Go.Hr
namespace Go.Hr
open Go Go.RowKit Go.Ck Go.Proofs Go.Proofs.YtjgiaohieadeiaaGreat Fx
attribute [local irreducible] Go.Ck.Sub St Cd Xt Nx DrL LsW
section
variable {S N : Res} {v : Value} {l : Sys} {us : List Value} {x : Cls}
theorem okL_mem {α : Type} {e : Int} {xs : List α} {y : α} (h : y ∈ okL e xs) : y ∈ xs := by
  unfold okL at h
  split at h
  · exact h
  · simp at h
set_option maxHeartbeats 1000000 in
set_option maxRecDepth 100000 in
theorem heirChanges_ct (hv : sysG S v l) (hx : clsG S us x) (n : Nm) : Ct Tryz.prog 3 #[v, .agg us.toArray, sv n] [S] fun u h' => u = .bool true ∧ h' = [S] := by
  have hs := hv.sys
  obtain ⟨a, cap, rfl, _⟩ := id hv
  obtain ⟨d, f, pv, c, fa, fc, iv, rfl, hone, hp⟩ := id hx.1
  obtain ⟨pa, pc, rfl, _⟩ := id hp
  refine ct_of (n := 66) Tryz.func3 rfl rfl (len rfl) fun hr w0 => ?_
  refine cd_seq (cd_region (st_bx rfl rfl fun b4 => ?_))
  refine st_v (v_assign rfl) (st_nil (nx_kp [0, 2, 4, 6] rfl (nx_then (cd_seq (cd_seq (cd_region (st_v (v_move rfl) (st_clr rfl rfl en5 rfl (fewS_ct hs) ?_))))))))
  refine st_v (v_not rfl) (st_v (v_move rfl) (st_cut (k := 9) (d := 21) (v := .bool ((!fewL l) || decide (8 < (x.parents.length : Int)))) (fun hcut => bool_want (b := (!fewL l)) false (fun hg => ?_) (fun hg => ?_)) ?_))
  · refine st_sk rfl rfl hg ?_
    refine st_sk rfl rfl hg ?_
    refine st_sk rfl rfl hg ?_
    refine st_sk rfl rfl hg ?_
    refine st_v (v_pick_true (bool_ev rfl hg) rfl) ?_
    exact hcut _ (ssub_head (by first | rfl | (rw [hg]; rfl) | simp_all) (ssub_skip rfl (ssub_skip rfl (ssub_skip rfl (ssub_skip rfl (ssub_refl))))))
  · skip
    refine st_vg rfl (bool_get rfl hg) (v_fieldAddr rfl fa29_3 rfl) (st_vg rfl (bool_get rfl hg) (v_ldy rfl ld24) ?_)
    refine st_vg rfl (bool_get rfl hg) (v_len rfl Tryz.underlying24) (st_vg rfl (bool_get rfl hg) (v_gtr rfl rfl) (st_v (v_pick_false (bool_ev rfl hg) rfl) ?_))
    exact hcut _ (ssub_head (by first | rfl | (rw [hg]; rfl) | simp_all) (ssub_skip rfl (ssub_skip rfl (ssub_skip rfl (ssub_skip rfl (ssub_refl))))))
  refine st_nil (nx_kp [0, 2, 4, 6, 21] rfl (nx_then (cd_cond rfl (fun hrg => ?_) (fun hrg => ?_))))
  · skip
    refine cd_seq (cd_region (st_clr rfl rfl en6 rfl (sanityR) ?_))
    refine st_v (v_assign rfl) (st_nil (nx_kp [6] rfl (nx_then (cd_ret (xt_ret_then (xt_law rfl ?_))))))
    refine Sub.sel (by repeat (first | exact Sel.here | apply Sel.there)) ?_
    repeat apply Sub.cons
    exact Sub.refl _
  · skip
    obtain ⟨hr1, hr2⟩ := Bool.or_eq_false_iff.1 hrg
    obtain ⟨h40, hp8⟩ := few_40 (show fewL l = true by simpa using hr1)
    have hx8 : x.parents.length ≤ 8 := by have := of_decide_eq_false hr2; omega
    have hpa : ∀ y ∈ okL (addE l x) (l ++ [x]), y.parents.length ≤ 1099511627776 := fun y hy => by
      rcases List.mem_append.1 (okL_mem hy) with h | h
      · have := hp8 y h; omega
      · simp only [List.mem_singleton] at h; subst h; omega
    have hpw : ∀ y ∈ okL (wouE l n) (rest l n), y.parents.length ≤ 1099511627776 := fun y hy => by
      have := hp8 y (mem_rest.1 (okL_mem hy)).1; omega
    have hla : (okL (addE l x) (l ++ [x])).length ≤ 1000000 := okL_len (by simp; omega)
    have hlw : (okL (wouE l n) (rest l n)).length ≤ 1000000 := okL_len (Nat.le_trans (List.length_filter_le _ _) (by omega))
    refine cd_skip (xt_then (cd_seq (cd_region (st_v (v_move rfl) (st_v (v_ldn rfl ld29 rfl rds_pt) ?_)))))
    refine st_cl rfl rfl en7 rfl (Add_ct hv hx) ?_
    rintro u h' ⟨T, rfl, w, rfl, hw, hG⟩
    simp only [List.cons_append, List.nil_append]
    have hG := hG.sys
    refine st_v (v_move rfl) (st_v (v_extract rfl rfl) (st_v (v_extract rfl rfl) (st_v (v_assign rfl) (st_v (v_assign rfl) (st_nil (nx_kp [0, 2, 4, 6, 7, 8] rfl (nx_then (cd_seq (cd_region (st_v (v_move rfl) (st_v (v_ldn rfl ld29 rfl rds_pt) ?_)))))))))))
    refine st_cl rfl rfl en8 rfl (AddS_ct hs hx.1 (by omega)) ?_
    rintro u h' ⟨T2, rfl, w2, rfl, hw2, hG2⟩
    simp only [List.cons_append, List.nil_append]
    generalize okL (addE l x) (l ++ [x]) = la at *
    obtain ⟨a2, c2, rfl, _⟩ := id hG2
    refine st_alc al36 fun b9 => ?_
    refine st_stoW rfl rfl sz36 rfl rfl ?_
    refine st_nil (nx_kp [0, 2, 6, 7, 8, 9] rfl (nx_then (cd_seq (cd_region (st_v (v_move rfl) (st_v (v_move rfl) (st_cl rfl rfl en9 rfl (Without_ct hv n) ?_)))))))
    rintro u h' ⟨T3, rfl, w3, rfl, hw3, hG3⟩
    simp only [List.cons_append, List.nil_append]
    have hG3 := hG3.sys
    refine st_v (v_move rfl) (st_v (v_extract rfl rfl) (st_v (v_extract rfl rfl) (st_v (v_assign rfl) (st_v (v_assign rfl) (st_nil (nx_kp [0, 2, 6, 7, 8, 9, 10, 11] rfl (nx_then (cd_seq (cd_region (st_v (v_move rfl) (st_v (v_move rfl) (st_cl rfl rfl en10 rfl (WithoutS_ct hs (by omega) n) ?_))))))))))))
    rintro u h' ⟨T4, rfl, w4, rfl, hw4, hG4⟩
    simp only [List.cons_append, List.nil_append]
    generalize okL (wouE l n) (rest l n) = lw at *
    obtain ⟨a4, c4, rfl, _⟩ := id hG4
    refine st_alc al36 fun b12 => ?_
    refine st_stoW rfl rfl sz36 rfl rfl ?_
    refine st_nil (nx_kp [6, 7, 8, 9, 10, 11, 12] rfl (nx_then (cd_seq (cd_region (st_clr rfl rfl en6 rfl (sanityR) ?_)))))
    refine st_v (v_move rfl) (st_vg rfl rfl (v_move rfl) (st_vg rfl rfl (v_fieldAddr rfl fa36_0 rfl) (st_vg rfl rfl (v_ldy rfl ld22) ?_)))
    refine st_clrg rfl rfl rfl rfl en11 rfl (reads_star (SameGraph_ct (S := Res.star [T, T2, S]) (hG.mono (rd_in .here)) (hG2.mono (rd_sub (Sub.refl [T2, S]).cons)) hla hpa)) ?_
    refine st_v (v_pick_true rfl rfl) (st_v (v_move rfl) (st_vg rfl rfl (v_move rfl) (st_vg rfl rfl (v_fieldAddr rfl fa36_1 rfl) (st_vg rfl rfl (v_ldy rfl ld32) ?_))))
    refine st_vg rfl rfl (v_eql rfl rfl) (st_v (v_pick_true rfl rfl) (st_v (v_move rfl) ?_))
    rw [beq_self_eq_true]
    refine st_vg rfl rfl (v_move rfl) (st_vg rfl rfl (v_fieldAddr rfl fa36_0 rfl) (st_vg rfl rfl (v_ldy rfl ld22) ?_))
    refine st_clrg rfl rfl rfl rfl en11 rfl (reads_star (SameGraph_ct (S := Res.star [T3, T4, S]) (hG3.mono (rd_in .here)) (hG4.mono (rd_sub (Sub.refl [T4, S]).cons)) hlw hpw)) ?_
    refine st_v (v_pick_true rfl rfl) (st_v (v_move rfl) (st_vg rfl rfl (v_move rfl) (st_vg rfl rfl (v_fieldAddr rfl fa36_1 rfl) (st_vg rfl rfl (v_ldy rfl ld32) ?_))))
    refine st_vg rfl rfl (v_eql rfl rfl) (st_v (v_pick_true rfl rfl) (st_v (v_assign rfl) (st_nil (nx_kp [6] rfl (nx_then (cd_ret ?_))))))
    rw [beq_self_eq_true]
    refine xt_law rfl ?_
    refine Sub.sel (by repeat (first | exact Sel.here | apply Sel.there)) ?_
    repeat apply Sub.cons
    exact Sub.refl _
end
end Go.Hr
namespace Go.Hr
open Go Go.RowKit Go.Ck Go.Proofs Go.Proofs.YtjgiaohieadeiaaGreat Fx
attribute [local irreducible] Go.Ck.Sub St Cd Xt Nx DrL LsW
section
variable {S N : Res} {v : Value} {l : Sys} {us : List Value} {x : Cls}
theorem addE_ok {l : Sys} {x : Cls} (hR : Right l) : addE l x = (check (l ++ [x])).1 := if_pos (check_zero.2 hR)
set_option maxRecDepth 100000 in
theorem chN_ct {rows : List (List Value)} (hc : Cor (clsC S) rows l) : Ct Tryz.prog 13 #[v] [VR v 29 7 rows, S] fun u h' => u = .tuple #[.int .i64 (check l).1, sv (check l).2] ∧ h' = [VR v 29 7 rows, S] := fun hr w hh =>
  ct_star (L := [VR v 29 7 rows, S]) (Q := fun u => u = .tuple #[.int .i64 (check l).1, sv (check l).2]) (Check_ct (S := Res.star [VR v 29 7 rows, S]) (row_vr ⟨_, hh.1⟩ hc.1 (rd_in .here) fun i us x h1 h2 => (hc.2 i us x h1 h2).mono (rd_in (.there .here)))) hr w hh
set_option maxHeartbeats 2000000 in
set_option maxRecDepth 100000 in
theorem heirBack_ct (hv : sysG S v l) (hx : clsG S us x) {i j : Nat} (hi : i ≤ 255) (hj : j ≤ 255) : Ct Tryz.prog 4 #[v, .agg us.toArray, .int .u8 (i : Int), .int .u8 (j : Int)] [S] fun u h' => u = .bool true ∧ h' = [S] := by
  have hml : maxLen = 9223372036854775807 := rfl
  have hs := hv.sys
  obtain ⟨a, cap, rfl, _⟩ := id hv
  obtain ⟨d, f, pv, c, fa, fc, iv, rfl, hone, hp⟩ := id hx.1
  obtain ⟨pa, pc, rfl, _⟩ := id hp
  refine ct_of (n := 98) Tryz.func4 rfl rfl (len rfl) fun hr w0 => ?_
  refine cd_seq (cd_region (st_bx rfl rfl fun b5 => ?_))
  refine st_v (v_assign rfl) (st_nil (nx_kp [0, 2, 3, 5, 8] rfl (nx_then (cd_seq (cd_seq (cd_region (st_v (v_move rfl) (st_clr rfl rfl en12 rfl (rightR hs) ?_))))))))
  refine st_v (v_not rfl) (st_v (v_move rfl) (st_cut (k := 9) (d := 25) (v := .bool ((!rightB l) || decide (8 < (x.parents.length : Int)))) (fun hcut => bool_want (b := (!rightB l)) false (fun hg => ?_) (fun hg => ?_)) ?_))
  · refine st_sk rfl rfl hg ?_
    refine st_sk rfl rfl hg ?_
    refine st_sk rfl rfl hg ?_
    refine st_sk rfl rfl hg ?_
    refine st_v (v_pick_true (bool_ev rfl hg) rfl) ?_
    exact hcut _ (ssub_head (by first | rfl | (rw [hg]; rfl) | simp_all) (ssub_skip rfl (ssub_skip rfl (ssub_skip rfl (ssub_skip rfl (ssub_refl))))))
  · skip
    refine st_vg rfl (bool_get rfl hg) (v_fieldAddr rfl fa29_3 rfl) (st_vg rfl (bool_get rfl hg) (v_ldy rfl ld24) ?_)
    refine st_vg rfl (bool_get rfl hg) (v_len rfl Tryz.underlying24) (st_vg rfl (bool_get rfl hg) (v_gtr rfl rfl) (st_v (v_pick_false (bool_ev rfl hg) rfl) ?_))
    exact hcut _ (ssub_head (by first | rfl | (rw [hg]; rfl) | simp_all) (ssub_skip rfl (ssub_skip rfl (ssub_skip rfl (ssub_skip rfl (ssub_refl))))))
  refine st_nil (nx_kp [0, 2, 3, 5, 8, 25] rfl (nx_then (cd_cond rfl (fun hrg => ?_) (fun hrg => ?_))))
  · skip
    refine cd_seq (cd_region (st_clr rfl rfl en6 rfl (sanityR) ?_))
    refine st_v (v_assign rfl) (st_nil (nx_kp [8] rfl (nx_then (cd_ret (xt_ret_then (xt_law rfl ?_))))))
    refine Sub.sel (by repeat (first | exact Sel.here | apply Sel.there)) ?_
    repeat apply Sub.cons
    exact Sub.refl _
  · skip
    obtain ⟨hr1, hr2⟩ := Bool.or_eq_false_iff.1 hrg
    obtain ⟨hR, h0⟩ := rightB_iff.1 (show rightB l = true by simpa using hr1)
    have hFl := hR.len
    have hx8 : x.parents.length ≤ 8 := by have := of_decide_eq_false hr2; omega
    have haE : addE l x = (check (l ++ [x])).1 := addE_ok hR
    refine cd_skip (xt_then (cd_seq (cd_region (st_v (v_move rfl) (st_v (v_ldn rfl ld29 rfl rds_pt) ?_)))))
    refine st_cl rfl rfl en7 rfl (Add_ct hv hx) ?_
    rintro u h' ⟨T, rfl, w, rfl, hw, hG⟩
    simp only [List.cons_append, List.nil_append]
    refine st_v (v_move rfl) (st_v (v_extract rfl rfl) (st_v (v_extract rfl rfl) (st_v (v_assign rfl) (st_v (v_assign rfl) (st_nil (nx_kp [0, 2, 3, 5, 8, 9, 10] rfl (nx_then (cd_seq (cd_seq (cd_region (st_v (v_move rfl) (st_v (v_neq rfl rfl) (st_nil (nx_kp [0, 2, 3, 5, 8, 9, 10, 34] rfl (nx_then (cd_cond rfl (fun he => ?_) (fun he => ?_)))))))))))))))))
    · skip
      have he : ¬ addE l x = 0 := by simpa using he
      rw [okL_ne he] at hG
      rw [haE] at he ⊢
      obtain ⟨wa, wc, rfl, _⟩ := id hG
      refine cd_seq (cd_drawh (ork [(1, 2), (3, 1)] (.two 0 (.two 2 (ork [(4, 0), (5, 0), (6, 0), (7, 2), (8, 2), (9, 2), (10, 2), (11, 2)] .nil) 4 (ork [(2, 0), (5, 0), (6, 0), (7, 2), (8, 2), (9, 2), (10, 2), (11, 2)] .nil)) 4 (ork [(0, 0), (2, 0), (5, 0), (6, 0), (7, 2), (8, 2), (9, 2), (10, 2), (11, 2)] .nil))) (fun i => !(Nat.beq i 4 || Nat.beq i 5 || Nat.beq i 6)) mixed (by kernel_rfl) ?_)
      refine dp_v rfl (v_move rfl) (dr_v rfl (v_ldn rfl ld29 rfl rds_pt) ?_)
      refine dr_two rfl rfl ?_ ?_
      · skip
        refine st_bs0 Tryz.underlying22 inf29 fun b36 => dr_nx ?_
        refine dr_two rfl rfl ?_ ?_
        · skip
          refine st_apr hs rfl rfl Tryz.underlying22 inf29 rfl (by decide) (show Sel _ (VR (.slice (some ⟨b36, 0, none⟩) 0 0) 29 7 []) _ from (by repeat (first | exact Sel.here | apply Sel.there))) (show Sel _ S _ from (by repeat (first | exact Sel.here | apply Sel.there))) (fun us x _ h => cls_ones h) (by simp <;> omega) (by simp <;> omega) (ltn rfl) fun v38 n1 hv38 q1 q2 q3 => dr_nx ?_
          refine dr_eff rfl (st_buildSlice (cells := [sv x.name, d, f, .slice pa x.parents.length pc, c, .slice fa x.feats fc, iv]) rfl Tryz.underlying22 inf29 rfl rfl (by kernel_rfl) (ltn rfl) fun b40 => dr_nx ?_)
          refine dr_eff rfl (st_app [[sv x.name, d, f, .slice pa x.parents.length pc, c, .slice fa x.feats fc, iv]] rfl rfl Tryz.underlying22 inf29 rfl (by decide) (show Sel _ (VR v38 29 7 ([] ++ n1)) _ from (by repeat (first | exact Sel.here | apply Sel.there))) (by simp) rfl (fun j u2 hu2 => by repeat (first | exact at_here (rd_cl (by simpa using hu2)) | apply at_there)) (fun u hu => List.all_eq_true.1 hone u (by simpa using hu)) (by simp [q1]; omega) (by simp [q1]; omega) (ltn rfl) fun v41 hv41 _ => dr_nx ?_)
          have hcor : Cor (clsC S) ([] ++ n1 ++ [[sv x.name, d, f, .slice pa x.parents.length pc, c, .slice fa x.feats fc, iv]]) (l ++ [x]) := (Cor.nil.app ⟨q1, q3⟩).snoc hx.1
          refine dr_eff rfl (st_cl rfl rfl en13 rfl (chN_ct hcor) ?_)
          rintro u h' ⟨rfl, rfl⟩
          simp only [List.cons_append, List.nil_append]
          refine dr_nx ?_
          refine dp_v rfl (v_move rfl) (dp_v rfl (v_extract rfl rfl) (dp_v rfl (v_extract rfl rfl) (dp_v rfl (v_assign rfl) (dp_v rfl (v_assign rfl) (dr_nil (nx_kp [0, 2, 3, 5, 8, 9, 10, 11] rfl (nx_then (cd_seq (cd_region (st_clr rfl rfl en6 rfl (sanityR) ?_))))))))))
          refine st_v (v_move rfl) (st_vg rfl rfl (v_move rfl) (st_vg rfl rfl (v_move rfl) (st_vg rfl rfl (v_eql rfl rfl) (st_v (v_pick_true rfl rfl) (st_v (v_move rfl) ?_)))))
          rw [beq_self_eq_true]
          refine st_vg rfl rfl (v_move rfl) (st_vg rfl rfl (v_len rfl Tryz.underlying22) (st_vg rfl rfl (v_eql rfl rfl) (st_v (v_pick_true rfl rfl) (st_v (v_assign rfl) (st_nil (nx_kp [8] rfl (nx_then (cd_ret (xt_ret_then ?_)))))))))
          rw [show (((([] : Sys).length : Nat) : Int) == 0) = true from rfl]
          refine xt_law rfl ?_
          refine Sub.sel (by repeat (first | exact Sel.here | apply Sel.there)) ?_
          repeat apply Sub.cons
          exact Sub.refl _
        · skip
          refine st_buildSlice (cells := [sv x.name, d, f, .slice pa x.parents.length pc, c, .slice fa x.feats fc, iv]) rfl Tryz.underlying22 inf29 rfl rfl (by kernel_rfl) (ltn rfl) fun b40 => dr_nx ?_
          refine dr_eff rfl (st_apr hs rfl rfl Tryz.underlying22 inf29 rfl (by decide) (show Sel _ (VR (.slice (some ⟨b36, 0, none⟩) 0 0) 29 7 []) _ from (by repeat (first | exact Sel.here | apply Sel.there))) (show Sel _ S _ from (by repeat (first | exact Sel.here | apply Sel.there))) (fun us x _ h => cls_ones h) (by simp <;> omega) (by simp <;> omega) (ltn rfl) fun v38 n1 hv38 q1 q2 q3 => dr_nx ?_)
          refine dr_eff rfl (st_app [[sv x.name, d, f, .slice pa x.parents.length pc, c, .slice fa x.feats fc, iv]] rfl rfl Tryz.underlying22 inf29 rfl (by decide) (show Sel _ (VR v38 29 7 ([] ++ n1)) _ from (by repeat (first | exact Sel.here | apply Sel.there))) (by simp) rfl (fun j u2 hu2 => by repeat (first | exact at_here (rd_cl (by simpa using hu2)) | apply at_there)) (fun u hu => List.all_eq_true.1 hone u (by simpa using hu)) (by simp [q1]; omega) (by simp [q1]; omega) (ltn rfl) fun v41 hv41 _ => dr_nx ?_)
          have hcor : Cor (clsC S) ([] ++ n1 ++ [[sv x.name, d, f, .slice pa x.parents.length pc, c, .slice fa x.feats fc, iv]]) (l ++ [x]) := (Cor.nil.app ⟨q1, q3⟩).snoc hx.1
          refine dr_eff rfl (st_cl rfl rfl en13 rfl (chN_ct hcor) ?_)
          rintro u h' ⟨rfl, rfl⟩
          simp only [List.cons_append, List.nil_append]
          refine dr_nx ?_
          refine dp_v rfl (v_move rfl) (dp_v rfl (v_extract rfl rfl) (dp_v rfl (v_extract rfl rfl) (dp_v rfl (v_assign rfl) (dp_v rfl (v_assign rfl) (dr_nil (nx_kp [0, 2, 3, 5, 8, 9, 10, 11] rfl (nx_then (cd_seq (cd_region (st_clr rfl rfl en6 rfl (sanityR) ?_))))))))))
          refine st_v (v_move rfl) (st_vg rfl rfl (v_move rfl) (st_vg rfl rfl (v_move rfl) (st_vg rfl rfl (v_eql rfl rfl) (st_v (v_pick_true rfl rfl) (st_v (v_move rfl) ?_)))))
          rw [beq_self_eq_true]
          refine st_vg rfl rfl (v_move rfl) (st_vg rfl rfl (v_len rfl Tryz.underlying22) (st_vg rfl rfl (v_eql rfl rfl) (st_v (v_pick_true rfl rfl) (st_v (v_assign rfl) (st_nil (nx_kp [8] rfl (nx_then (cd_ret (xt_ret_then ?_)))))))))
          rw [show (((([] : Sys).length : Nat) : Int) == 0) = true from rfl]
          refine xt_law rfl ?_
          refine Sub.sel (by repeat (first | exact Sel.here | apply Sel.there)) ?_
          repeat apply Sub.cons
          exact Sub.refl _
      · skip
        refine st_buildSlice (cells := [sv x.name, d, f, .slice pa x.parents.length pc, c, .slice fa x.feats fc, iv]) rfl Tryz.underlying22 inf29 rfl rfl (by kernel_rfl) (ltn rfl) fun b40 => dr_nx ?_
        refine dr_eff rfl (st_bs0 Tryz.underlying22 inf29 fun b36 => dr_nx ?_)
        refine dr_eff rfl (st_apr hs rfl rfl Tryz.underlying22 inf29 rfl (by decide) (show Sel _ (VR (.slice (some ⟨b36, 0, none⟩) 0 0) 29 7 []) _ from (by repeat (first | exact Sel.here | apply Sel.there))) (show Sel _ S _ from (by repeat (first | exact Sel.here | apply Sel.there))) (fun us x _ h => cls_ones h) (by simp <;> omega) (by simp <;> omega) (ltn rfl) fun v38 n1 hv38 q1 q2 q3 => dr_nx ?_)
        refine dr_eff rfl (st_app [[sv x.name, d, f, .slice pa x.parents.length pc, c, .slice fa x.feats fc, iv]] rfl rfl Tryz.underlying22 inf29 rfl (by decide) (show Sel _ (VR v38 29 7 ([] ++ n1)) _ from (by repeat (first | exact Sel.here | apply Sel.there))) (by simp) rfl (fun j u2 hu2 => by repeat (first | exact at_here (rd_cl (by simpa using hu2)) | apply at_there)) (fun u hu => List.all_eq_true.1 hone u (by simpa using hu)) (by simp [q1]; omega) (by simp [q1]; omega) (ltn rfl) fun v41 hv41 _ => dr_nx ?_)
        have hcor : Cor (clsC S) ([] ++ n1 ++ [[sv x.name, d, f, .slice pa x.parents.length pc, c, .slice fa x.feats fc, iv]]) (l ++ [x]) := (Cor.nil.app ⟨q1, q3⟩).snoc hx.1
        refine dr_eff rfl (st_cl rfl rfl en13 rfl (chN_ct hcor) ?_)
        rintro u h' ⟨rfl, rfl⟩
        simp only [List.cons_append, List.nil_append]
        refine dr_nx ?_
        refine dp_v rfl (v_move rfl) (dp_v rfl (v_extract rfl rfl) (dp_v rfl (v_extract rfl rfl) (dp_v rfl (v_assign rfl) (dp_v rfl (v_assign rfl) (dr_nil (nx_kp [0, 2, 3, 5, 8, 9, 10, 11] rfl (nx_then (cd_seq (cd_region (st_clr rfl rfl en6 rfl (sanityR) ?_))))))))))
        refine st_v (v_move rfl) (st_vg rfl rfl (v_move rfl) (st_vg rfl rfl (v_move rfl) (st_vg rfl rfl (v_eql rfl rfl) (st_v (v_pick_true rfl rfl) (st_v (v_move rfl) ?_)))))
        rw [beq_self_eq_true]
        refine st_vg rfl rfl (v_move rfl) (st_vg rfl rfl (v_len rfl Tryz.underlying22) (st_vg rfl rfl (v_eql rfl rfl) (st_v (v_pick_true rfl rfl) (st_v (v_assign rfl) (st_nil (nx_kp [8] rfl (nx_then (cd_ret (xt_ret_then ?_)))))))))
        rw [show (((([] : Sys).length : Nat) : Int) == 0) = true from rfl]
        refine xt_law rfl ?_
        refine Sub.sel (by repeat (first | exact Sel.here | apply Sel.there)) ?_
        repeat apply Sub.cons
        exact Sub.refl _
    · skip
      have he : addE l x = 0 := by simpa using he
      rw [okL_eq he] at hG
      have hR2 : Right (l ++ [x]) := check_zero.1 (by rw [← haE]; exact he)
      have hwE : wouE (l ++ [x]) x.name = 0 := by
        unfold wouE
        rw [if_pos (rightE_zero.2 ⟨hR2, by simp only [List.mem_singleton]; rintro n rfl; exact isC_last⟩), hR.unused_snoc hR2]; rfl
      have hrs : rest (l ++ [x]) x.name = l := hR2.rest_snoc
      obtain ⟨wa, wc, rfl, _⟩ := id hG
      refine cd_skip (xt_then (cd_seq (cd_region (st_v (v_move rfl) (st_v (v_fieldAddr rfl fa29_0 rfl) (st_v (v_ldy rfl ld9) ?_))))))
      refine st_cl rfl rfl en9 rfl (Without_ct hG x.name) ?_
      rintro u h' ⟨T2, rfl, w2, rfl, hw2, hG2⟩
      simp only [List.cons_append, List.nil_append]
      rw [hwE, okL_eq rfl, hrs] at hG2
      rw [hwE]
      have hG2 := hG2.sys
      obtain ⟨w2a, w2c, rfl, _⟩ := id hG2
      have hGs := hG.sys
      refine st_v (v_move rfl) (st_v (v_extract rfl rfl) (st_v (v_extract rfl rfl) (st_v (v_assign rfl) (st_v (v_assign rfl) (st_nil (nx_kp [0, 2, 3, 8, 9, 13, 14] rfl (nx_then (cd_seq (cd_region (st_v (v_move rfl) (st_v (v_move rfl) (st_clr rfl rfl en14 rfl (name_ct hs h0 (by omega) hi) ?_))))))))))))
      refine st_v (v_assign rfl) (st_nil (nx_kp [0, 3, 8, 9, 13, 14, 15] rfl (nx_then (cd_seq (cd_region (st_v (v_move rfl) (st_v (v_move rfl) (st_clr rfl rfl en14 rfl (name_ct hs h0 (by omega) hj) ?_))))))))
      refine st_v (v_assign rfl) (st_nil (nx_kp [0, 8, 9, 13, 14, 15, 16] rfl (nx_then (cd_seq (cd_region ?_)))))
      have ha := nmAt_isC h0 i
      have hb := nmAt_isC h0 j
      generalize nmAt l i = p at *
      generalize nmAt l j = q at *
      refine st_clr rfl rfl en6 rfl (sanityR) ?_
      refine st_v (v_move rfl) (st_vg rfl rfl (v_move rfl) (st_vg rfl rfl (v_eql rfl rfl) (st_v (v_pick_true rfl rfl) (st_v (v_move rfl) (st_vg rfl rfl (v_move rfl) (st_vg rfl rfl (v_move rfl) (st_clrg rfl rfl rfl rfl en11 rfl (reads_star (SameGraph_ct (S := Res.star [T2, S]) (hG2.mono (rd_in .here)) (hs.mono (rd_in (.there .here))) (by omega) (fun y hy => by have := hR.few y hy; omega))) ?_)))))))
      refine st_v (v_pick_true rfl rfl) (st_v (v_move rfl) (st_vg rfl rfl (v_move rfl) (st_vg rfl rfl (v_len rfl Tryz.underlying22) (st_vg rfl rfl (v_move rfl) (st_vg rfl rfl (v_len rfl Tryz.underlying22) (st_vg rfl rfl (v_add rfl rfl (by unfold I64 at *; omega)) (st_vg rfl rfl (v_eql rfl rfl) (st_v (v_pick_true rfl rfl) (st_v (v_move rfl) ?_)))))))))
      rw [show ((((l ++ [x]).length : Nat) : Int) == (l.length : Int) + 1) = true by simp]
      refine st_vg rfl rfl (v_move rfl) (st_vg rfl rfl (v_move rfl) (st_vg rfl rfl (v_move rfl) (st_clrg rfl rfl rfl rfl en15 rfl (is_ct hs hR ha hb) ?_)))
      refine st_vg rfl rfl (v_move rfl) (st_vg rfl rfl (v_move rfl) (st_vg rfl rfl (v_move rfl) (st_clrg rfl rfl rfl rfl en15 rfl (is_ct hGs hR2 (isC_snoc ha) (isC_snoc hb)) ?_)))
      refine st_vg rfl rfl (v_eql_bool Tryz.underlying4 rfl rfl) (st_v (v_pick_true rfl rfl) (st_v (v_assign rfl) (st_nil (nx_kp [8] rfl (nx_then (cd_ret ?_))))))
      rw [hR.has_snoc hR2 ha, beq_self_eq_true]
      refine xt_law rfl ?_
      refine Sub.sel (by repeat (first | exact Sel.here | apply Sel.there)) ?_
      repeat apply Sub.cons
      exact Sub.refl _
end
end Go.Hr
namespace Go.Ck
open Go Go.RowKit
theorem rds_eq {r : Res} {b o : Nat} {us us' : List Value} (hw : ∃ w : World, r.ok (hp w)) (h : Rds r b o us) (h' : Rds r b o us') (hl : us.length = us'.length) : us = us' := by
  obtain ⟨w, hw⟩ := hw
  apply List.ext_getElem hl
  intro i h1 h2
  have k1 := h i h1 w hw
  have k2 := h' i h2 w hw
  rw [k1] at k2
  exact Option.some.inj k2
/-- A row that is read in two ways. -/
theorem row_both {α β : Type} {S : Res} {sz : Nat} {X : List Value → α → Prop} {Y : List Value → β → Prop} {v : Value} {l : List α} {m : List β} (hw : ∃ w : World, S.ok (hp w)) (h : Row S sz X v l) (h' : Row S sz Y v m) : Row S sz (fun us x => X us x ∧ ∃ y, Y us y) v l := by
  obtain ⟨a, cap, rfl, h1, h2, h3, h4⟩ := h
  obtain ⟨a', cap', he, _, _, _, h5⟩ := h'
  injection he with e1 e2 e3
  subst e1 e3
  refine ⟨a, cap, rfl, h1, h2, h3, fun i x hi => ?_⟩
  obtain ⟨b, o, us, g1, g2, g3, g4⟩ := h4 i x hi
  have hlt : i < m.length := by have := (List.getElem?_eq_some_iff.1 hi).1; omega
  obtain ⟨b', o', us', g1', g2', g3', g4'⟩ := h5 i _ (List.getElem?_eq_getElem hlt)
  rw [g1] at g1'
  cases g1'
  have : us' = us := rds_eq hw g3' g3 (by omega)
  subst this
  exact ⟨b, o, us', g1, g2, g3, g4, _, g4'⟩
end Go.Ck
namespace Go.Hr
open Go Go.RowKit Go.ChangeShapes Go.WideShapes Go.Ck Go.Proofs Go.Proofs.YtjgiaohieadeiaaGreat
def typG : List TypeId := [3, 4, 9, 22, 29, 23, 131, 24, 93, 25, 26, 146, 27, 169, 167, 165, 90, 136, 91, 140, 143, 182, 144, 186]
theorem typG_ok : kinB Tryz.prog typG = true := by kernel_rfl
theorem sysG_of {H : Type} {enc : TypeId × Value → H} {W : World} {v : Value} {d : DataW H} {ps : List MemPlace} {l : Sys} (h : DataW.Trod enc Tryz.prog W 0 (fun _ => true) true 22 v d ps) (hs : sysR (old W) v l) (hz : ∀ n ∈ d.weights Tryz.prog 22, n ≤ reachBytes) : sysG (old W) v l := by
  obtain ⟨fuel, h⟩ := h
  obtain ⟨a, cap, rfl, _⟩ := id hs
  have hg : Gd enc Tryz.prog W fuel 22 [.slice a l.length cap] := ⟨(d, ps), h, hz⟩
  obtain ⟨m, u, _, hr, _⟩ := (Gr.of_gd typG_ok (by decide) hg).row Tryz.underlying22
  rw [show Tryz.prog.cellsOf 29 = 7 by kernel_rfl] at hr
  exact (row_both ⟨W, fun _ _ => rfl⟩ hs hr).mono (fun _ _ h => h) fun us x _ ⟨h1, _, h2⟩ => ⟨h1, m, h2⟩
theorem clsG_of {H : Type} {enc : TypeId × Value → H} {W : World} {us : List Value} {d : DataW H} {ps : List MemPlace} {x : Cls} (h : DataW.Trod enc Tryz.prog W 0 (fun _ => true) true 29 (.agg us.toArray) d ps) (hc : clsC (old W) us x) (hz : ∀ n ∈ d.weights Tryz.prog 29, n ≤ reachBytes) : clsG (old W) us x := by
  obtain ⟨fuel, h⟩ := h
  have hg : Gd enc Tryz.prog W fuel 29 us := ⟨(d, ps), h, hz⟩
  exact ⟨hc, fuel, Gr.of_gd typG_ok (by decide) hg⟩
end Go.Hr
namespace Go.Proofs.YtjgiaohieadeiaaGreat
open Go Go.RowKit Go.ChangeShapes Go.WideShapes Go.Ck Go.Hr
set_option maxRecDepth 100000 in
theorem heirBack_lifted (os : Os) (started : os.Started) (H : Type) (enc : TypeId × Value → H) :
    ReturnsInHanded {} Tryz.checked os 4 .any (Rows.heirBackSpec.pre6 enc Tryz.prog Tryz.f4 Rows.heirBackRow.domain false) (Rows.heirBackSpec.post enc Tryz.prog Tryz.f4 false true false false) := by
  refine returnsInHanded_of_change_sized (C := Tryz.checked) (show ownKnob Tryz.prog.godebug = none by kernel_rfl) started (by kernel_rfl) Tryz.func4
    (ChangeSpec.witness6 (enc := enc) (C := Tryz.checked) false ⟨#[], #[.slice none 0 0, .agg #[.string ⟨#[]⟩, .bool false, .slice none 0 0, .slice none 0 0, .slice none 0 0, .slice none 0 0, .slice none 0 0], .int .u8 0, .int .u8 0], []⟩ 8 (by kernel_rfl) (by kernel_rfl) (by kernel_rfl) (by kernel_rfl)) ?_
  intro W base args ds gs before hval0 hW hcnd hsz _
  have hval : ∀ (j : Nat) t v, Tryz.f4.params[j]? = some t → args[j]? = some v → Value.okWide Tryz.prog W .any base t v := hval0
  have hW' := hW
  obtain ⟨p, q, hA0, hV, rfl, hfz, hnd⟩ := hW
  have hA : DataW.TrodAll enc Tryz.prog W 0 (fun _ => true) true Tryz.f4.params.toList args.toList ds p := hA0
  rw [Tryz.params4] at hA hval
  obtain ⟨v0, vs0, d0, ds0, p0, q0, hargs, rfl, rfl, h0, r0⟩ := trodAll_cons hA
  obtain ⟨v1, vs1, d1, ds1, p1, q1, rfl, rfl, rfl, h1, r1⟩ := trodAll_cons r0
  obtain ⟨v2, vs2, d2, ds2, p2, q2, rfl, rfl, rfl, h2, r2⟩ := trodAll_cons r1
  obtain ⟨v3, vs3, d3, ds3, p3, q3, rfl, rfl, rfl, h3, r3⟩ := trodAll_cons r2
  obtain ⟨rfl, rfl, rfl⟩ := trodAll_nil r3
  obtain rfl : args = #[v0, v1, v2, v3] := by cases args; simp_all
  obtain ⟨rfl, rfl⟩ := trodVars_none hV
  obtain ⟨y0, e0⟩ := arg_one (ty := .slice clsTy) (by kernel_rfl) (by kernel_rfl) (hval 0 22 v0 rfl rfl) h0
  have hz0 : ∀ n ∈ d0.weights Tryz.prog 22, n ≤ reachBytes := fun n hn => by
    have := List.all_eq_true.1 hsz n (DataW.weights_mem_each (j := 0) (t := 22) (by rw [Tryz.params4]; rfl) rfl n hn)
    exact of_decide_eq_true this
  obtain ⟨y1, e1⟩ := arg_rep (ty := clsTy) (by kernel_rfl) h1
  have g1 := okWide_agg (Tryz.underlying29) (hval 1 29 v1 rfl rfl)
  have hz1 : ∀ n ∈ d1.weights Tryz.prog 29, n ≤ reachBytes := fun n hn => by
    have := List.all_eq_true.1 hsz n (DataW.weights_mem_each (j := 1) (t := 29) (by rw [Tryz.params4]; rfl) rfl n hn)
    exact of_decide_eq_true this
  obtain ⟨y2, e2⟩ := arg_one (ty := .int .u8) (by kernel_rfl) (by kernel_rfl) (hval 2 5 v2 rfl rfl) h2
  obtain ⟨y3, e3⟩ := arg_one (ty := .int .u8) (by kernel_rfl) (by kernel_rfl) (hval 3 5 v3 rfl rfl) h3
  clear hval
  have s0 := sysG_of h0 (sys_of e0) hz0
  have s1 := cls_of e1
  have c1 : v1 = .agg (v1.cells.toList).toArray := by rw [Array.toArray_toList]; exact g1
  clear g1
  generalize v1.cells.toList = us1 at s1 c1
  subst c1
  have s1 := clsG_of h1 s1 hz1
  obtain ⟨rfl, w2⟩ := rep_kind e2
  obtain ⟨m2, rfl⟩ := Int.eq_ofNat_of_zero_le (wf_u8 w2).1
  have b2 : m2 ≤ 255 := by have := (wf_u8 w2).2; omega
  obtain ⟨rfl, w3⟩ := rep_kind e3
  obtain ⟨m3, rfl⟩ := Int.eq_ofNat_of_zero_le (wf_u8 w3).1
  have b3 : m3 ≤ 255 := by have := (wf_u8 w3).2; omega
  refine (ct_calls (heirBack_ct s0 s1 b2 b3) fun v h' h => ⟨h.1, by rw [h.2]; exact .refl _⟩).mono fun e W' ⟨he, hk⟩ => ⟨_, he, ?_⟩
  exact law_post (tys := [.slice clsTy, clsTy, .int .u8, .int .u8]) hW' rfl (by kernel_rfl) Tryz.underlying4 (by rw [Tryz.params4]; kernel_rfl) rfl hk
theorem heirBack_holds : Rows.HeirBackSaid :=
  OpenClaim.holds_of_wide 4 Tryz.f4 rfl rfl rfl rfl rfl rfl rfl ⟨rfl, rfl, rfl, rfl, rfl⟩ rfl rfl rfl rfl rfl (by kernel_rfl) Tryz.func4 (by kernel_rfl)
    (of_decide_eq_true (by kernel_rfl)) (by unfold Func.isWrapper; first | (rw [if_pos (by decide +kernel)]; kernel_rfl) | (rw [if_neg (by decide +kernel)]; exact ⟨rfl, rfl⟩))
    (fun os started H enc _ => heirBack_lifted os started H enc)
end Go.Proofs.YtjgiaohieadeiaaGreat
