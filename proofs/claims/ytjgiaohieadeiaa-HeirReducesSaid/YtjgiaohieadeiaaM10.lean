/-
  The law's linked. Conditions: what is read.
  HeirReduces. Conditions: what is read.
  What the arguments of the laws read as: systems of classes, names. No condition.
  HeirReduces: for every input the law answers true, and the input reads as it did. No condition.
-/
import Derived.Test.YtjgiaohieadeiaaM9
import Derived.Test.YtjgiaohieadeiaaM5
import Derived.Test.YtjgiaohieadeiaaM4
import Derived.JoinedCond
import Derived.Test.YtjgiaohieadeiaaRows
set_option linter.unusedVariables false
set_option linter.unusedSimpArgs false
namespace Go.Hr
open Go Go.RowKit Go.Ck Go.Proofs Go.Proofs.Ytjgiaohieadeiaa Fx
attribute [local irreducible] Go.Ck.Sub St Cd Xt Nx DrL LsW
abbrev LRow := Nm × Value × List (List Value)
def lkrow (rs : List LRow) : Nat → Res := fun i => VR (rs.getD i ([], nlV, [])).2.1 65 6 (rs.getD i ([], nlV, [])).2.2
/-- A system that is owned: classes by names and parents alone. -/
def LkR (u : Value) (rs : List LRow) : Res := Res.star [VR u 61 7 (rs.map fun r => czC r.1 r.2.1), RS rs.length (lkrow rs)]
def PRow (pr : List (List Value)) (ps : List Nm) : Prop := pr.length = ps.length ∧ ∀ (j : Nat) us p, pr[j]? = some us → ps[j]? = some p → parC us p
theorem PRow.nil : PRow [] [] := ⟨rfl, fun j us p h => by simp at h⟩
theorem PRow.snoc {pr : List (List Value)} {ps : List Nm} {us : List Value} {p : Nm} (h : PRow pr ps) (hu : parC us p) : PRow (pr ++ [us]) (ps ++ [p]) := by
  obtain ⟨h1, h2⟩ := h
  refine ⟨by simp [h1], fun j vs q g1 g2 => ?_⟩
  rcases Nat.lt_or_ge j pr.length with hj | hj
  · rw [List.getElem?_append_left hj] at g1
    rw [List.getElem?_append_left (by omega)] at g2
    exact h2 j vs q g1 g2
  · have hje : j = pr.length := by
      have := (List.getElem?_eq_some_iff.1 g1).1
      simp at this; omega
    subst hje
    rw [List.getElem?_append_right (Nat.le_refl _)] at g1
    rw [List.getElem?_append_right (by omega), h1] at g2
    simp at g1 g2
    rw [← g1, ← g2]; exact hu
def Matches (rs : List LRow) (xs : Sys) : Prop := rs.length = xs.length ∧ ∀ (i : Nat) r x, rs[i]? = some r → xs[i]? = some x → r.1 = x.name ∧ PRow r.2.2 x.parents ∧ x.feats = 0
theorem Matches.nil : Matches [] [] := ⟨rfl, fun i r x h => by simp at h⟩
theorem Matches.snoc {rs : List LRow} {xs : Sys} {r : LRow} {x : Cls} (h : Matches rs xs) (h1 : r.1 = x.name) (h2 : PRow r.2.2 x.parents) (h3 : x.feats = 0) : Matches (rs ++ [r]) (xs ++ [x]) := by
  obtain ⟨g1, g2⟩ := h
  refine ⟨by simp [g1], fun i r' x' e1 e2 => ?_⟩
  rcases Nat.lt_or_ge i rs.length with hj | hj
  · rw [List.getElem?_append_left hj] at e1
    rw [List.getElem?_append_left (by omega)] at e2
    exact g2 i r' x' e1 e2
  · have hje : i = rs.length := by
      have := (List.getElem?_eq_some_iff.1 e1).1
      simp at this; omega
    subst hje
    rw [List.getElem?_append_right (Nat.le_refl _)] at e1
    rw [List.getElem?_append_right (by omega), g1] at e2
    simp at e1 e2
    rw [← e1, ← e2]; exact ⟨h1, h2, h3⟩
theorem lk_sys {u : Value} {rs : List LRow} {xs : Sys} (hok : ∃ f, (LkR u rs).ok f) (hm : Matches rs xs) : sysR (LkR u rs) u xs := by
  obtain ⟨f, h1, _, h2, _⟩ := hok
  refine row_vr ⟨f, h1⟩ (by simp [hm.1]) (fun p u hp => rd_in Sel.here p u hp) fun i us x g1 g2 => ?_
  have hi : i < rs.length := by have := (List.getElem?_eq_some_iff.1 g2).1; have := hm.1; omega
  rw [List.getElem?_map, List.getElem?_eq_getElem hi] at g1
  simp only [Option.map_some, Option.some.injEq] at g1
  obtain ⟨e1, e2, e3⟩ := hm.2 i rs[i] x (List.getElem?_eq_getElem hi) g2
  have hr : lkrow rs i = VR rs[i].2.1 65 6 rs[i].2.2 := by unfold lkrow; simp [hi]
  have hk := rs_ok h2 hi
  rw [hr] at hk
  have hrow : Row (VR rs[i].2.1 65 6 rs[i].2.2) 6 parC rs[i].2.1 x.parents := row_vr ⟨f, hk⟩ e2.1 (fun _ _ h => h) fun j us p a1 a2 => e2.2 j us p a1 a2
  rw [← g1, e1]
  refine ⟨.bool false, .slice none 0 0, rs[i].2.1, .slice none 0 0, none, 0, .slice none 0 0, by rw [e3]; rfl, by rw [e3]; exact czC_one (VR.one hk), hrow.mono (fun p u hp => rd_in (.there .here) p u (RS_in hi p u ?_)) fun _ _ _ h => h⟩
  rw [hr]; exact hp
theorem pv_lksnoc {rs : List LRow} {r : LRow} : ∀ t, Vw ([RS rs.length (lkrow rs), VR r.2.1 65 6 r.2.2] ++ t) ([RS (rs ++ [r]).length (lkrow (rs ++ [r]))] ++ t) := fun t w hh => by
  have h3 := pv_snoc t w hh
  have he : (List.range rs.length).map (lkrow rs) ++ [VR r.2.1 65 6 r.2.2] = (List.range (rs ++ [r]).length).map (lkrow (rs ++ [r])) := by
    rw [List.length_append, List.length_singleton, List.range_succ, List.map_append]
    congr 1
    · refine List.map_congr_left fun k hk => ?_
      have hk := List.mem_range.1 hk
      unfold lkrow
      simp only [List.getD_eq_getElem?_getD]
      rw [List.getElem?_append_left hk]
    · simp [lkrow, List.getD_eq_getElem?_getD]
  rw [he] at h3
  exact h3
def leftB (gone : List (Nm × Nm)) (q : Nm × Nm) (j : Nat) : Bool := !(gone.take j).contains q
theorem leftB_succ {gone : List (Nm × Nm)} {q : Nm × Nm} {j : Nat} (h : j < gone.length) : leftB gone q (j + 1) = (leftB gone q j && !(gone[j] == q)) := by
  unfold leftB
  rw [List.take_succ_eq_append_getElem h, List.contains_eq_any_beq, List.contains_eq_any_beq, List.any_append, Bool.not_or]
  congr 2
  simp [Bool.beq_comm]
section
variable {S G : Res} {v gv : Value} {l : Sys} {gone : List (Nm × Nm)}
set_option maxHeartbeats 2000000 in
set_option maxRecDepth 100000 in
theorem linked_ct (hv : sysR S v l) (hg : klR G gv gone) (hl : l.length ≤ 24) (hp : ∀ x ∈ l, x.parents.length ≤ 4) (hgl : gone.length ≤ 1000) : Ct Try.prog 35 #[v, gv] [S, G] fun u h' => ∃ rs, u.oneCell' = true ∧ Matches rs (cut l gone) ∧ h' = [LkR u rs, S, G] := by
  obtain ⟨la, cap, rfl, _⟩ := id hv
  obtain ⟨ga, gcp, rfl, _⟩ := id hg
  have hcl : (cut l gone).length = l.length := by simp [cut]
  refine ct_of (n := 75) Try.func35 rfl rfl (len rfl) fun hr w0 => ?_
  refine cd_seq (cd_region (st_v (v_assign rfl) (st_nil (nx_then (cd_seq (cd_region (st_v (v_assign rfl) (st_nil (nx_then (cd_seq (cd_seq (cd_region (st_v (v_assign rfl) (st_nil (nx_then (cd_block ?_))))))))))))))))
  refine cd_vw (vw_nil 61 7) (cd_vw (vw_unstar (L := [])) (cd_lq (σ := Nat × Value × List LRow) (fun q => [(0, .slice la l.length cap), (1, .slice ga gone.length gcp), (5, q.2.1), (6, .int .i64 (q.1 : Nat))]) (fun q => RS q.2.2.length (lkrow q.2.2) :: VR q.2.1 61 7 (q.2.2.map fun r => czC r.1 r.2.1) :: S :: G :: hr) (fun q => q.1 ≤ l.length ∧ q.2.1.oneCell' = true ∧ Matches q.2.2 ((cut l gone).take q.1)) (fun q => l.length - q.1) (0, .slice none 0 0, []) ⟨Nat.zero_le _, rfl, Matches.nil⟩ ?_))
  rintro ⟨i, u, rs⟩ ⟨hi, hu, hm⟩
  simp only at hi hu hm
  dsimp only
  refine cd_seq (cd_seq (cd_region (st_v (v_move rfl) (st_v (v_move rfl) (st_v (v_len rfl Try.underlying22) (st_v (v_lss rfl rfl) (st_nil (nx_kp [0, 1, 5, 6, 14] rfl (nx_then (cd_cond rfl (fun hd => ?_) (fun hd => ?_)))))))))))
  · skip
    have hil : i < l.length := by simpa using hd
    obtain ⟨b, o, cap2, d, f, pa, pc, c2, fa, fc, j2, hv2, hrd, hP, hone⟩ := sys_at hv (List.getElem?_eq_getElem hil)
    have hpl := hp _ (List.getElem_mem hil)
    have hcut : (cut l gone).take (i + 1) = (cut l gone).take i ++ [⟨(l[i]).name, (l[i]).parents.filter fun p => !gone.contains ((l[i]).name, p), 0⟩] := by
      rw [List.take_succ_eq_append_getElem (by omega)]
      simp [cut]
    generalize l[i] = x at *
    refine cd_skip (xt_then (cd_seq (cd_block (cd_seq (cd_region (st_v (v_move rfl) (st_v (v_move rfl) (st_v (v_indexAddr (k := i) (congrArg some hv2) rfl sl22 rfl hil rfl) (st_v (v_fieldAddr rfl fa61_0 rfl) (st_v (v_ldy rfl ld9) ?_))))))))))
    refine st_v (v_build (cells := czC x.name (.slice none 0 0)) rfl (fun _ => by kernel_rfl)) ?_
    unfold czC
    refine st_alc al61 fun b7 => ?_
    refine st_stoW rfl rfl sz61 rfl rfl ?_
    refine st_nil (nx_kp [0, 1, 5, 6, 7] rfl (nx_then (cd_seq (cd_seq (cd_region (st_v (v_assign rfl) (st_nil (nx_then (cd_block (cd_vw (vw_nil 65 6) (cd_lq (σ := Nat × Value × List (List Value)) (fun q => [(0, .slice la l.length cap), (1, .slice ga gone.length gcp), (5, u), (6, .int .i64 (i : Nat)), (7, .pointer (some ⟨b7, 0, none⟩)), (8, .int .i64 (q.1 : Nat))]) (fun q => pt b7 (cl [sv x.name, .bool false, .slice none 0 0, q.2.1, .slice none 0 0, .slice none 0 0, .slice none 0 0] 61) :: VR q.2.1 65 6 q.2.2 :: RS rs.length (lkrow rs) :: VR u 61 7 (rs.map fun r => czC r.1 r.2.1) :: S :: G :: hr) (fun q => q.1 ≤ x.parents.length ∧ q.2.1.oneCell' = true ∧ PRow q.2.2 ((x.parents.take q.1).filter fun p => !gone.contains (x.name, p))) (fun q => x.parents.length - q.1) (0, .slice none 0 0, []) ⟨Nat.zero_le _, rfl, PRow.nil⟩ ?_)))))))))))
    rintro ⟨k, pv, pr⟩ ⟨hk, hpv1, hpr⟩
    simp only at hk hpv1 hpr
    dsimp only
    refine cd_seq (cd_seq (cd_region (st_v (v_move rfl) (st_v (v_move rfl) (st_v (v_move rfl) (st_v (v_indexAddr (k := i) (congrArg some hv2) rfl sl22 rfl hil rfl) (st_v (v_fieldAddr rfl fa61_3 rfl) (st_v (v_ldy rfl ld57) ?_))))))))
    refine st_v (v_len rfl Try.underlying57) (st_v (v_lss rfl rfl) (st_nil (nx_kp [0, 1, 5, 6, 7, 8, 30] rfl (nx_then (cd_cond rfl (fun hd2 => ?_) (fun hd2 => ?_))))))
    · skip
      have hkl : k < x.parents.length := by simpa using hd2
      obtain ⟨pb, po, pcap, q1, q2, q3, q4, q5, hpv, hprd, hpone⟩ := par_at hP (List.getElem?_eq_getElem hkl)
      have hflt : (x.parents.take (k + 1)).filter (fun p => !gone.contains (x.name, p)) = (x.parents.take k).filter (fun p => !gone.contains (x.name, p)) ++ (if gone.contains (x.name, x.parents[k]) then [] else [x.parents[k]]) := by
        rw [List.take_succ_eq_append_getElem hkl, List.filter_append]
        congr 1
        cases hg2 : gone.contains (x.name, x.parents[k])
        · rw [List.filter_cons_of_pos (by rw [hg2]; rfl)]; rfl
        · rw [List.filter_cons_of_neg (by rw [hg2]; decide)]; rfl
      generalize x.parents[k] = pn at *
      have hprl : pr.length ≤ k := by
        rw [hpr.1]
        exact Nat.le_trans (List.length_filter_le _ _) (by rw [List.length_take]; omega)
      refine cd_skip (xt_then (cd_seq (cd_block (cd_seq (cd_region (st_v (v_assign rfl) (st_nil (nx_kp [0, 1, 5, 6, 7, 8, 9] rfl (nx_then (cd_seq (cd_seq (cd_region (st_v (v_assign rfl) (st_nil (nx_then (cd_block ?_))))))))))))))))
      refine cd_lq (σ := Nat × Bool) (fun q => [(0, .slice la l.length cap), (1, .slice ga gone.length gcp), (5, u), (6, .int .i64 (i : Nat)), (7, .pointer (some ⟨b7, 0, none⟩)), (8, .int .i64 (k : Nat)), (9, .bool q.2), (10, .int .i64 (q.1 : Nat))]) (fun _ => pt b7 (cl [sv x.name, .bool false, .slice none 0 0, pv, .slice none 0 0, .slice none 0 0, .slice none 0 0] 61) :: VR pv 65 6 pr :: RS rs.length (lkrow rs) :: VR u 61 7 (rs.map fun r => czC r.1 r.2.1) :: S :: G :: hr) (fun q => q.1 ≤ gone.length ∧ q.2 = leftB gone (x.name, pn) q.1) (fun q => gone.length - q.1) (0, true) ⟨Nat.zero_le _, rfl⟩ ?_
      rintro ⟨j, lf⟩ ⟨hj, hlf⟩
      simp only at hj hlf
      dsimp only
      refine cd_seq (cd_seq (cd_region (st_v (v_move rfl) (st_v (v_move rfl) (st_v (v_len rfl Try.underlying43) (st_v (v_lss rfl rfl) (st_nil (nx_kp [0, 1, 5, 6, 7, 8, 9, 10, 36] rfl (nx_then (cd_cond rfl (fun hd3 => ?_) (fun hd3 => ?_)))))))))))
      · skip
        have hjl : j < gone.length := by simpa using hd3
        obtain ⟨gb, go, gcap, hgv, hgrd⟩ := kl_at hg (List.getElem?_eq_getElem hjl)
        have hls := leftB_succ (q := (x.name, pn)) hjl
        refine cd_skip (xt_then (cd_seq (cd_block (cd_seq (cd_drawh (ork [(0, 2), (1, 2), (2, 2), (3, 1), (4, 2), (5, 1), (6, 2), (7, 2), (8, 2), (9, 2), (10, 1), (11, 2), (12, 2), (13, 2), (14, 1), (15, 2), (16, 1)] .nil) (fun _ => true) mixed (by kernel_rfl) ?_)))))
        refine dp_v rfl (v_move rfl) (dp_v rfl (v_move rfl) (dp_v rfl (v_indexAddr (k := j) (congrArg some hgv) rfl sl43 rfl hjl rfl) (dr_v rfl (v_ldn rfl ld73 rfl hgrd) ?_)))
        refine dp_v rfl (v_fieldAddr rfl fa61_0 rfl) (dr_v rfl (v_ldy rfl ld9) ?_)
        refine dp_v rfl (v_move rfl) (dp_v rfl (v_move rfl) (dp_v rfl (v_indexAddr (k := i) (congrArg some hv2) rfl sl22 rfl hil rfl) (dp_v rfl (v_fieldAddr rfl fa61_3 rfl) (dr_v rfl (v_ldy rfl ld57) ?_))))
        refine dp_v rfl (v_move rfl) (dp_v rfl (v_indexAddr (k := k) (congrArg some hpv) rfl sl57 rfl hkl rfl) (dp_v rfl (v_fieldAddr rfl fa65_0 rfl) (dr_v rfl (v_ldy rfl ld9) ?_)))
        refine dp_v rfl (v_build (cells := [sv x.name, sv pn]) rfl (fun _ => by kernel_rfl)) ?_
        refine dr_v rfl (v_eql_two eqs73 rfl rfl) (dr_nil (nx_kp [0, 1, 5, 6, 7, 8, 9, 10, 55] rfl (nx_then ?_)))
        rw [pair_beq (p := gone[j]) (q := (x.name, pn))]
        refine cd_cond rfl (fun he => ?_) (fun he => ?_)
        · skip
          refine cd_region (st_v (v_assign rfl) (st_nil (nx_kp [0, 1, 5, 6, 7, 8, 9, 10] rfl (nx_xt (xt_normal_block (xt_then (cd_region (st_v (v_move rfl) (st_v (v_add rfl rfl (by unfold I64 at *; omega)) (st_v (v_assign rfl) (st_nil (nx_kp [0, 1, 5, 6, 7, 8, 9, 10] rfl (nx_xt ?_)))))))))))))
          refine xt_aq (j + 1, false) ⟨hjl, by show false = _; rw [hls, he]; simp⟩ (by show _ - _ < _ - _; omega)
        · skip
          refine cd_skip (xt_normal_block (xt_then (cd_region (st_v (v_move rfl) (st_v (v_add rfl rfl (by unfold I64 at *; omega)) (st_v (v_assign rfl) (st_nil (nx_kp [0, 1, 5, 6, 7, 8, 9, 10] rfl (nx_xt ?_)))))))))
          refine xt_aq (j + 1, lf) ⟨hjl, by show lf = _; rw [hls, he, hlf]; simp⟩ (by show _ - _ < _ - _; omega)
      · skip
        have hje : j = gone.length := by have : ¬ j < gone.length := by simpa using hd3
                                         omega
        rw [hje] at hlf
        unfold leftB at hlf
        rw [List.take_length] at hlf
        refine cd_exit (xt_exit_then (xt_exit_then (xt_exit_block (xt_then (cd_seq (cd_region (st_v (v_move rfl) (st_nil (nx_kp [0, 1, 5, 6, 7, 8, 56] rfl (nx_then (cd_cond rfl (fun hlt => ?_) (fun hlt => ?_))))))))))))
        · skip
          rw [hlt] at hlf
          have hgc : gone.contains (x.name, pn) = false := by simpa using hlf.symm
          rw [hgc, if_neg (by decide)] at hflt
          refine cd_drawh (ork [(0, 2), (1, 1), (2, 2), (3, 2), (4, 2), (5, 2), (6, 1), (7, 2), (8, 2), (9, 1), (10, 0), (11, 0), (12, 2), (13, 0)] .nil) (fun i => !(Nat.beq i 11 || Nat.beq i 13)) mixed (by kernel_rfl) ?_
          refine dp_v rfl (v_fieldAddr rfl fa61_3 rfl) (dr_v rfl (v_ldy rfl ld57) ?_)
          refine dp_v rfl (v_move rfl) (dp_v rfl (v_move rfl) (dp_v rfl (v_indexAddr (k := i) (congrArg some hv2) rfl sl22 rfl hil rfl) (dp_v rfl (v_fieldAddr rfl fa61_3 rfl) (dr_v rfl (v_ldy rfl ld57) ?_))))
          refine dp_v rfl (v_move rfl) (dp_v rfl (v_indexAddr (k := k) (congrArg some hpv) rfl sl57 rfl hkl rfl) (dr_v rfl (v_ldn rfl ld65 rfl hprd) ?_))
          refine dr_eff rfl (st_buildSlice (cells := [sv pn, q1, q2, q3, q4, q5]) rfl Try.underlying57 inf65 rfl rfl (by kernel_rfl) (ltn rfl) fun b67 => dr_nx ?_)
          refine dr_eff rfl (st_app [[sv pn, q1, q2, q3, q4, q5]] rfl rfl Try.underlying57 inf65 rfl (by decide) (show Sel _ (VR pv 65 6 pr) _ from (by repeat (first | exact Sel.here | apply Sel.there))) (by simp) rfl (fun j u2 hu2 => at_here (rd_cl (by simpa using hu2))) (by simpa using hpone) (by omega) (by omega) (ltn rfl) fun w3 hw3 _ => dr_nx ?_)
          refine dp_v rfl (v_fieldAddr rfl fa61_3 rfl) (dr_eff rfl (st_sto rfl rfl sz57 (dr_nx ?_)))
          refine dr_nil (nx_kp [0, 1, 5, 6, 7, 8] rfl (nx_xt (xt_normal_block (xt_then (cd_region (st_v (v_move rfl) (st_v (v_add rfl rfl (by unfold I64 at *; omega)) (st_v (v_assign rfl) (st_nil (nx_kp [0, 1, 5, 6, 7, 8] rfl (nx_xt ?_)))))))))))
          refine xt_aq (k + 1, w3, pr ++ [[sv pn, q1, q2, q3, q4, q5]]) ⟨hkl, hw3, by show PRow _ (List.filter _ (x.parents.take (k + 1))); rw [hflt]; exact hpr.snoc ⟨_, _, _, _, _, rfl, hpone⟩⟩ (by show _ - _ < _ - _; omega)
        · skip
          rw [hlt] at hlf
          have hgc : gone.contains (x.name, pn) = true := by simpa using hlf.symm
          rw [hgc, if_pos rfl, List.append_nil] at hflt
          refine cd_skip (xt_normal_block (xt_then (cd_region (st_v (v_move rfl) (st_v (v_add rfl rfl (by unfold I64 at *; omega)) (st_v (v_assign rfl) (st_nil (nx_kp [0, 1, 5, 6, 7, 8] rfl (nx_xt ?_)))))))))
          refine xt_aq (k + 1, pv, pr) ⟨hkl, hpv1, by show PRow _ (List.filter _ (x.parents.take (k + 1))); rw [hflt]; exact hpr⟩ (by show _ - _ < _ - _; omega)
    · skip
      have hke : k = x.parents.length := by have : ¬ k < x.parents.length := by simpa using hd2
                                            omega
      rw [hke, List.take_length] at hpr
      have hrl : rs.length ≤ 24 := by
        rw [hm.1, List.length_take]; omega
      refine cd_exit (xt_exit_then (xt_exit_then (xt_exit_block (xt_then (cd_region (st_v (v_move rfl) (st_v (v_ldn rfl ld61 rfl rds_pt) ?_)))))))
      refine st_buildSlice (cells := czC x.name pv) rfl Try.underlying22 inf61 rfl rfl (by kernel_rfl) (ltn rfl) fun b72 => ?_
      refine st_app [czC x.name pv] rfl rfl Try.underlying22 inf61 rfl (by decide) (show Sel _ (VR u 61 7 (rs.map fun r => czC r.1 r.2.1)) _ from (by repeat (first | exact Sel.here | apply Sel.there))) (by simp [czC]) rfl (fun j u2 hu2 => at_here (rd_cl (by simpa using hu2))) (by simpa using czC_one hpv1) (by rw [List.length_map]; omega) (by rw [List.length_map]; omega) (ltn rfl) fun w3 hw3 _ => ?_
      rw [show (rs.map fun r => czC r.1 r.2.1) ++ [czC x.name pv] = (rs ++ [((x.name, pv, pr) : LRow)]).map fun r => czC r.1 r.2.1 by simp]
      refine st_v (v_assign rfl) (st_nil (nx_kp [0, 1, 5, 6] rfl (nx_xt (xt_normal_block (xt_then (cd_region (st_v (v_move rfl) (st_v (v_add rfl rfl (by unfold I64 at *; omega)) (st_v (v_assign rfl) (st_nil (nx_kp [0, 1, 5, 6] rfl (nx_xt (xt_pv (pv_lksnoc (rs := rs) (r := (x.name, pv, pr))) ?_)))))))))))))
      refine xt_aq (i + 1, w3, rs ++ [(x.name, pv, pr)]) ⟨hil, hw3, by show Matches _ ((cut l gone).take (i + 1)); rw [hcut]; exact hm.snoc rfl hpr rfl⟩ (by show _ - _ < _ - _; omega)
  · skip
    have hie : i = l.length := by have : ¬ i < l.length := by simpa using hd
                                  omega
    rw [hie, ← hcl, List.take_length] at hm
    refine cd_exit (xt_exit_then (xt_exit_then (xt_exit_block (xt_then (cd_seq (cd_region (st_v (v_move rfl) (st_v (v_assign rfl) (st_nil (nx_kp [4] rfl (nx_then (cd_ret (xt_pv (pv_pack (L := [VR u 61 7 (rs.map fun r => czC r.1 r.2.1), RS rs.length (lkrow rs)])) ?_)))))))))))))
    exact xt_rt rfl ⟨rs, hu, hm, rfl⟩ (by (repeat (refine Sub.sel (by repeat (first | exact Sel.here | apply Sel.there)) ?_)); (repeat apply Sub.cons); first | exact Sub.refl _ | exact Sub.nil _)
end
end Go.Hr
namespace Go.Hr
open Go Go.RowKit Go.Ck Go.Proofs Go.Proofs.Ytjgiaohieadeiaa Fx
attribute [local irreducible] Go.Ck.Sub St Cd Xt Nx DrL LsW
theorem needless_len {l : Sys} (hR : Right l) : (needless l).length ≤ 96 := by
  rw [← preN_all]
  have h1 := preN_len hR l.length
  have h2 := hR.len
  omega
theorem has_less {l : Sys} (hR : Right l) (c a : Nm) : has (cut l (needless l)) c a = has l c a := by
  rw [Bool.eq_iff_iff]
  exact ⟨has_cut, has_spare hR.acyc c⟩
theorem rightB_cut {l : Sys} (hR : Right l) (h0 : 0 < l.length) (gone : List (Nm × Nm)) : rightB (cut l gone) = true := rightB_iff.2 ⟨hR.cut gone, by simpa [cut] using h0⟩
theorem spare_link {l : Sys} (hR : Right l) {c p : Nm} (hp : p ∈ par l c) : (needless l).any (fun q => q == (c, p)) = has (cut l [(c, p)]) c p := by
  rw [Bool.eq_iff_iff, ← needless_iff hR.acyc hp, List.any_eq_true]
  constructor
  · rintro ⟨q, h1, h2⟩
    rw [beq_iff_eq] at h2
    rw [← h2]; exact h1
  · intro h
    exact ⟨_, h, beq_self_eq_true _⟩
section
variable {S : Res} {v nv : Value} {l : Sys} {ns : List Nm}
set_option maxHeartbeats 2000000 in
set_option maxRecDepth 100000 in
theorem heirReduces_ct (hv : sysR S v l) {i j k : Nat} (hi : i ≤ 255) (hj : j ≤ 255) (hk : k ≤ 255) : Ct Try.prog 8 #[v, .int .u8 (i : Int), .int .u8 (j : Int), .int .u8 (k : Int)] [S] fun u h' => u = .bool true ∧ h' = [S] := by
  obtain ⟨la, cap, rfl, _⟩ := id hv
  refine ct_of (n := 110) Try.func8 rfl rfl (len rfl) fun hr w0 => ?_
  refine cd_seq (cd_region (st_v (v_assign rfl) (st_nil (nx_then (cd_seq (cd_seq (cd_region (st_v (v_move rfl) (st_clr rfl rfl en29 rfl (rightR hv) ?_)))))))))
  refine st_v (v_not rfl) (st_nil (nx_kp [0, 1, 2, 3, 8, 20] rfl (nx_then (cd_cond rfl (fun hrg => ?_) (fun hrg => ?_)))))
  · skip
    refine cd_seq (cd_region (st_clr rfl rfl en15 rfl (sanityR) ?_))
    refine st_v (v_assign rfl) (st_nil (nx_kp [8] rfl (nx_then (cd_ret (xt_ret_then (xt_law rfl ?_))))))
    refine Sub.sel (by repeat (first | exact Sel.here | apply Sel.there)) ?_
    repeat apply Sub.cons
    exact Sub.refl _
  · skip
    have hrg : rightB l = true := by simpa using hrg
    obtain ⟨hR, h0⟩ := rightB_iff.1 hrg
    have hFl := hR.len
    have hNl := needless_len hR
    have hcut := hR.cut (needless l)
    have hclen : (cut l (needless l)).length = l.length := by simp [cut]
    refine cd_skip (xt_then (cd_seq (cd_region (st_v (v_move rfl) (st_cl rfl rfl en24 rfl (Needless_ct hv) ?_)))))
    rintro u h' ⟨T, rfl, w9, rfl, hw9, rfl⟩
    rw [right0 hR, okL_eq rfl]
    simp only [List.cons_append, List.nil_append]
    refine st_ok (r := KR w9 (needless l)) (by repeat (first | exact Sel.here | apply Sel.there)) fun hok9 => ?_
    have hno9 := kl_own hok9
    obtain ⟨na, ncp, rfl, _⟩ := id hno9
    refine st_v (v_move rfl) (st_v (v_extract rfl rfl) (st_v (v_extract rfl rfl) (st_v (v_assign rfl) (st_v (v_assign rfl) (st_nil (nx_kp [0, 1, 2, 3, 8, 9, 10] rfl (nx_then (cd_seq (cd_region (st_v (v_move rfl) (st_v (v_move rfl) (st_cl rfl rfl en35 rfl (linked_ct hv hno9 hFl hR.few (by omega)) ?_))))))))))))
    rintro u11 h' ⟨rs, hu11, hm11, rfl⟩
    simp only [List.cons_append, List.nil_append]
    refine st_ok (r := LkR u11 rs) (by repeat (first | exact Sel.here | apply Sel.there)) fun hok11 => ?_
    have hv2 := lk_sys hok11 hm11
    refine st_v (v_assign rfl) (st_nil (nx_kp [0, 1, 2, 3, 8, 9, 10, 11] rfl (nx_then (cd_seq (cd_region (st_v (v_move rfl) (st_v (v_move rfl) (st_clr rfl rfl en30 rfl (name_ct hv h0 (by omega) hi) ?_))))))))
    refine st_v (v_assign rfl) (st_nil (nx_kp [0, 1, 2, 3, 8, 9, 10, 11, 12] rfl (nx_then (cd_seq (cd_region (st_v (v_move rfl) (st_v (v_move rfl) (st_clr rfl rfl en30 rfl (name_ct hv h0 (by omega) hj) ?_))))))))
    refine st_v (v_assign rfl) (st_nil (nx_kp [0, 1, 3, 8, 9, 10, 11, 12, 13] rfl (nx_then (cd_seq (cd_seq (cd_region (st_v (v_move rfl) (st_v (v_neq rfl rfl) (st_v (v_move rfl) ?_)))))))))
    have hcC := nmAt_isC h0 i
    have haC := nmAt_isC h0 j
    have hcC2 : isC (cut l (needless l)) (nmAt l i) = true := by rw [isC_cut]; exact hcC
    have haC2 : isC (cut l (needless l)) (nmAt l j) = true := by rw [isC_cut]; exact haC
    refine st_vg rfl rfl (v_move rfl) (st_clrg rfl rfl rfl rfl en29 rfl (rightR hv2) ?_)
    rw [rightB_cut hR h0]
    refine st_vg rfl rfl (v_not rfl) (st_v (v_pick_false rfl rfl) (st_v (v_move rfl) (st_vg rfl rfl (v_move rfl) (st_vg rfl rfl (v_move rfl) (st_vg rfl rfl (v_move rfl) (st_clrg rfl rfl rfl rfl en32 rfl (is_ct hv hR hcC haC) ?_))))))
    refine st_vg rfl rfl (v_move rfl) (st_vg rfl rfl (v_move rfl) (st_vg rfl rfl (v_move rfl) (st_clrg rfl rfl rfl rfl en32 rfl (is_ct hv2 hcut hcC2 haC2) ?_)))
    rw [has_less hR]
    refine st_vg rfl rfl (v_neq_bool Try.underlying4 rfl rfl) ?_
    rw [beq_self_eq_true]
    refine st_v (v_pick_false rfl rfl) (st_nil (nx_kp [0, 1, 3, 8, 9, 53] rfl (nx_then (cd_false rfl ?_))))
    refine cd_skip (xt_then (cd_seq (cd_region (st_v (v_move rfl) (st_v (v_move rfl) ?_)))))
    have hlt := Nat.mod_lt i h0
    obtain ⟨b, o, cap2, d, f, pa, pc, c2, fa, fc, j2, hvl, hrd, hP, hone⟩ := sys_at hv (clAt_get h0 i)
    have hxm := clAt_mem h0 i
    have hpar := hR.par_eq hxm
    have hpf := hR.few _ hxm
    have hpall := hR.all _ hxm
    have hxC : isC l (clAt l i).name = true := hcC
    generalize clAt l i = x at *
    refine st_v (v_conv rfl Try.underlying5 Try.underlying3 (wrap_small hi)) (st_v (v_move rfl) (st_v (v_len rfl Try.underlying22) (st_v (v_rem rfl rfl (by omega) (by rw [tmod_nat]; exact I64.wrap (by unfold I64; omega))) ?_)))
    refine st_v (v_indexAddr (k := i % l.length) (congrArg some hvl) rfl sl22 (tmod_nat i l.length) hlt rfl) (st_v (v_ldn rfl ld61 rfl hrd) ?_)
    refine st_alc al61 fun b14 => ?_
    refine st_stoW rfl rfl sz61 rfl hone ?_
    refine st_nil (nx_kp [0, 3, 8, 9, 14] rfl (nx_then (cd_seq (cd_seq (cd_region (st_v (v_fieldAddr rfl fa61_3 rfl) (st_v (v_ldy rfl ld57) ?_)))))))
    refine st_v (v_len rfl Try.underlying57) (st_v (v_eql rfl rfl) (st_nil (nx_kp [0, 3, 8, 9, 14, 65] rfl (nx_then (cd_cond rfl (fun hp0 => ?_) (fun hp0 => ?_))))))
    · skip
      refine cd_seq (cd_region (st_clr rfl rfl en15 rfl (sanityR) ?_))
      refine st_v (v_assign rfl) (st_nil (nx_kp [8] rfl (nx_then (cd_ret (xt_ret_then (xt_law rfl ?_))))))
      refine Sub.sel (by repeat (first | exact Sel.here | apply Sel.there)) ?_
      repeat apply Sub.cons
      exact Sub.refl _
    · skip
      have hp0 : 0 < x.parents.length := by
        have : ((x.parents.length : Int) == 0) = false := hp0
        rw [beq_eq_false_iff_ne] at this
        omega
      have hklt := Nat.mod_lt k hp0
      obtain ⟨pb, po, pcap, q1, q2, q3, q4, q5, hpv, hprd, hpone⟩ := par_at hP (getD_of [] hklt)
      have hpm : x.parents.getD (k % x.parents.length) [] ∈ x.parents := List.mem_of_getElem? (getD_of [] hklt)
      generalize x.parents.getD (k % x.parents.length) [] = pn at *
      have hpp : pn ∈ par l x.name := by rw [hpar]; exact hpm
      have hsl := spare_link hR hpp
      have hpC := par_isC hpp
      refine cd_skip (xt_then (cd_seq (cd_drawh (ork [(0, 2), (1, 1), (2, 2), (3, 1), (4, 2), (5, 1), (6, 2), (7, 1), (8, 2), (9, 2), (10, 2), (11, 2), (12, 1), (13, 2), (14, 0), (15, 0)] .nil) (fun i => !(Nat.beq i 15)) mixed (by kernel_rfl) ?_)))
      refine dp_v rfl (v_fieldAddr rfl fa61_0 rfl) (dr_v rfl (v_ldy rfl ld9) ?_)
      refine dp_v rfl (v_fieldAddr rfl fa61_3 rfl) (dr_v rfl (v_ldy rfl ld57) ?_)
      refine dp_v rfl (v_move rfl) (dr_v rfl (v_conv rfl Try.underlying5 Try.underlying3 (wrap_small hk)) (dp_v rfl (v_fieldAddr rfl fa61_3 rfl) (dr_v rfl (v_ldy rfl ld57) ?_)))
      refine dp_v rfl (v_len rfl Try.underlying57) (dp_v rfl (v_rem rfl rfl (by omega) (by rw [tmod_nat]; exact I64.wrap (by unfold I64; omega))) ?_)
      refine dp_v rfl (v_indexAddr (k := k % x.parents.length) (congrArg some hpv) rfl sl57 (tmod_nat k x.parents.length) hklt rfl) (dp_v rfl (v_fieldAddr rfl fa65_0 rfl) (dr_v rfl (v_ldy rfl ld9) ?_))
      refine dp_v rfl (v_build (cells := [sv x.name, sv pn]) rfl (fun _ => by kernel_rfl)) ?_
      refine dr_eff rfl (st_alc al73 fun b15 => dr_nx ?_)
      refine dr_eff rfl (st_stoW rfl rfl sz73 rfl rfl (dr_nx ?_))
      refine dr_nil (nx_kp [0, 8, 9, 15] rfl (nx_then (cd_seq (cd_region (st_v (v_assign rfl) (st_nil (nx_then (cd_seq (cd_seq (cd_region (st_v (v_assign rfl) (st_nil (nx_then (cd_block (cd_lq (σ := Nat) (fun y => [(0, .slice la l.length cap), (9, .slice na (needless l).length ncp), (15, .pointer (some ⟨b15, 0, none⟩)), (16, .bool (((needless l).take y).any fun q => q == (x.name, pn))), (17, .int .i64 (y : Nat))]) (fun _ => KR (.slice na (needless l).length ncp) (needless l) :: pt b15 (cl [sv x.name, sv pn] 73) :: S :: hr) (fun y => y ≤ (needless l).length) (fun y => (needless l).length - y) 0 (Nat.zero_le _) ?_)))))))))))))))
      rintro y hy
      refine cd_seq (cd_seq (cd_region (st_v (v_move rfl) (st_v (v_move rfl) (st_v (v_len rfl Try.underlying43) (st_v (v_lss rfl rfl) (st_nil (nx_kp [0, 9, 15, 16, 17, 84] rfl (nx_then (cd_cond rfl (fun hd => ?_) (fun hd => ?_)))))))))))
      · skip
        have hyl : y < (needless l).length := by simpa using hd
        obtain ⟨yb, yo, ycap, hyv, hyrd⟩ := kl_at hno9 (List.getElem?_eq_getElem hyl)
        have hsn : ((needless l).take (y + 1)).any (fun q => q == (x.name, pn)) = (((needless l).take y).any (fun q => q == (x.name, pn)) || ([(needless l)[y].1, (needless l)[y].2] == [x.name, pn])) := by
          rw [List.take_succ_eq_append_getElem hyl, List.any_append, pair_beq (q := (x.name, pn))]; simp
        refine cd_skip (xt_then (cd_seq (cd_block (cd_drawh (ork [(0, 2), (1, 2), (2, 2), (3, 2), (4, 2), (5, 1), (6, 1), (7, 1), (8, 2), (9, 2)] .nil) (fun _ => true) mixed (by kernel_rfl) ?_))))
        refine dp_v rfl (v_move rfl) (dp_v rfl (v_move rfl) (dr_cut (k := 7) (d := 95) (v := .bool ((((needless l).take y).any fun q => q == (x.name, pn)) || ([(needless l)[y].1, (needless l)[y].2] == [x.name, pn]))) (fun hcut => bool_want (b := (((needless l).take y).any fun q => q == (x.name, pn))) false (fun hg => ?_) (fun hg => ?_)) ?_))
        · refine dp_sk rfl rfl rfl hg ?_
          refine dp_sk rfl rfl rfl hg ?_
          refine dp_sk rfl rfl rfl hg ?_
          refine dr_sk rfl rfl rfl hg ?_
          refine dr_sk rfl rfl rfl hg ?_
          refine dr_sk rfl rfl rfl hg ?_
          refine dp_v rfl (v_pick_true (bool_ev rfl hg) rfl) ?_
          exact hcut _ (ssub_head (by first | rfl | (rw [hg]; rfl) | simp_all) (ssub_skip rfl (ssub_skip rfl (ssub_skip rfl (ssub_skip rfl (ssub_skip rfl (ssub_skip rfl (ssub_refl))))))))
        · skip
          refine dp_vg rfl rfl (bool_get rfl hg) (v_move rfl) (dp_vg rfl rfl (bool_get rfl hg) (v_move rfl) (dp_vg rfl rfl (bool_get rfl hg) (v_indexAddr (k := y) (congrArg some hyv) rfl sl43 rfl hyl rfl) (dr_vg rfl rfl (bool_get rfl hg) (v_ldn rfl ld73 rfl hyrd) ?_)))
          refine dr_vg rfl rfl (bool_get rfl hg) (v_ldn rfl ld73 rfl rds_pt) ?_
          refine dr_vg rfl rfl (bool_get rfl hg) (v_eql_two eqs73 rfl rfl) (dp_v rfl (v_pick_false (bool_ev rfl hg) rfl) ?_)
          exact hcut _ (ssub_head (by first | rfl | (rw [hg]; rfl) | simp_all) (ssub_skip rfl (ssub_skip rfl (ssub_skip rfl (ssub_skip rfl (ssub_skip rfl (ssub_skip rfl (ssub_refl))))))))
        rw [← hsn]
        refine dp_v rfl (v_assign rfl) (dr_nil (nx_kp [0, 9, 15, 16, 17] rfl (nx_xt (xt_normal_block (xt_then (cd_region (st_v (v_move rfl) (st_v (v_add rfl rfl (by unfold I64 at *; omega)) (st_v (v_assign rfl) (st_nil (nx_kp [0, 9, 15, 16, 17] rfl (nx_xt ?_))))))))))))
        refine xt_aq (y + 1) hyl (by show _ - _ < _ - _; omega)
      · skip
        have hye : y = (needless l).length := by have : ¬ y < (needless l).length := by simpa using hd
                                                 omega
        rw [hye, List.take_length, hsl]
        refine cd_exit (xt_exit_then (xt_exit_then (xt_exit_block (xt_then (cd_seq (cd_drawh (ork [(0, 1), (1, 2), (2, 2), (3, 2), (4, 1), (7, 2), (8, 1), (9, 2), (10, 1), (5, 0), (6, 0), (11, 0), (12, 1), (13, 2), (14, 2)] .nil) (fun i => !(Nat.beq i 11)) mixed (by kernel_rfl) ?_))))))
        have hcut2 := hR.cut [(x.name, pn)]
        have hxC2 : isC (cut l [(x.name, pn)]) x.name = true := by rw [isC_cut]; exact hxC
        have hpC2 : isC (cut l [(x.name, pn)]) pn = true := by rw [isC_cut]; exact hpC
        refine dr_clr rfl rfl rfl en15 rfl (sanityR) ?_
        refine dp_v rfl (v_move rfl) (dp_vg rfl rfl rfl (v_move rfl) (dp_vg rfl rfl rfl (v_move rfl) (dr_vg rfl rfl rfl (v_ldn rfl ld73 rfl rds_pt) ?_)))
        refine dp_vg rfl rfl rfl (v_fieldAddr rfl fa73_0 rfl) (dr_vg rfl rfl rfl (v_ldy rfl ld9) ?_)
        refine dp_vg rfl rfl rfl (v_fieldAddr rfl fa73_1 rfl) (dr_vg rfl rfl rfl (v_ldy rfl ld9) ?_)
        refine dr_effg rfl rfl rfl (st_grd rfl rfl (st_buildSlice (cells := [sv x.name, sv pn]) rfl Try.underlying43 inf73 rfl rfl (by kernel_rfl) (ltn rfl) fun b101 => ?_))
        refine st_pv (pv_of (b := b101) (n := 1) (sz := 2) (E := 73) [lkC (x.name, pn)] rfl (by simp [lkC]) rfl (by decide)) ?_
        simp only [List.cons_append, List.nil_append]
        refine st_ok (r := KR (.slice (some ⟨b101, 0, none⟩) 1 1) [(x.name, pn)]) (by repeat (first | exact Sel.here | apply Sel.there)) fun hok101 => ?_
        refine dr_nx ?_
        refine dr_effg rfl rfl rfl (st_grd rfl rfl (st_cl rfl rfl en35 rfl (linked_ct hv (kl_own hok101) hFl hR.few (by simp)) ?_))
        rintro u12 h' ⟨rs2, hu12, hm12, rfl⟩
        simp only [List.cons_append, List.nil_append]
        refine st_ok (r := LkR u12 rs2) (by repeat (first | exact Sel.here | apply Sel.there)) fun hok12 => ?_
        have hv3 := lk_sys hok12 hm12
        refine dr_nx ?_
        refine dr_effg rfl rfl rfl (st_grd rfl rfl (st_cl rfl rfl en32 rfl (is_ct hv3 hcut2 hxC2 hpC2) ?_))
        rintro u h' ⟨rfl, rfl⟩
        simp only [List.cons_append, List.nil_append]
        refine dr_nx ?_
        refine dr_vg rfl rfl rfl (v_eql_bool Try.underlying4 rfl rfl) ?_
        rw [beq_self_eq_true]
        refine dp_v rfl (v_pick_true rfl rfl) (dp_v rfl (v_assign rfl) (dr_nil (nx_kp [8] rfl (nx_then (cd_ret (xt_law rfl ?_))))))
        refine Sub.sel (by repeat (first | exact Sel.here | apply Sel.there)) ?_
        repeat apply Sub.cons
        exact Sub.refl _
end
end Go.Hr
namespace Go.Ck
open Go Go.RowKit Go.ChangeShapes Go.WideShapes
theorem cells_one {v : Value} (h : v.oneCell' = true) : v.cells.toList = [v] := by
  cases v <;> first | rfl | (simp [Value.oneCell'] at h)
/-- An argument of one cell. -/
theorem arg_one {H : Type} {enc : TypeId × Value → H} {P : Program} {W : World} {ty : Ty} {t : TypeId} {v : Value} {d : DataW H} {ps : List MemPlace} {b : Nat} (hf : fitB P ty t = true)
    (hs : (match P.underlying t with | some (.struct _) | some (.array _ _) => false | some _ => true | none => false) = true) (hv : Value.okWide P W .any b t v) (h : DataW.Trod enc P W 0 (fun _ => true) true t v d ps) : ∃ y, Rep (old W) ty [v] y := by
  have := arg_rep hf h
  rwa [cells_one (okWide_one hs hv)] at this
theorem rep_kind {k : IntKind} {r : Res} {v : Value} {n : Int} (h : Rep r (.int k) [v] n) : v = .int k n ∧ (Lit.int k n).wf = true := by
  simp only [Rep] at h
  exact ⟨by simpa using h.1, h.2⟩
theorem wf_I64 {n : Int} (h : (Lit.int .i64 n).wf = true) : I64 n := by
  unfold Lit.wf at h
  simp [IntKind.min, IntKind.max, IntKind.signed, IntKind.bits] at h
  unfold I64; omega
theorem wf_u8 {n : Int} (h : (Lit.int .u8 n).wf = true) : 0 ≤ n ∧ n < 256 := by
  unfold Lit.wf at h
  simp [IntKind.min, IntKind.max, IntKind.signed, IntKind.bits] at h
  omega
/-- A slice is a row. -/
theorem row_of {α : Type} {r : Res} {t : Ty} {v : Value} (f : t.D → α) (X : List Value → α → Prop) (hX : ∀ us x, Rep r t us x → X us (f x)) {y : (Ty.slice t).D} (h : Rep r (.slice t) [v] y) : Row r t.sz X v ((show List t.D from y).map f) := by
  unfold Rep at h
  obtain ⟨a, cap, h1, hl, hm, hn, h2⟩ := h
  refine ⟨a, cap, by rw [List.length_map]; exact (List.cons.inj h1).1, by rw [List.length_map]; exact hl, hm, hn, fun i x hi => ?_⟩
  rw [List.getElem?_map] at hi
  cases hy : (show List t.D from y)[i]? with
  | none => rw [hy] at hi; cases hi
  | some z =>
    rw [hy] at hi
    obtain rfl := Option.some.inj hi
    rcases h2 with h0 | ⟨b, o, h3, h4⟩
    · rw [show (show List t.D from y) = [] from h0] at hy; simp at hy
    · obtain ⟨us, h5, h6, h7⟩ := h4 i z hy
      exact ⟨b, o, us, h3, h5, h6, hX _ _ h7⟩
theorem row_all {r : Res} {t : Ty} {v : Value} {φ : t.D → Prop} (hX : ∀ us x, Rep r t us x → φ x) {y : (Ty.slice t).D} (h : Rep r (.slice t) [v] y) : ∀ x ∈ (show List t.D from y), φ x := fun x hx => by
  unfold Rep at h
  obtain ⟨a, cap, h1, hl, hm, hn, h2⟩ := h
  obtain ⟨i, hi⟩ := List.getElem?_of_mem hx
  rcases h2 with h0 | ⟨b, o, h3, h4⟩
  · rw [show (show List t.D from y) = [] from h0] at hi; simp at hi
  · obtain ⟨us, h5, h6, h7⟩ := h4 i x hi
    exact hX _ _ h7
theorem one_cell {us : List Value} (h : us.length = 1) : ∃ u, us = [u] := by
  match us, h with
  | [u], _ => exact ⟨u, rfl⟩
end Go.Ck
namespace Go.Hr
open Go Go.RowKit Go.ChangeShapes Go.WideShapes Go.Ck
/-- The types that the parts that nobody looks at are made of. -/
def partL : List TypeId := [3, 4, 9, 25, 59, 62, 185, 186, 188, 189, 191, 192, 194, 196, 198, 201, 203]
def parTy : Ty := .struct [.str, .slice (.any 5 partL), .slice (.any 2 partL), .slice .str, .slice .str, .slice .str]
def clsTy : Ty := .struct [.str, .bool, .slice (.any 2 partL), .slice parTy, .slice .str, .slice (.any 15 partL), .slice (.any 5 partL)]
def nmOf (s : ByteArray) : Nm := s.data.toList
def parOf (x : parTy.D) : Nm := nmOf (show ByteArray from x.1)
def clsOf (x : clsTy.D) : Cls := ⟨nmOf (show ByteArray from x.1), (show List parTy.D from x.2.2.2.1).map parOf, (show List Unit from x.2.2.2.2.2.1).length⟩
def sysOf (y : (Ty.slice clsTy).D) : Sys := (show List clsTy.D from y).map clsOf
theorem slice_val {r : Res} {t : Ty} {a : Value} {y : List t.D} (h : ∃ (ad : Option Addr) (cap : Nat), [a] = [Value.slice ad (List.length y) cap] ∧ List.length y ≤ cap ∧ cap ≤ maxLen ∧ (ad = none → cap = 0) ∧
      (y = ([] : List t.D) ∨ ∃ b o, ad = some ⟨b, o, none⟩ ∧ ∀ (i : Nat) (x : t.D), @getElem? (List t.D) Nat t.D _ _ y i = some x → ∃ us : List Value, us.length = t.sz ∧ Rds r b (o + i * t.sz) us ∧ Rep r t us x)) : ∃ (ad : Option Addr) (cap : Nat), a = Value.slice ad (List.length y) cap := by
  obtain ⟨ad, cap, h1, _⟩ := h
  exact ⟨ad, cap, (List.cons.inj h1).1⟩
theorem str_val {r : Res} {us : List Value} {x : ByteArray} (h : us = [Value.string x] ∧ x.size ≤ maxLen) : us = [sv (nmOf x)] := h.1
theorem parC_of {r : Res} {us : List Value} {x : parTy.D} (h : Rep r parTy us x) : parC us (parOf x) := by
  obtain ⟨x1, x2, x3, x4, x5, x6, x7⟩ := x
  simp only [parTy, Rep, Reps] at h
  obtain ⟨u1, us1, e1, l1, r1, h⟩ := h
  obtain ⟨u2, us2, e2, l2, r2, h⟩ := h
  obtain ⟨u3, us3, e3, l3, r3, h⟩ := h
  obtain ⟨u4, us4, e4, l4, r4, h⟩ := h
  obtain ⟨u5, us5, e5, l5, r5, h⟩ := h
  obtain ⟨u6, us6, e6, l6, r6, h⟩ := h
  have r1 := r1.1
  obtain ⟨a2, c2, g2, _⟩ := r2
  obtain ⟨a3, c3, g3, _⟩ := r3
  obtain ⟨a4, c4, g4, _⟩ := r4
  obtain ⟨a5, c5, g5, _⟩ := r5
  obtain ⟨a6, c6, g6, _⟩ := r6
  subst h r1 g2 g3 g4 g5 g6 e6 e5 e4 e3 e2
  exact ⟨_, _, _, _, _, e1, rfl⟩
theorem cls_of {r : Res} {us : List Value} {x : clsTy.D} (h : Rep r clsTy us x) : clsC r us (clsOf x) := by
  obtain ⟨x1, x2, x3, x4, x5, x6, x7, x8⟩ := x
  simp only [clsTy, Rep, Reps] at h
  obtain ⟨u1, us1, e1, l1, r1, h⟩ := h
  obtain ⟨u2, us2, e2, l2, r2, h⟩ := h
  obtain ⟨u3, us3, e3, l3, r3, h⟩ := h
  obtain ⟨u4, us4, e4, l4, r4, h⟩ := h
  obtain ⟨u5, us5, e5, l5, r5, h⟩ := h
  obtain ⟨u6, us6, e6, l6, r6, h⟩ := h
  obtain ⟨u7, us7, e7, l7, r7, h⟩ := h
  obtain ⟨p4, rfl⟩ := one_cell l4
  have s4 : Rep r (.slice parTy) [p4] x4 := by simp only [Rep]; exact r4
  have r1 := r1.1
  obtain ⟨a3, c3, g3, _⟩ := r3
  obtain ⟨a4, c4, g4, _⟩ := r4
  obtain ⟨a5, c5, g5, _⟩ := r5
  obtain ⟨a6, c6, g6, _⟩ := r6
  obtain ⟨a7, c7, g7, _⟩ := r7
  have g4 := (List.cons.inj g4).1
  subst h r1 r2 g3 g4 g5 g6 g7 e7 e6 e5 e4 e3 e2
  exact ⟨_, _, _, _, _, _, _, e1, rfl, row_of parOf parC (fun _ _ h => parC_of h) s4⟩
theorem sys_of {r : Res} {v : Value} {y : (Ty.slice clsTy).D} (h : Rep r (.slice clsTy) [v] y) : sysR r v (sysOf y) := row_of clsOf (clsC r) (fun _ _ h => cls_of h) h
def nmsOf (y : (Ty.slice .str).D) : List Nm := (show List ByteArray from y).map nmOf
theorem names_of {r : Res} {v : Value} {y : (Ty.slice .str).D} (h : Rep r (.slice .str) [v] y) : nmsR r v (nmsOf y) := row_of (t := .str) nmOf strC (fun us x h => by
  simp only [Rep] at h
  exact h.1) h
theorem str_of {r : Res} {v : Value} {y : Ty.str.D} (h : Rep r .str [v] y) : v = sv (nmOf y) := by
  simp only [Rep] at h
  exact (List.cons.inj h.1).1
end Go.Hr
namespace Go.Proofs.Ytjgiaohieadeiaa
open Go Go.RowKit Go.ChangeShapes Go.WideShapes Go.Ck Go.Hr
set_option maxRecDepth 100000 in
theorem heirReduces_lifted (os : Os) (started : os.Started) (H : Type) (enc : TypeId × Value → H) :
    ReturnsInHanded {} Try.checked os 8 .any (Rows.heirReducesSpec.pre6 enc Try.prog Try.f8 Rows.heirReducesRow.domain false) (Rows.heirReducesSpec.post enc Try.prog Try.f8 false true false false) := by
  refine returnsInHanded_of_change (C := Try.checked) (show ownKnob Try.prog.godebug = none by kernel_rfl) started (by kernel_rfl) Try.func8
    (ChangeSpec.witness6 (enc := enc) (C := Try.checked) false ⟨#[], #[.slice none 0 0, .int .u8 0, .int .u8 0, .int .u8 0], []⟩ 8 (by kernel_rfl) (by kernel_rfl) (by kernel_rfl) (by kernel_rfl)) ?_
  intro W base args ds gs before hval0 hW hcnd _
  have hval : ∀ (j : Nat) t v, Try.f8.params[j]? = some t → args[j]? = some v → Value.okWide Try.prog W .any base t v := hval0
  have hW' := hW
  obtain ⟨p, q, hA0, hV, rfl, hfz, hnd⟩ := hW
  have hA : DataW.TrodAll enc Try.prog W 0 (fun _ => true) true Try.f8.params.toList args.toList ds p := hA0
  rw [Try.params8] at hA hval
  obtain ⟨v0, vs0, d0, ds0, p0, q0, hargs, rfl, rfl, h0, r0⟩ := trodAll_cons hA
  obtain ⟨v1, vs1, d1, ds1, p1, q1, rfl, rfl, rfl, h1, r1⟩ := trodAll_cons r0
  obtain ⟨v2, vs2, d2, ds2, p2, q2, rfl, rfl, rfl, h2, r2⟩ := trodAll_cons r1
  obtain ⟨v3, vs3, d3, ds3, p3, q3, rfl, rfl, rfl, h3, r3⟩ := trodAll_cons r2
  obtain ⟨rfl, rfl, rfl⟩ := trodAll_nil r3
  obtain rfl : args = #[v0, v1, v2, v3] := by cases args; simp_all
  obtain ⟨rfl, rfl⟩ := trodVars_none hV
  obtain ⟨y0, e0⟩ := arg_one (ty := .slice clsTy) (by kernel_rfl) (by kernel_rfl) (hval 0 22 v0 rfl rfl) h0
  obtain ⟨y1, e1⟩ := arg_one (ty := .int .u8) (by kernel_rfl) (by kernel_rfl) (hval 1 5 v1 rfl rfl) h1
  obtain ⟨y2, e2⟩ := arg_one (ty := .int .u8) (by kernel_rfl) (by kernel_rfl) (hval 2 5 v2 rfl rfl) h2
  obtain ⟨y3, e3⟩ := arg_one (ty := .int .u8) (by kernel_rfl) (by kernel_rfl) (hval 3 5 v3 rfl rfl) h3
  have s0 := sys_of e0
  obtain ⟨rfl, w1⟩ := rep_kind e1
  obtain ⟨m1, rfl⟩ := Int.eq_ofNat_of_zero_le (wf_u8 w1).1
  have b1 : m1 ≤ 255 := by have := (wf_u8 w1).2; omega
  obtain ⟨rfl, w2⟩ := rep_kind e2
  obtain ⟨m2, rfl⟩ := Int.eq_ofNat_of_zero_le (wf_u8 w2).1
  have b2 : m2 ≤ 255 := by have := (wf_u8 w2).2; omega
  obtain ⟨rfl, w3⟩ := rep_kind e3
  obtain ⟨m3, rfl⟩ := Int.eq_ofNat_of_zero_le (wf_u8 w3).1
  have b3 : m3 ≤ 255 := by have := (wf_u8 w3).2; omega
  refine (ct_calls (heirReduces_ct s0 b1 b2 b3) fun v h' h => ⟨h.1, by rw [h.2]; exact .refl _⟩).mono fun e W' ⟨he, hk⟩ => ⟨_, he, ?_⟩
  exact law_post (tys := [.slice clsTy, .int .u8, .int .u8, .int .u8]) hW' rfl (by kernel_rfl) Try.underlying4 (by rw [Try.params8]; kernel_rfl) rfl hk
theorem heirReduces_holds : Rows.HeirReducesSaid :=
  OpenClaim.holds_of_wide 8 Try.f8 rfl rfl rfl rfl rfl rfl rfl ⟨rfl, rfl, rfl, rfl, rfl⟩ rfl rfl rfl rfl rfl (by kernel_rfl) Try.func8 (by kernel_rfl)
    (of_decide_eq_true (by kernel_rfl)) (by unfold Func.isWrapper; first | (rw [if_pos (by decide +kernel)]; kernel_rfl) | (rw [if_neg (by decide +kernel)]; exact ⟨rfl, rfl⟩))
    (fun os started H enc _ => heirReduces_lifted os started H enc)
end Go.Proofs.Ytjgiaohieadeiaa
