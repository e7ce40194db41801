/-
  The law HeapSameByAnySteps, walked: the lists of acts that it makes. Conditions: what the heap holds.
  HeapSameByAnySteps: for every input the law answers true, and the input reads as it did. No condition.
-/
import Derived.Test.YtmhmpjgkkpbnnaaM12
import Derived.Test.YtmhmpjgkkpbnnaaM5
import Derived.Test.YtmhmpjgkkpbnnaaRows
namespace Go.Proofs.Ytmhmpjgkkpbnnaa
open Go.Ck Fx Go.Hm Go.Hm.AM
attribute [local irreducible] St Cd Xt Nx DrL LsW
def keepA (x : Go.Hm.Act) : Bool := (x.k != 7 && x.k != 8) && x.k != 9
def stepA : Go.Hm.Act := ⟨9, 1, 0, 0⟩
def slowA (xs : List Go.Hm.Act) : List Go.Hm.Act := xs.flatMap fun x => [x, stepA]
theorem actsC_append (l k : List Go.Hm.Act) : actsC (l ++ k) = actsC l ++ actsC k := by unfold actsC; rw [List.flatMap_append]
theorem slow_snoc (l : List Go.Hm.Act) (x : Go.Hm.Act) : slowA (l ++ [x]) = slowA l ++ [x, stepA] := by unfold slowA; rw [List.flatMap_append]; rfl
theorem keep_snoc (l : List Go.Hm.Act) (x : Go.Hm.Act) : (l ++ [x]).filter keepA = l.filter keepA ++ if keepA x then [x] else [] := by
  rw [List.filter_append, List.filter_cons, List.filter_nil]
theorem slow_len (l : List Go.Hm.Act) : (slowA l).length = 2 * l.length := by
  induction l with
  | nil => rfl
  | cons x t ih => show ([x, stepA] ++ slowA t).length = _; rw [List.length_append, ih]; simp only [List.length_cons, List.length_nil]; omega
structure SbL where
  i : Nat
  s : Value
  f : Value
  r : Value
  pr : Res
structure SbS where
  i : Nat
  p : Value
  s : Value
section
variable {R : Res} {v0 v4 : Value} {sh : List (List Bool)} {xs : List Go.Hm.Act} {half young n : Int}
/-- The picture to which acts lead. -/
def picOf (sh : List (List Bool)) (H Y : Int) (N : Nat) (xs : List Go.Hm.Act) : Pic × Int := (AM.acts false xs (new' sh H Y) (List.replicate N 0)).2.1.pictured (AM.acts false xs (new' sh H Y) (List.replicate N 0)).2.2
def noFull (sh : List (List Bool)) (H Y : Int) (N : Nat) (xs : List Go.Hm.Act) : Prop := ∀ e ∈ (AM.acts false xs (new' sh H Y) (List.replicate N 0)).1, e ≠ 14
theorem lightp_sz (hl : lightp sh xs = true) (hne : newErr sh half young = 0) : sh.length ≤ 100 ∧ (∀ l ∈ sh, l.length ≤ 100) ∧ 1 ≤ half ∧ half ≤ 100000 ∧ 1 ≤ young ∧ young ≤ 400000 := by
  obtain ⟨_, _, _, _, _, g⟩ := fine_new hne
  have z := g.g.sz
  exact ⟨z.n, z.w, z.H0, z.H1, z.Y0, z.Y1⟩
set_option maxHeartbeats 4000000 in
set_option maxRecDepth 100000 in
theorem heapSame_c (hS : Shp R v0 sh) (hs0 : sh.length ≤ maxLen) (hX : ActsV R v4 xs) (ha : ∀ x ∈ xs, I64 x.a) (hh : 0 ≤ half ∧ half < 65536) (hy : 0 ≤ young ∧ young < 65536) (hn : 0 ≤ n ∧ n < 256) :
    Ct Try.prog 6 #[v0, .int .u16 half, .int .u16 young, .int .u8 n, v4] [R] fun u h' => u = .bool true ∧ h' = [R] := by
  obtain ⟨a, cp, hv, _⟩ := id hS
  obtain ⟨xa, xcp, rfl, _⟩ := id hX
  refine ct_of (n := 114) Try.func6 rfl rfl (len rfl) fun hr w0 => ?_
  simp only [List.cons_append, List.nil_append]
  refine cd_seq (cd_region (st_v (v_assign rfl) (st_nil (nx_then (cd_seq (cd_seq (cd_region (st_v (v_move rfl) (st_v (v_move rfl) (st_clr rfl rfl en28 rfl (light_ct hS hs0 hX) ?_))))))))))
  refine st_v (v_not rfl) (st_nil (nx_kp [0, 1, 2, 3, 4, 10, 30] rfl (nx_then (cd_cond rfl (fun hc => ?_) (fun hc => ?_)))))
  · skip
    refine cd_seq (cd_region (st_cl rfl rfl en14 rfl (sanity_c) ?_))
    rintro v' h' ⟨rfl, rfl⟩
    simp only [List.nil_append]
    refine st_v (v_assign rfl) (st_nil (nx_kp [0, 1, 2, 3, 4, 10] rfl (nx_then (cd_ret (xt_ret_then ?_)))))
    exact xt_rt rfl ⟨rfl, rfl⟩ (by (repeat (refine Sub.sel (by repeat (first | exact Sel.here | apply Sel.there)) ?_)); (repeat apply Sub.cons); first | exact Sub.refl _ | exact Sub.nil _)
  · skip
    have hl : lightp sh xs = true := by simpa using hc
    have hl2 : xs.length ≤ 300 := by
      unfold lightp at hl
      simp only [Bool.and_eq_true, decide_eq_true_eq] at hl
      omega
    have hsl : sh.length ≤ 1000000 := by
      unfold lightp at hl
      simp only [Bool.and_eq_true, decide_eq_true_eq] at hl
      omega
    refine cd_skip (xt_then (cd_seq (cd_region (st_v (v_move rfl) (st_v (v_move rfl) (st_clr rfl rfl en29 rfl (spaces_ct hh hy) ?_))))))
    refine st_v (v_move rfl) (st_v (v_extract rfl rfl) (st_v (v_extract rfl rfl) (st_v (v_assign rfl) (st_v (v_assign rfl) (st_nil (nx_kp [0, 3, 4, 10, 11, 12] rfl (nx_then (cd_seq (cd_region (st_v (v_move rfl) ?_))))))))))
    have hn1 : IntKind.wrap .i64 n = n := I64.wrap (by unfold I64; omega)
    obtain ⟨p1, p2⟩ := tmod_bd (k := 21) (by omega) hn.1
    refine st_v (v_conv rfl Try.underlying5 Try.underlying3 hn1) (st_v (v_rem rfl rfl (by decide) (I64.wrap (by unfold I64; omega))) ?_)
    refine st_v (v_assign rfl) (st_nil (nx_kp [0, 4, 10, 11, 12, 13] rfl (nx_then (cd_seq (cd_region (st_v (v_assign rfl) (st_v (v_assign rfl) (st_nil (nx_then (cd_seq (cd_seq (cd_region (st_v (v_move rfl) (st_v (v_len (congrArg some rfl) Try.underlying62) (st_v (v_move rfl) (st_nil (nx_then ?_)))))))))))))))))
    refine cd_block (cd_vecnil 78 4 ?_)
    refine cd_vecnil 78 4 ?_
    refine cd_loop (σ := SbS) (fun s => [(0, v0), (4, .slice xa xs.length xcp), (11, .int .i64 (pick1 600 half)), (12, .int .i64 (pick1 100 young)), (13, .int .i64 (n.tmod 21)), (14, s.p), (15, s.s), (41, .slice xa xs.length xcp), (42, .int .i64 xs.length), (43, .int .i64 (s.i : Nat))]) (fun s => vec s.p 78 4 ((xs.take s.i).filter keepA).length (actsC ((xs.take s.i).filter keepA)) :: vec s.s 78 4 (slowA (xs.take s.i)).length (actsC (slowA (xs.take s.i))) :: R :: hr) (fun s => s.i ≤ xs.length ∧ s.p.oneCell' = true ∧ s.s.oneCell' = true) (fun s => xs.length - s.i) ⟨0, .slice none 0 0, .slice none 0 0⟩ ⟨Nat.zero_le _, rfl, rfl⟩ ⟨rfl, rfl, rfl, rfl, rfl, rfl, rfl, rfl, rfl, rfl, trivial⟩ (by rw [List.take_zero]; exact Sub.refl _) ?_
    rintro ⟨i, pv, sv⟩ ⟨hi, hp1, hs1⟩
    dsimp only at hi hp1 hs1 ⊢
    have hf1 : ((xs.take i).filter keepA).length ≤ 300 := Nat.le_trans (List.length_filter_le _ _) (by rw [List.length_take]; omega)
    have hf2 : (slowA (xs.take i)).length ≤ 600 := by rw [slow_len, List.length_take]; omega
    refine cd_seq (cd_region (st_v (v_lss rfl rfl) (st_nil (nx_then (cd_seq (cd_cond rfl (fun hd => ?_) (fun hd => ?_)))))))
    · skip
      have hlt : i < xs.length := by simpa using hd
      obtain ⟨b, o, cp', hv', hrds⟩ := hX.at hlt
      have e2 : slowA (xs.take (i + 1)) = slowA (xs.take i) ++ [xs[i], stepA] := by rw [List.take_succ_eq_append_getElem hlt, slow_snoc]
      refine cd_skip (xt_then (cd_seq (cd_block (cd_seq (cd_region (st_v (v_indexAddr (congrArg some hv') rfl sl62 rfl hlt rfl) (st_v (v_loadR rfl ld78 rfl (by repeat (first | exact Sel.here | apply Sel.there)) hrds) ?_)))))))
      refine st_alc al78 fun b17 => ?_
      refine st_stoW rfl rfl sz78 rfl rfl ?_
      refine st_nil (nx_kp [0, 4, 11, 12, 13, 14, 15, 17, 41, 42, 43] rfl (nx_then (cd_seq (cd_seq (cd_region (st_v (v_fieldAddr rfl fa78_0 rfl) (st_v (v_ld rfl ld3) ?_)))))))
      refine st_v (v_neq rfl rfl) (st_v (v_move rfl) (st_cut (k := 8) (d := 54) (v := .bool (xs[i].k != 7 && xs[i].k != 8)) (fun hcut => bool_want (b := xs[i].k != 7) true (fun hg => ?_) (fun hg => ?_)) ?_))
      · refine st_sk rfl rfl hg ?_
        refine st_sk rfl rfl hg ?_
        refine st_sk rfl rfl hg ?_
        refine st_v (v_pick_false (bool_ev rfl hg) rfl) ?_
        exact hcut _ (ssub_head (by first | rfl | (rw [hg]; rfl) | simp_all) (ssub_skip rfl (ssub_skip rfl (ssub_skip rfl (ssub_refl)))))
      · skip
        refine st_vg rfl (bool_get rfl hg) (v_fieldAddr rfl fa78_0 rfl) (st_vg rfl (bool_get rfl hg) (v_ld rfl ld3) ?_)
        refine st_vg rfl (bool_get rfl hg) (v_neq rfl rfl) (st_v (v_pick_true (bool_ev rfl hg) rfl) ?_)
        exact hcut _ (ssub_head (by first | rfl | (rw [hg]; rfl) | simp_all) (ssub_skip rfl (ssub_skip rfl (ssub_skip rfl (ssub_refl)))))
      refine st_v (v_move rfl) (st_cut (k := 13) (d := 59) (v := .bool ((xs[i].k != 7 && xs[i].k != 8) && xs[i].k != 9)) (fun hcut => bool_want (b := (xs[i].k != 7 && xs[i].k != 8)) true (fun hg => ?_) (fun hg => ?_)) ?_)
      · refine st_sk rfl rfl hg ?_
        refine st_sk rfl rfl hg ?_
        refine st_sk rfl rfl hg ?_
        refine st_v (v_pick_false (bool_ev rfl hg) rfl) ?_
        exact hcut _ (ssub_head (by first | rfl | (rw [hg]; rfl) | simp_all) (ssub_skip rfl (ssub_skip rfl (ssub_skip rfl (ssub_refl)))))
      · skip
        refine st_vg rfl (bool_get rfl hg) (v_fieldAddr rfl fa78_0 rfl) (st_vg rfl (bool_get rfl hg) (v_ld rfl ld3) ?_)
        refine st_vg rfl (bool_get rfl hg) (v_neq rfl rfl) (st_v (v_pick_true (bool_ev rfl hg) rfl) ?_)
        exact hcut _ (ssub_head (by first | rfl | (rw [hg]; rfl) | simp_all) (ssub_skip rfl (ssub_skip rfl (ssub_skip rfl (ssub_refl)))))
      refine st_nil (nx_kp [0, 4, 11, 12, 13, 14, 15, 17, 41, 42, 43, 59] rfl (nx_then (cd_cond rfl (fun hk => ?_) (fun hk => ?_))))
      · skip
        have e1 : (xs.take (i + 1)).filter keepA = (xs.take i).filter keepA ++ [xs[i]] := by rw [List.take_succ_eq_append_getElem hlt, keep_snoc, if_pos (show keepA xs[i] = true from hk)]
        refine cd_region (st_v (v_move rfl) (st_v (v_loadW rfl ld78 rfl (by repeat (first | exact Sel.here | apply Sel.there))) ?_))
        refine st_buildSlice (cells := actC xs[i]) rfl Try.underlying62 inf78 rfl rfl (by kernel_rfl) (ltn rfl) fun b62 => ?_
        refine st_append (news := actC xs[i]) rfl rfl Try.underlying62 inf78 rfl (ltn rfl) (by repeat (first | exact Sel.here | apply Sel.there)) rfl (fun j u hu => by repeat (first | exact at_here (rd_cl (by simpa using hu)) | apply at_there)) (ones rfl) (by omega) (by omega) (ltn rfl) fun pv' hpv' hpo => ?_
        refine st_v (v_assign rfl) (st_nil (nx_kp [0, 4, 11, 12, 13, 14, 15, 17, 41, 42, 43] rfl (nx_then (cd_region (st_v (v_move rfl) (st_v (v_loadW rfl ld78 rfl (by repeat (first | exact Sel.here | apply Sel.there))) ?_))))))
        refine st_v (v_build (cells := actC stepA) rfl (fun _ => by kernel_rfl)) ?_
        refine st_buildSlice (cells := actC xs[i] ++ actC stepA) rfl Try.underlying62 inf78 rfl rfl (by kernel_rfl) (ltn rfl) fun b63 => ?_
        refine st_append (news := actC xs[i] ++ actC stepA) rfl rfl Try.underlying62 inf78 rfl (ltn rfl) (by repeat (first | exact Sel.here | apply Sel.there)) rfl (fun j u hu => by repeat (first | exact at_here (rd_cl (by simpa using hu)) | apply at_there)) (ones rfl) (by omega) (by omega) (ltn rfl) fun sv' hsv' hso => ?_
        refine st_v (v_assign rfl) (st_nil (nx_kp [0, 4, 11, 12, 13, 14, 15, 41, 42, 43] rfl (nx_xt (xt_normal_block (xt_then (cd_region (st_v (v_add rfl rfl (by unfold I64 at *; omega)) (st_v (v_move rfl) (st_nil (nx_kp [0, 4, 11, 12, 13, 14, 15, 41, 42, 43] rfl (nx_xt (xt_ag (⟨i + 1, pv', sv'⟩ : SbS) ⟨hlt, hpo, hso⟩ (by dsimp only; omega) (by repeat (first | exact trivial | refine ⟨rfl, ?_⟩)) ?_))))))))))))
        dsimp only
        rw [e1, e2, List.length_append, List.length_append, actsC_append, actsC_append]
        exact (by (repeat (refine Sub.sel (by repeat (first | exact Sel.here | apply Sel.there)) ?_)); (repeat apply Sub.cons); first | exact Sub.refl _ | exact Sub.nil _)
      · skip
        have e1 : (xs.take (i + 1)).filter keepA = (xs.take i).filter keepA := by rw [List.take_succ_eq_append_getElem hlt, keep_snoc, if_neg (by rw [show keepA xs[i] = false from hk]; simp), List.append_nil]
        refine cd_skip (xt_then (cd_region (st_v (v_move rfl) (st_v (v_loadW rfl ld78 rfl (by repeat (first | exact Sel.here | apply Sel.there))) ?_))))
        refine st_v (v_build (cells := actC stepA) rfl (fun _ => by kernel_rfl)) ?_
        refine st_buildSlice (cells := actC xs[i] ++ actC stepA) rfl Try.underlying62 inf78 rfl rfl (by kernel_rfl) (ltn rfl) fun b63 => ?_
        refine st_append (news := actC xs[i] ++ actC stepA) rfl rfl Try.underlying62 inf78 rfl (ltn rfl) (by repeat (first | exact Sel.here | apply Sel.there)) rfl (fun j u hu => by repeat (first | exact at_here (rd_cl (by simpa using hu)) | apply at_there)) (ones rfl) (by omega) (by omega) (ltn rfl) fun sv' hsv' hso => ?_
        refine st_v (v_assign rfl) (st_nil (nx_kp [0, 4, 11, 12, 13, 14, 15, 41, 42, 43] rfl (nx_xt (xt_normal_block (xt_then (cd_region (st_v (v_add rfl rfl (by unfold I64 at *; omega)) (st_v (v_move rfl) (st_nil (nx_kp [0, 4, 11, 12, 13, 14, 15, 41, 42, 43] rfl (nx_xt (xt_ag (⟨i + 1, pv, sv'⟩ : SbS) ⟨hlt, hp1, hso⟩ (by dsimp only; omega) (by repeat (first | exact trivial | refine ⟨rfl, ?_⟩)) ?_))))))))))))
        dsimp only
        rw [e1, e2, List.length_append, actsC_append]
        exact (by (repeat (refine Sub.sel (by repeat (first | exact Sel.here | apply Sel.there)) ?_)); (repeat apply Sub.cons); first | exact Sub.refl _ | exact Sub.nil _)
    · skip
      have hge : i = xs.length := by
        have : ¬ i < xs.length := by simpa using hd
        omega
      subst hge
      rw [List.take_length] at hf1 hf2 ⊢
      refine cd_exit (xt_exit_then (xt_exit_then (xt_exit_block (xt_then (cd_seq (cd_vecshape (v := pv) (E := 78) (sz := 4) (n := (xs.filter keepA).length) (l := actsC (xs.filter keepA)) (by repeat (first | exact Sel.here | apply Sel.there)) fun pa pcp hpv hpa => ?_))))))
      refine cd_vecshape (v := sv) (E := 78) (sz := 4) (n := (slowA xs).length) (l := actsC (slowA xs)) (by repeat (first | exact Sel.here | apply Sel.there)) fun sa scp hsv hsa => ?_
      subst hpv hsv
      have hap := actsV_vec (xs := xs.filter keepA) (cp := pcp) rfl hpa
      have has := actsV_vec (xs := slowA xs) (cp := scp) rfl hsa
      refine cd_pack [vec (.slice pa (xs.filter keepA).length pcp) 78 4 (xs.filter keepA).length (actsC (xs.filter keepA)), vec (.slice sa (slowA xs).length scp) 78 4 (slowA xs).length (actsC (slowA xs)), R] ?_
      have hSk := hS.star (k := [vec (.slice pa (xs.filter keepA).length pcp) 78 4 (xs.filter keepA).length (actsC (xs.filter keepA)), vec (.slice sa (slowA xs).length scp) 78 4 (slowA xs).length (actsC (slowA xs)), R]) (.there (.there .here))
      have hXk := hX.star (k := [vec (.slice pa (xs.filter keepA).length pcp) 78 4 (xs.filter keepA).length (actsC (xs.filter keepA)), vec (.slice sa (slowA xs).length scp) 78 4 (slowA xs).length (actsC (slowA xs)), R]) (.there (.there .here))
      have hPk := hap.star (k := [vec (.slice pa (xs.filter keepA).length pcp) 78 4 (xs.filter keepA).length (actsC (xs.filter keepA)), vec (.slice sa (slowA xs).length scp) 78 4 (slowA xs).length (actsC (slowA xs)), R]) .here
      have hWk := has.star (k := [vec (.slice pa (xs.filter keepA).length pcp) 78 4 (xs.filter keepA).length (actsC (xs.filter keepA)), vec (.slice sa (slowA xs).length scp) 78 4 (slowA xs).length (actsC (slowA xs)), R]) (.there .here)
      obtain ⟨Rk, hRk⟩ : ∃ Rk, Rk = Res.star [vec (.slice pa (xs.filter keepA).length pcp) 78 4 (xs.filter keepA).length (actsC (xs.filter keepA)), vec (.slice sa (slowA xs).length scp) 78 4 (slowA xs).length (actsC (slowA xs)), R] := ⟨_, rfl⟩
      rw [← hRk] at hSk hXk hPk hWk ⊢
      refine cd_region (st_alc al42 fun b18 => ?_)
      refine st_nil (nx_kp [0, 4, 11, 12, 13, 14, 15, 18] rfl (nx_then (cd_seq (cd_seq (cd_region (st_v (v_move rfl) (st_v (v_move rfl) (st_v (v_move rfl) (st_buildSlice (cells := [.slice xa xs.length xcp, .slice pa (xs.filter keepA).length pcp, .slice sa (slowA xs).length scp]) rfl Try.underlying79 inf62 rfl rfl (by kernel_rfl) (ltn rfl) fun b73 => ?_)))))))))
      refine st_v (v_len (congrArg some rfl) Try.underlying79) (st_v (v_move rfl) (st_nil (nx_kp [0, 11, 12, 13, 18, 73, 74, 75] rfl (nx_then (cd_block (cd_star0 (cd_loop (σ := SbL) (fun s => [(0, v0), (11, .int .i64 (pick1 600 half)), (12, .int .i64 (pick1 100 young)), (13, .int .i64 (n.tmod 21)), (18, .pointer (some ⟨b18, 0, none⟩)), (73, .slice (some ⟨b73, 0, none⟩) 3 3), (74, .int .i64 3), (75, .int .i64 (s.i : Nat))]) (fun s => pt b73 (cl [.slice xa xs.length xcp, .slice pa (xs.filter keepA).length pcp, .slice sa (slowA xs).length scp] 62) :: pt b18 (cl [s.s, s.f, s.r] 42) :: s.pr :: Rk :: hr) (fun s => s.i ≤ 3 ∧ s.s.oneCell' = true ∧ s.f.oneCell' = true ∧ s.r.oneCell' = true ∧ (s.i = 0 ∨ (PicV s.pr s.s s.f s.r (picOf sh (pick1 600 half) (pick1 100 young) (n.tmod 21).toNat xs).1 ∧ noFull sh (pick1 600 half) (pick1 100 young) (n.tmod 21).toNat xs))) (fun s => 3 - s.i) ⟨0, .slice none 0 0, .slice none 0 0, .slice none 0 0, Res.star []⟩ ⟨Nat.zero_le _, rfl, rfl, rfl, .inl rfl⟩ ⟨rfl, rfl, rfl, rfl, rfl, rfl, rfl, rfl, trivial⟩ (by (repeat (refine Sub.sel (by repeat (first | exact Sel.here | apply Sel.there)) ?_)); (repeat apply Sub.cons); first | exact Sub.refl _ | exact Sub.nil _) ?_)))))))
      rintro ⟨i, s1, f1, r1, pr⟩ ⟨hi, o1, o2, o3, hP⟩
      dsimp only at hi o1 o2 o3 hP ⊢
      refine cd_seq (cd_region (st_v (v_lss rfl rfl) (st_nil (nx_then (cd_seq (cd_cond rfl (fun hd => ?_) (fun hd => ?_)))))))
      · skip
        have hlt : i < 3 := by have := of_decide_eq_true hd; omega
        obtain ⟨V, X, hV, hXV, haX, hsx, hX0⟩ : ∃ V X, ([.slice xa xs.length xcp, .slice pa (xs.filter keepA).length pcp, .slice sa (slowA xs).length scp] : List Value)[i]? = some V ∧ ActsV Rk V X ∧ (∀ x ∈ X, I64 x.a) ∧ (∀ A ys, sacts sh X A ys = sacts sh xs A ys) ∧ (i = 0 → X = xs) := by
          match i, hlt with
          | 0, _ => exact ⟨_, xs, rfl, hXk, ha, fun _ _ => rfl, fun _ => rfl⟩
          | 1, _ => exact ⟨_, xs.filter keepA, rfl, hPk, fun x hx => ha x (List.mem_filter.1 hx).1, fun A ys => sacts_filter xs A ys, fun h => by cases h⟩
          | 2, _ => exact ⟨_, slowA xs, rfl, hWk, fun x hx => by
              obtain ⟨y, hy, hx⟩ := List.mem_flatMap.1 hx
              rcases List.mem_cons.1 hx with rfl | hx
              · exact ha _ hy
              · have : x = stepA := by simpa using hx
                rw [this]; show I64 1; unfold I64; omega, fun A ys => sacts_slow rfl xs A ys, fun h => by cases h⟩
        have hrd : Rd (pt b73 (cl [.slice xa xs.length xcp, .slice pa (xs.filter keepA).length pcp, .slice sa (slowA xs).length scp] 62)) ⟨b73, i, none⟩ V := rd_cl hV
        refine cd_skip (xt_then (cd_seq (cd_block (cd_seq (cd_region (st_v (v_move rfl) (st_v (v_idx i rfl rfl sl79 rfl hlt) (st_v (v_ld rfl ld62) ?_))))))))
        refine st_v (v_assign rfl) (st_v (v_assign rfl) (st_nil (nx_kp [0, 11, 12, 13, 18, 19, 20, 73, 74, 75] rfl (nx_then (cd_seq (cd_region (st_v (v_move rfl) (st_v (v_move rfl) (st_v (v_move rfl) (st_v (v_move rfl) (st_v (v_move rfl) (st_cl rfl rfl en30 rfl (play_c (half := pick1 600 half) (young := pick1 100 young) (n := n.tmod 21) hSk hsl hXV haX) ?_))))))))))))
        rintro v' h' hu
        rcases hu with ⟨hne, rfl, rfl⟩ | ⟨hpe, hne, hN0, hN2, hxl, L0, μ0, S1, rv0, ev0, rfl, I0, rfl⟩
        · skip
          simp only [List.cons_append, List.nil_append]
          refine st_v (v_move rfl) (st_v (v_extract rfl rfl) (st_v (v_extract rfl rfl) (st_v (v_extract rfl rfl) (st_v (v_extract rfl rfl) (st_v (v_assign rfl) (st_v (v_assign rfl) (st_v (v_assign rfl) (st_v (v_assign rfl) (st_nil (nx_kp [0, 11, 12, 13, 18, 19, 21, 22, 23, 24, 73, 74, 75] rfl (nx_then (cd_seq (cd_seq (cd_region (st_v (v_move rfl) ?_)))))))))))))))
          refine st_v (v_neq rfl rfl) (st_nil (nx_kp [0, 11, 12, 13, 18, 19, 21, 22, 23, 73, 74, 75, 92] rfl (nx_then (cd_cond rfl (fun hA => ?_) (fun hA => ?_)))))
          · skip
            refine cd_seq (cd_region (st_cl rfl rfl en14 rfl (sanity_c) ?_))
            rintro v' h' ⟨rfl, rfl⟩
            simp only [List.nil_append]
            refine st_v (v_assign rfl) (st_nil (nx_kp [0, 10, 11, 12, 13, 18, 19, 21, 22, 23, 73, 74, 75] rfl (nx_then (cd_ret (xt_ret_then (xt_ret_block (xt_ret_then (xt_ret_then (xt_ret_block (xt_ret_then ?_))))))))))
            rw [hRk]
            refine xt_unstar (k := [vec (.slice pa (xs.filter keepA).length pcp) 78 4 (xs.filter keepA).length (actsC (xs.filter keepA)), vec (.slice sa (slowA xs).length scp) 78 4 (slowA xs).length (actsC (slowA xs)), R]) (by repeat (first | exact Sel.here | apply Sel.there)) ?_
            simp only [List.cons_append, List.nil_append]
            exact xt_rt rfl ⟨rfl, rfl⟩ (by (repeat (refine Sub.sel (by repeat (first | exact Sel.here | apply Sel.there)) ?_)); (repeat apply Sub.cons); first | exact Sub.refl _ | exact Sub.nil _)
          · skip
            exact absurd (by simpa using hA) hne
        · skip
          simp only [List.cons_append, List.nil_append]
          refine st_v (v_move rfl) (st_v (v_extract rfl rfl) (st_v (v_extract rfl rfl) (st_v (v_extract rfl rfl) (st_v (v_extract rfl rfl) (st_v (v_assign rfl) (st_v (v_assign rfl) (st_v (v_assign rfl) (st_v (v_assign rfl) (st_nil (nx_kp [0, 11, 12, 13, 18, 19, 21, 22, 23, 24, 73, 74, 75] rfl (nx_then (cd_seq (cd_seq (cd_region (st_v (v_move rfl) ?_)))))))))))))))
          refine st_v (v_neq rfl rfl) (st_nil (nx_kp [0, 11, 12, 13, 18, 19, 21, 22, 23, 73, 74, 75, 92] rfl (nx_then (cd_false rfl ?_))))
          refine cd_skip (xt_then (cd_seq (cd_region (st_v (v_move rfl) (st_v (v_move rfl) ?_)))))
          obtain ⟨z5, z6, z1, z2, z3, z4⟩ := lightp_sz hl hne
          have hst0 := Wst.new (sh := sh) z1 z2 z3 z4 z5 z6 (n := (n.tmod 21).toNat) (by omega)
          obtain ⟨A1, xs1, hst1⟩ := hst0.acts_any false X
          have hro := hst1.rooted
          have hF := Fine.acts false X (fine_new hne) (List.replicate (n.tmod 21).toNat 0)
          have hrl : (acts false X (new' sh (pick1 600 half) (pick1 100 young)) (List.replicate (n.tmod 21).toNat 0)).2.2.length = (n.tmod 21).toNat := by rw [acts_len, List.length_replicate]
          have hel : (acts false X (new' sh (pick1 600 half) (pick1 100 young)) (List.replicate (n.tmod 21).toNat 0)).1.length ≤ 2000 := by rw [acts_errs]; exact hxl
          have hzp := pictured_sz hF (roots := (acts false X (new' sh (pick1 600 half) (pick1 100 young)) (List.replicate (n.tmod 21).toNat 0)).2.2) (by omega)
          have hpe0 : (picOf sh (pick1 600 half) (pick1 100 young) (n.tmod 21).toNat X).2 = 0 := by
            unfold picOf AM.pictured
            rw [if_neg (by rw [hro]; simp)]
          have hsame : noFull sh (pick1 600 half) (pick1 100 young) (n.tmod 21).toNat X → noFull sh (pick1 600 half) (pick1 100 young) (n.tmod 21).toNat xs → picOf sh (pick1 600 half) (pick1 100 young) (n.tmod 21).toNat X = picOf sh (pick1 600 half) (pick1 100 young) (n.tmod 21).toNat xs := fun g1 g2 =>
            acts_same z1 z2 z3 z4 z1 z2 z3 z4 z5 z6 (by omega) hsx g1 g2
          have hnf : (acts false X (new' sh (pick1 600 half) (pick1 100 young)) (List.replicate (n.tmod 21).toNat 0)).1.contains 14 = false → noFull sh (pick1 600 half) (pick1 100 young) (n.tmod 21).toNat X := fun hq e he h14 => by
            rw [h14] at he
            rw [List.contains_iff_mem.2 he] at hq
            cases hq
          obtain ⟨ly, ln, lf, φ, A, hg⟩ := id hF
          refine st_vecshape (v := rv0) (E := 3) (sz := 1) (by repeat (first | exact Sel.here | apply Sel.there)) fun ra rcp hrv hra => ?_
          refine st_vecshape (v := ev0) (E := 28) (sz := 1) (by repeat (first | exact Sel.here | apply Sel.there)) fun ea ecp hev hea => ?_
          have hpt := hpicture_ct I0 hg (rowI_vec hrv hra rfl) (by omega)
          have hpe0' := hpe0
          unfold picOf at hpe0'
          rw [hpe0'] at hpt
          have hct := containsE_ct (x := 14) (rowI_vecE (E := 28) hev hea rfl) (by omega)
          unfold memSH at hpt ⊢
          simp only [List.cons_append, List.nil_append] at hpt ⊢
          refine st_cl rfl rfl en19 rfl (hpt) ?_
          rintro v' h' ⟨sv2, fv2, rv2, us2, rfl, hPF, rfl⟩
          have q1 := VForm.one hPF.s; have q2 := VForm.one hPF.f; have q3 := VForm.one hPF.r
          simp only [List.cons_append, List.nil_append]
          refine st_v (v_move rfl) (st_v (v_extract rfl rfl) (st_v (v_extract rfl rfl) (st_alc al42 fun b25 => ?_)))
          refine st_stoW rfl rfl sz42 rfl (by simp only [List.all_cons, List.all_nil, q1, q2, q3]; rfl) ?_
          refine st_v (v_assign rfl) (st_nil (nx_kp [0, 11, 12, 13, 18, 19, 23, 25, 26, 73, 74, 75] rfl (nx_then (cd_seq (cd_seq (cd_region (st_v (v_move rfl) (st_v (v_neq rfl rfl) (st_nil (nx_kp [0, 11, 12, 13, 18, 19, 23, 25, 73, 74, 75, 101] rfl (nx_then (cd_false rfl ?_))))))))))))
          refine cd_skip (xt_then (cd_seq (cd_seq (cd_region (st_v (v_move rfl) (st_clr rfl rfl en35 rfl (hct) ?_))))))
          refine st_nil (nx_kp [0, 11, 12, 13, 18, 19, 25, 73, 74, 75, 103] rfl (nx_then (cd_cond rfl (fun hE => ?_) (fun hE => ?_))))
          · skip
            refine cd_seq (cd_region (st_cl rfl rfl en14 rfl (sanity_c) ?_))
            rintro v' h' ⟨rfl, rfl⟩
            simp only [List.nil_append]
            refine st_v (v_assign rfl) (st_nil (nx_kp [0, 10, 11, 12, 13, 18, 19, 25, 73, 74, 75] rfl (nx_then (cd_ret (xt_ret_then (xt_ret_block (xt_ret_then (xt_ret_then (xt_ret_block (xt_ret_then ?_))))))))))
            rw [hRk]
            refine xt_unstar (k := [vec (.slice pa (xs.filter keepA).length pcp) 78 4 (xs.filter keepA).length (actsC (xs.filter keepA)), vec (.slice sa (slowA xs).length scp) 78 4 (slowA xs).length (actsC (slowA xs)), R]) (by repeat (first | exact Sel.here | apply Sel.there)) ?_
            simp only [List.cons_append, List.nil_append]
            exact xt_rt rfl ⟨rfl, rfl⟩ (by (repeat (refine Sub.sel (by repeat (first | exact Sel.here | apply Sel.there)) ?_)); (repeat apply Sub.cons); first | exact Sub.refl _ | exact Sub.nil _)
          · skip
            have hnx := hnf hE
            change PF sv2 fv2 rv2 us2 (picOf sh (pick1 600 half) (pick1 100 young) (n.tmod 21).toNat X).1 at hPF
            change PicSz (picOf sh (pick1 600 half) (pick1 100 young) (n.tmod 21).toNat X).1 at hzp
            refine cd_skip (xt_then (cd_seq (cd_seq (cd_region (st_v (v_move rfl) (st_v (v_eql rfl rfl) (st_nil (nx_kp [0, 11, 12, 13, 18, 25, 73, 74, 75, 106] rfl (nx_then (cd_cond rfl (fun h0 => ?_) (fun h0 => ?_)))))))))))
            · skip
              have hi0 : i = 0 := by have := of_decide_eq_true h0; omega
              have hX := (hX0 hi0).symm
              subst hi0 hX
              refine cd_region (st_v (v_loadW rfl ld42 rfl (by repeat (first | exact Sel.here | apply Sel.there))) ?_)
              refine st_stoW rfl rfl sz42 rfl (by simp only [List.all_cons, List.all_nil, q1, q2, q3]; rfl) ?_
              refine st_nil (nx_kp [0, 11, 12, 13, 18, 25, 73, 74, 75] rfl (nx_then (cd_seq (cd_region ?_))))
              have hsp := samePictures_ct hPF.v hPF.v hzp
              rw [samePic_self] at hsp
              refine st_v (v_loadW rfl ld42 rfl (by repeat (first | exact Sel.here | apply Sel.there))) ?_
              refine st_v (v_loadW rfl ld42 rfl (by repeat (first | exact Sel.here | apply Sel.there))) ?_
              refine st_clr rfl rfl en22 rfl (hsp) ?_
              refine st_v (v_not rfl) (st_nil (nx_kp [0, 11, 12, 13, 18, 73, 74, 75, 111] rfl (nx_then (cd_false rfl ?_))))
              refine cd_skip (xt_normal_block (xt_then (cd_region (st_v (v_add rfl rfl (by unfold I64 at *; omega)) (st_v (v_move rfl) (st_nil (nx_kp [0, 11, 12, 13, 18, 73, 74, 75] rfl (nx_xt (xt_ag (⟨0 + 1, sv2, fv2, rv2, pR sv2 fv2 rv2 us2 (picOf sh (pick1 600 half) (pick1 100 young) (n.tmod 21).toNat xs).1⟩ : SbL) ⟨by dsimp only; omega, q1, q2, q3, .inr ⟨hPF.v, hnx⟩⟩ (by dsimp only; omega) (by repeat (first | exact trivial | refine ⟨rfl, ?_⟩)) ?_)))))))))
              dsimp only
              exact (by (repeat (refine Sub.sel (by repeat (first | exact Sel.here | apply Sel.there)) ?_)); (repeat apply Sub.cons); first | exact Sub.refl _ | exact Sub.nil _)
            · skip
              have hi0 : i ≠ 0 := by have := of_decide_eq_false h0; omega
              obtain ⟨hPr, hnx0⟩ := hP.resolve_left hi0
              rw [← hsame hnx hnx0] at hPr
              refine cd_skip (xt_then (cd_seq (cd_region ?_)))
              have hsp := Reads.unstar (samePictures_ct (R := Res.star [pR sv2 fv2 rv2 us2 (picOf sh (pick1 600 half) (pick1 100 young) (n.tmod 21).toNat X).1, pr]) (hPF.v.star .here) (hPr.star (.there .here)) hzp)
              rw [samePic_self] at hsp
              refine st_v (v_loadW rfl ld42 rfl (by repeat (first | exact Sel.here | apply Sel.there))) ?_
              refine st_v (v_loadW rfl ld42 rfl (by repeat (first | exact Sel.here | apply Sel.there))) ?_
              refine st_clr rfl rfl en22 rfl (hsp) ?_
              refine st_v (v_not rfl) (st_nil (nx_kp [0, 11, 12, 13, 18, 73, 74, 75, 111] rfl (nx_then (cd_false rfl ?_))))
              refine cd_skip (xt_normal_block (xt_then (cd_region (st_v (v_add rfl rfl (by unfold I64 at *; omega)) (st_v (v_move rfl) (st_nil (nx_kp [0, 11, 12, 13, 18, 73, 74, 75] rfl (nx_xt ?_))))))))
              rw [hsame hnx hnx0] at hPr
              refine xt_ag (⟨i + 1, s1, f1, r1, pr⟩ : SbL) ⟨by dsimp only; omega, o1, o2, o3, .inr ⟨hPr, hnx0⟩⟩ (by dsimp only; omega) (by repeat (first | exact trivial | refine ⟨rfl, ?_⟩)) ?_
              dsimp only
              exact (by (repeat (refine Sub.sel (by repeat (first | exact Sel.here | apply Sel.there)) ?_)); (repeat apply Sub.cons); first | exact Sub.refl _ | exact Sub.nil _)
      · skip
        refine cd_exit (xt_exit_then (xt_exit_then (xt_exit_block (xt_then (cd_seq (cd_region (st_cl rfl rfl en14 rfl (sanity_c) ?_)))))))
        rintro v' h' ⟨rfl, rfl⟩
        simp only [List.nil_append]
        refine st_v (v_assign rfl) (st_nil (nx_kp [10] rfl (nx_then (cd_ret ?_))))
        rw [hRk]
        refine xt_unstar (k := [vec (.slice pa (xs.filter keepA).length pcp) 78 4 (xs.filter keepA).length (actsC (xs.filter keepA)), vec (.slice sa (slowA xs).length scp) 78 4 (slowA xs).length (actsC (slowA xs)), R]) (by repeat (first | exact Sel.here | apply Sel.there)) ?_
        simp only [List.cons_append, List.nil_append]
        exact xt_rt rfl ⟨rfl, rfl⟩ (by (repeat (refine Sub.sel (by repeat (first | exact Sel.here | apply Sel.there)) ?_)); (repeat apply Sub.cons); first | exact Sub.refl _ | exact Sub.nil _)
end
end Go.Proofs.Ytmhmpjgkkpbnnaa
namespace Go.Proofs.Ytmhmpjgkkpbnnaa
open Go Go.RowKit Go.ChangeShapes Go.WideShapes Go.Ck
set_option maxRecDepth 100000 in
theorem heapSameByAnySteps_lifted (os : Os) (started : os.Started) (H : Type) (enc : TypeId × Value → H) :
    ReturnsInHanded {} Try.checked os 6 .any (Rows.heapSameByAnyStepsSpec.pre6 enc Try.prog Try.f6 Rows.heapSameByAnyStepsRow.domain false) (Rows.heapSameByAnyStepsSpec.post enc Try.prog Try.f6 false true false false) := by
  refine returnsInHanded_of_change (C := Try.checked) own' started (by kernel_rfl) Try.func6
    (ChangeSpec.witness6 (enc := enc) (C := Try.checked) false ⟨#[], #[.slice none 0 0, .int .u16 0, .int .u16 0, .int .u8 0, .slice none 0 0], []⟩ 8 (by kernel_rfl) (by kernel_rfl) (by kernel_rfl) (by kernel_rfl)) ?_
  intro W base args ds gs before hval0 hW hcnd _
  have hval : ∀ (j : Nat) t v, Try.f6.params[j]? = some t → args[j]? = some v → Value.okWide Try.prog W .any base t v := hval0
  have hW' := hW
  obtain ⟨p, q, hA0, hV, rfl, hfz, hnd⟩ := hW
  have hA : DataW.TrodAll enc Try.prog W 0 (fun _ => true) true Try.f6.params.toList args.toList ds p := hA0
  rw [Try.params6] at hA hval
  obtain ⟨v0, vs0, d0, ds0, p0, q0, hargs, rfl, rfl, h0, r0⟩ := trodAll_cons hA
  obtain ⟨v1, vs1, d1, ds1, p1, q1, rfl, rfl, rfl, h1, r1⟩ := trodAll_cons r0
  obtain ⟨v2, vs2, d2, ds2, p2, q2, rfl, rfl, rfl, h2, r2⟩ := trodAll_cons r1
  obtain ⟨v3, vs3, d3, ds3, p3, q3, rfl, rfl, rfl, h3, r3⟩ := trodAll_cons r2
  obtain ⟨v4, vs4, d4, ds4, p4, q4, rfl, rfl, rfl, h4, r4⟩ := trodAll_cons r3
  obtain ⟨rfl, rfl, rfl⟩ := trodAll_nil r4
  obtain rfl : args = #[v0, v1, v2, v3, v4] := by cases args; simp_all
  obtain ⟨rfl, rfl⟩ := trodVars_none hV
  obtain ⟨y0, e0⟩ := arg_one (ty := .slice (.slice .bool)) (by kernel_rfl) (by kernel_rfl) (hval 0 22 v0 rfl rfl) h0
  obtain ⟨y1, e1⟩ := arg_one (ty := .int .u16) (by kernel_rfl) (by kernel_rfl) (hval 1 61 v1 rfl rfl) h1
  obtain ⟨y2, e2⟩ := arg_one (ty := .int .u16) (by kernel_rfl) (by kernel_rfl) (hval 2 61 v2 rfl rfl) h2
  obtain ⟨y3, e3⟩ := arg_one (ty := .int .u8) (by kernel_rfl) (by kernel_rfl) (hval 3 5 v3 rfl rfl) h3
  obtain ⟨y4, e4⟩ := arg_one (ty := .slice actTy) (by kernel_rfl) (by kernel_rfl) (hval 4 62 v4 rfl rfl) h4
  obtain ⟨s0, l0⟩ := shp_of e0
  obtain ⟨s4, a4⟩ := acts_of e4
  obtain ⟨rfl, w1⟩ := rep_kind e1
  obtain ⟨rfl, w2⟩ := rep_kind e2
  obtain ⟨rfl, w3⟩ := rep_kind e3
  refine (ct_calls (heapSame_c s0 l0 s4 a4 (wf_u16 w1) (wf_u16 w2) (wf_u8 w3)) fun v h' h => ⟨h.1, by rw [h.2]; exact .refl _⟩).mono fun e W' ⟨he, hk⟩ => ⟨_, he, ?_⟩
  exact law_post (tys := [.slice (.slice .bool), .int .u16, .int .u16, .int .u8, .slice actTy]) hW' rfl (by kernel_rfl) Try.underlying4 (by rw [Try.params6]; kernel_rfl) rfl hk
theorem heapSameByAnySteps_holds : Rows.HeapSameByAnyStepsSaid :=
  OpenClaim.holds_of_wide 6 Try.f6 rfl rfl rfl rfl rfl rfl rfl ⟨rfl, rfl, rfl, rfl, rfl⟩ rfl rfl rfl rfl rfl (by kernel_rfl) Try.func6 (by kernel_rfl)
    (of_decide_eq_true (by kernel_rfl)) (by unfold Func.isWrapper; first | (rw [if_pos (by decide +kernel)]; kernel_rfl) | (rw [if_neg (by decide +kernel)]; exact ⟨rfl, rfl⟩))
    (fun os started H enc _ => heapSameByAnySteps_lifted os started H enc)
end Go.Proofs.Ytmhmpjgkkpbnnaa
