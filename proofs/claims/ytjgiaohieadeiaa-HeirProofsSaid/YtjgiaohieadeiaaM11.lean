/-
  The specification: further. Conditions: what is read.
  The specification: Ring. Conditions: what is read.
  The specification: Check, asked. Conditions: what is read.
  The specification: Way, CheckWay. Conditions: what is read.
  The law's few, for any system; HeirWays. Conditions: what is read.
-/
import Derived.Test.YtjgiaohieadeiaaM5
import Derived.Test.YtjgiaohieadeiaaM10
import Derived.Test.YtjgiaohieadeiaaM1
import Derived.Test.YtjgiaohieadeiaaM7
import Derived.Test.YtjgiaohieadeiaaM9
set_option linter.unusedVariables false
set_option linter.unusedSimpArgs false
namespace Go.Hr
open Go Go.RowKit Go.Ck Go.Proofs Go.Proofs.Ytjgiaohieadeiaa Fx
attribute [local irreducible] Go.Ck.Sub St Cd Xt Nx DrL LsW
theorem ixN_isC (l : Sys) (c : Nm) : decide ((0 : Int) ≤ ixN l c) = isC l c := by
  obtain ⟨h1, h2⟩ := idx_find (l := l) (c := c)
  unfold ixN isC
  cases h : idx l c with
  | none => rw [h2 h]; rfl
  | some i => obtain ⟨x, _, h3⟩ := h1 i h; rw [h3]; simp
/-- Rows of one length, to classes. -/
def LnP (l : Sys) (n : Nat) (w : List Nm) : Prop := w.length = n ∧ isC l (lastN w) = true
theorem ones_len {l : Sys} {n : Nat} {ls : List (List Nm)} (h : Ones (LnP l n) ls) : ls.length ≤ l.length := by
  have := length_le_of_nodup (b := nms l) h.2 fun x hx => by
    obtain ⟨w, hw, rfl⟩ := List.mem_map.1 hx
    exact isC_iff.1 (h.1 w hw).2
  simpa [nms] using this
theorem Ones.empty {P : List Nm → Prop} : Ones P [] := ⟨fun w h => by simp at h, by simp⟩
theorem pars_le {l : Sys} {n : Nat} (hp : ∀ x ∈ l, x.parents.length ≤ n) {c : Nm} : (pars l c).length ≤ n := by
  unfold pars
  cases h : find l c with
  | none => simp
  | some x => exact hp x (find_name h).2
def ext0 (l : Sys) (w : List Nm) (ps : List Nm) (n : List (List Nm)) : List (List Nm) := (ps.filter (isC l)).foldl (fun n p => ins1 n (w ++ [p])) n
theorem ext0_all {l : Sys} {w : List Nm} {n : List (List Nm)} : ext0 l w (pars l (lastN w)) n = ext1 l n w := rfl
theorem ext0_yes {l : Sys} {w ps : List Nm} {p : Nm} {n : List (List Nm)} (h : isC l p = true) : ext0 l w (ps ++ [p]) n = ins1 (ext0 l w ps n) (w ++ [p]) := by
  unfold ext0
  rw [List.filter_append, List.foldl_append, List.filter_cons, if_pos h]; rfl
theorem ext0_no {l : Sys} {w ps : List Nm} {p : Nm} {n : List (List Nm)} (h : isC l p = false) : ext0 l w (ps ++ [p]) n = ext0 l w ps n := by
  unfold ext0
  rw [List.filter_append, List.filter_cons, if_neg (by rw [h]; decide)]; simp
theorem exp_succ {l : Sys} {L : List (List Nm)} {i : Nat} (h : i < L.length) : (L.take (i + 1)).foldl (ext1 l) [] = ext1 l ((L.take i).foldl (ext1 l) []) L[i] := by
  rw [List.take_succ_eq_append_getElem h, List.foldl_append]; rfl
theorem lnp_ones {l : Sys} {c : Nm} (k : Nat) (h : Ones (LnP l (k + 2)) (lsts l c (k + 1))) : (lsts l c (k + 1)).length ≤ l.length := ones_len h
theorem further_hit {l : Sys} {c a : Nm} {k : Nat} {w : List Nm} (hk : k ≤ l.length) (hno : ∀ j, j < k → hit a (lsts l c (j + 1)) = none) (h : hit a (lsts l c (k + 1)) = some w) : further l c a = w := by
  unfold further
  obtain ⟨m, hm⟩ : ∃ m, l.length + 1 = k + (m + 1) := ⟨l.length - k, by omega⟩
  rw [hm, List.range_add, List.findSome?_append, List.findSome?_eq_none_iff.2 fun i hi => hno i (List.mem_range.1 hi), List.range_succ_eq_map]
  simp only [List.map_cons, List.findSome?_cons, Nat.add_zero, h, Option.none_or]
  rfl
theorem further_miss {l : Sys} {c a : Nm} (hno : ∀ j, j < l.length + 1 → hit a (lsts l c (j + 1)) = none) : further l c a = [] := by
  unfold further
  rw [List.findSome?_eq_none_iff.2 fun i hi => hno i (List.mem_range.1 hi)]; rfl
theorem hit_at {a : Nm} {ls : List (List Nm)} {i : Nat} (h : i < ls.length) (hno : ∀ x ∈ ls.take i, lastN x ≠ a) (he : lastN ls[i] = a) : hit a ls = some ls[i] := by
  unfold hit
  rw [List.find?_eq_some_iff_getElem]
  refine ⟨by simp [he], i, h, rfl, fun j hj => ?_⟩
  have := hno ls[j] (List.mem_iff_getElem.2 ⟨j, by simp; omega, by simp⟩)
  simp [this]
theorem hit_no {a : Nm} {ls : List (List Nm)} (hno : ∀ x ∈ ls, lastN x ≠ a) : hit a ls = none := by
  unfold hit
  rw [List.find?_eq_none]
  exact fun x hx => by simpa using hno x hx
section
variable {S : Res} {v : Value} {l : Sys}
set_option maxHeartbeats 1000000 in
set_option maxRecDepth 100000 in
theorem further_ct (hv : sysR S v l) (hl : l.length ≤ 1000) (hp : ∀ x ∈ l, x.parents.length ≤ 1099511627776) (c a : Nm) : CtN Try.prog 81 #[v, sv c, sv a] [S] fun u T => u.oneCell' = true ∧ nmsR T u (further l c a) := by
  obtain ⟨la, cap, rfl, _⟩ := id hv
  refine ct_of (n := 95) Try.func81 rfl rfl (len rfl) fun hr w0 => ?_
  refine cd_seq (cd_region (st_v (v_assign rfl) (st_nil (nx_then (cd_seq (cd_region (st_v (v_move rfl) (st_buildSlice (cells := [sv c]) rfl Try.underlying25 inf9 rfl rfl (by kernel_rfl) (ltn rfl) fun b15 => ?_))))))))
  refine st_pv (pv_of (b := b15) (n := 1) (sz := 1) (E := 9) [nC c] rfl (by simp [nC]) rfl (by decide)) ?_
  simp only [List.cons_append, List.nil_append]
  refine st_ok (r := NR (.slice (some ⟨b15, 0, none⟩) 1 1) [c]) (by repeat (first | exact Sel.here | apply Sel.there)) fun hok15 => ?_
  refine st_buildSlice (cells := [.slice (some ⟨b15, 0, none⟩) 1 1]) rfl Try.underlying32 inf25 rfl rfl (by kernel_rfl) (ltn rfl) fun b16 => ?_
  refine st_pv (pv_of (b := b16) (n := 1) (sz := 1) (E := 25) [[.slice (some ⟨b15, 0, none⟩) 1 1]] rfl (by simp) rfl (by decide)) ?_
  simp only [List.cons_append, List.nil_append]
  refine st_ok (r := VR (.slice (some ⟨b16, 0, none⟩) 1 1) 25 1 [[.slice (some ⟨b15, 0, none⟩) 1 1]]) (by repeat (first | exact Sel.here | apply Sel.there)) fun hok16 => ?_
  refine st_pv (pv_pack (L := [VR (.slice (some ⟨b16, 0, none⟩) 1 1) 25 1 [[.slice (some ⟨b15, 0, none⟩) 1 1]], NR (.slice (some ⟨b15, 0, none⟩) 1 1) [c]])) ?_
  simp only [List.cons_append, List.nil_append]
  have h0 : llR (Res.star [VR (.slice (some ⟨b16, 0, none⟩) 1 1) 25 1 [[.slice (some ⟨b15, 0, none⟩) 1 1]], NR (.slice (some ⟨b15, 0, none⟩) 1 1) [c]]) (.slice (some ⟨b16, 0, none⟩) 1 1) [[c]] :=
    row_vr hok16 rfl (rd_in (by repeat (first | exact Sel.here | apply Sel.there))) (Cor.one (X := llC _) ⟨_, rfl, (nms_own hok15).mono (rd_in (by repeat (first | exact Sel.here | apply Sel.there)))⟩).2
  generalize Res.star [VR (.slice (some ⟨b16, 0, none⟩) 1 1) 25 1 [[.slice (some ⟨b15, 0, none⟩) 1 1]], NR (.slice (some ⟨b15, 0, none⟩) 1 1) [c]] = T0 at *
  generalize Value.slice (some ⟨b16, 0, none⟩) 1 1 = w0 at *
  refine st_v (v_assign rfl) (st_nil (nx_kp [0, 2, 6, 7] rfl (nx_then (cd_seq (cd_seq (cd_region (st_v (v_assign rfl) (st_nil (nx_then (cd_block (cd_lq (σ := Value × Res × Nat) (fun q => [(0, .slice la l.length cap), (2, sv a), (7, q.1), (8, .int .i64 (q.2.2 : Nat))]) (fun q => q.2.1 :: S :: hr) (fun q => q.2.2 ≤ l.length + 1 ∧ llR q.2.1 q.1 (lsts l c q.2.2) ∧ (lsts l c q.2.2).length ≤ 1000 ∧ ∀ j, j < q.2.2 → hit a (lsts l c (j + 1)) = none) (fun q => l.length + 1 - q.2.2) (w0, T0, 0) ⟨Nat.zero_le _, h0, by simp [lsts], fun j hj => absurd hj (Nat.not_lt_zero _)⟩ ?_)))))))))))
  rintro ⟨w, T, k⟩ ⟨hk, hw, hwl, hno⟩
  simp only at hk hw hwl hno
  dsimp only
  obtain ⟨wa, wcap, rfl, _⟩ := id hw
  refine cd_seq (cd_seq (cd_region (st_v (v_move rfl) (st_v (v_move rfl) (st_v (v_len rfl Try.underlying22) (st_v (v_leq rfl rfl) (st_nil (nx_kp [0, 2, 7, 8, 20] rfl (nx_then (cd_cond rfl (fun hd => ?_) (fun hd => ?_)))))))))))
  · skip
    have hkl : k ≤ l.length := by simpa using hd
    have hrows := (lsts_spec l c k).1.1
    have hnext : lsts l c (k + 1) = (lsts l c k).foldl (ext1 l) [] := rfl
    generalize lsts l c k = L at *
    refine cd_skip (xt_then (cd_seq (cd_block (cd_seq (cd_region (st_v (v_assign rfl) (st_nil (nx_kp [0, 2, 7, 8, 9] rfl (nx_then (cd_seq (cd_seq (cd_region (st_v (v_assign rfl) (st_nil (nx_then (cd_block ?_))))))))))))))))
    refine cd_vw (vw_unstar (L := [])) (cd_lq (σ := Value × Res × Nat) (fun q => [(0, .slice la l.length cap), (2, sv a), (7, .slice wa L.length wcap), (8, .int .i64 (k : Nat)), (9, q.1), (10, .int .i64 (q.2.2 : Nat))]) (fun q => q.2.1 :: T :: S :: hr) (fun q => q.2.2 ≤ L.length ∧ llR q.2.1 q.1 ((L.take q.2.2).foldl (ext1 l) []) ∧ Ones (LnP l (k + 2)) ((L.take q.2.2).foldl (ext1 l) [])) (fun q => L.length - q.2.2) (.slice none 0 0, Res.star [], 0) ⟨Nat.zero_le _, Row.nil, Ones.empty⟩ ?_)
    rintro ⟨nv, N, i⟩ ⟨hi, hN, hO⟩
    simp only at hi hN hO
    dsimp only
    obtain ⟨na, ncap, rfl, _⟩ := id hN
    refine cd_seq (cd_seq (cd_region (st_v (v_move rfl) (st_v (v_move rfl) (st_v (v_len rfl Try.underlying32) (st_v (v_lss rfl rfl) (st_nil (nx_kp [0, 2, 7, 8, 9, 10, 26] rfl (nx_then (cd_cond rfl (fun hd2 => ?_) (fun hd2 => ?_)))))))))))
    · skip
      have hlt : i < L.length := by simpa using hd2
      have hzi := List.getElem?_eq_getElem hlt
      obtain ⟨hzl, _⟩ := hrows _ (List.getElem_mem hlt)
      have hex := exp_succ (l := l) hlt
      obtain ⟨b, o, cap2, u, hv2, hrd, hu⟩ := ll_at hw hzi
      generalize L[i] = z at *
      generalize (L.take i).foldl (ext1 l) [] = N0 at *
      obtain ⟨ua, ucap, rfl, _⟩ := id hu
      obtain ⟨zk, hzk, hzkl, hze⟩ := lastN_get (w := z) (fun e => by rw [e] at hzl; simp at hzl)
      obtain ⟨zb, zo, zcap2, hzv2, hzrd⟩ := nms_at hu (List.getElem?_eq_getElem hzk)
      rw [hze] at hzrd
      refine cd_skip (xt_then (cd_seq (cd_block (cd_seq (cd_drawh (ork [(0, 2), (1, 2), (2, 2), (3, 2), (4, 1), (5, 2), (6, 2), (7, 2), (8, 1), (9, 2), (10, 2), (11, 2), (12, 1), (13, 0), (14, 2)] .nil) (fun i => !(Nat.beq i 13)) mixed (by kernel_rfl) ?_)))))
      refine dp_v rfl (v_move rfl) (dp_v rfl (v_move rfl) (dp_v rfl (v_move rfl) (dp_v rfl (v_indexAddr (k := i) (congrArg some hv2) rfl sl32 rfl hlt rfl) (dr_v rfl (v_ldy rfl ld25) ?_))))
      refine dp_v rfl (v_move rfl) (dp_v rfl (v_move rfl) (dp_v rfl (v_indexAddr (k := i) (congrArg some hv2) rfl sl32 rfl hlt rfl) (dr_v rfl (v_ldy rfl ld25) ?_)))
      refine dp_v rfl (v_len rfl Try.underlying25) (dp_v rfl (v_sub rfl rfl (by unfold I64 at *; omega)) (dp_v rfl (v_indexAddr (k := zk) (congrArg some hzv2) rfl sl25 (by omega) hzk rfl) (dr_v rfl (v_ldy rfl ld9) ?_)))
      refine dr_eff rfl (st_cl rfl rfl en59 rfl (parents_ct hv (lastN z) (by omega) hp) ?_)
      rintro u h' ⟨Tp, rfl, hu1, rfl, hpn⟩
      simp only [List.cons_append, List.nil_append]
      rw [← ext0_all] at hex
      have hpl := pars_le (c := lastN z) hp
      generalize pars l (lastN z) = ps at *
      obtain ⟨pa, pcap, rfl, _⟩ := id hpn
      refine dr_nx ?_
      refine dp_v rfl (v_assign rfl) (dr_nil (nx_kp [0, 2, 7, 8, 9, 10, 11] rfl (nx_then (cd_seq (cd_region (st_v (v_assign rfl) (st_nil (nx_then (cd_block (cd_lq (σ := Value × Res × Nat) (fun q => [(0, .slice la l.length cap), (2, sv a), (7, .slice wa L.length wcap), (8, .int .i64 (k : Nat)), (9, q.1), (10, .int .i64 (i : Nat)), (11, .slice pa ps.length pcap), (12, .int .i64 (q.2.2 : Nat))]) (fun q => q.2.1 :: NR (.slice pa ps.length pcap) ps :: T :: S :: hr) (fun q => q.2.2 ≤ ps.length ∧ llR q.2.1 q.1 (ext0 l z (ps.take q.2.2) N0) ∧ Ones (LnP l (k + 2)) (ext0 l z (ps.take q.2.2) N0)) (fun q => ps.length - q.2.2) (.slice na N0.length ncap, N, 0) ⟨Nat.zero_le _, hN, hO⟩ ?_))))))))))
      rintro ⟨mv, M, j⟩ ⟨hj, hM, hO2⟩
      simp only at hj hM hO2
      dsimp only
      obtain ⟨ma, mcap, rfl, _⟩ := id hM
      refine cd_seq (cd_seq (cd_region (st_v (v_move rfl) (st_v (v_move rfl) (st_v (v_len rfl Try.underlying25) (st_v (v_lss rfl rfl) (st_nil (nx_kp [0, 2, 7, 8, 9, 10, 11, 12, 46] rfl (nx_then (cd_cond rfl (fun hd3 => ?_) (fun hd3 => ?_)))))))))))
      · skip
        have hjlt : j < ps.length := by simpa using hd3
        obtain ⟨pb, po, pcap2, hpv2, hprd⟩ := nms_at hpn (List.getElem?_eq_getElem hjlt)
        have htk := List.take_succ_eq_append_getElem hjlt
        generalize ps[j] = p at *
        refine cd_skip (xt_then (cd_seq (cd_block (cd_seq (cd_region (st_v (v_move rfl) (st_v (v_move rfl) (st_v (v_move rfl) (st_v (v_indexAddr (k := j) (congrArg some hpv2) rfl sl25 rfl hjlt rfl) (st_v (v_ldy rfl ld9) ?_))))))))))
        refine st_clr rfl rfl en94 rfl (index_ct hv p (by omega)) ?_
        refine st_v (v_geq rfl rfl) (st_nil (nx_kp [0, 2, 7, 8, 9, 10, 11, 12, 55] rfl (nx_then ?_)))
        rw [ixN_isC]
        refine cd_cond rfl (fun hc => ?_) (fun hc => ?_)
        · skip
          have hyes := ext0_yes (w := z) (ps := ps.take j) (n := N0) hc
          rw [← htk] at hyes
          generalize ext0 l z (ps.take j) N0 = N1 at *
          have hn1 := ones_len hO2
          have hO3 : Ones (LnP l (k + 2)) (ins1 N1 (z ++ [p])) := ins1_ones hO2 ⟨by simp [hzl], by rw [lastN_snoc]; exact hc⟩
          refine cd_drawh (ork [(0, 2), (2, 2), (3, 2), (4, 2), (5, 1), (7, 2), (8, 2), (9, 2), (10, 1)] (.two 1 (.two 6 (ork [(11, 0), (12, 0), (13, 0), (14, 2)] .nil) 11 (ork [(6, 0), (12, 0), (13, 0), (14, 2)] .nil)) 11 (ork [(1, 0), (6, 0), (12, 0), (13, 0), (14, 2)] .nil))) (fun i => !(Nat.beq i 12 || Nat.beq i 13)) mixed (by kernel_rfl) ?_
          refine dp_v rfl (v_move rfl) (dp_v rfl (v_move rfl) (dp_v rfl (v_move rfl) (dp_v rfl (v_indexAddr (k := i) (congrArg some hv2) rfl sl32 rfl hlt rfl) (dr_v rfl (v_ldy rfl ld25) ?_))))
          refine dp_v rfl (v_move rfl) (dp_v rfl (v_move rfl) (dp_v rfl (v_indexAddr (k := j) (congrArg some hpv2) rfl sl25 rfl hjlt rfl) (dr_v rfl (v_ldy rfl ld9) ?_)))
          refine dr_two rfl rfl ?_ ?_
          · skip
            refine st_bs0 Try.underlying25 inf9 fun b57 => dr_nx ?_
            refine dr_two rfl rfl ?_ ?_
            · skip
              refine st_apr hu rfl rfl Try.underlying25 inf9 rfl (by decide) (show Sel _ (VR (.slice (some ⟨b57, 0, none⟩) 0 0) 9 1 []) _ from (by repeat (first | exact Sel.here | apply Sel.there))) (show Sel _ T _ from (by repeat (first | exact Sel.here | apply Sel.there))) (fun us x _ h => str_one h) (by simp <;> omega) (by simp <;> omega) (ltn rfl) fun v62 n1 hv62 q1 q2 q3 => dr_nx ?_
              cases news_names q1 q3
              refine dr_eff rfl (st_buildSlice (cells := [sv p]) rfl Try.underlying25 inf9 rfl rfl (by kernel_rfl) (ltn rfl) fun b67 => dr_nx ?_)
              refine dr_eff rfl (st_app [nC p] rfl rfl Try.underlying25 inf9 rfl (by decide) (show Sel _ (VR v62 9 1 ([] ++ z.map nC)) _ from (by repeat (first | exact Sel.here | apply Sel.there))) (by simp [nC]) rfl (fun j u2 hu2 => by repeat (first | exact at_here (rd_cl (by simpa [nC] using hu2)) | apply at_there)) (by simp [nC, Value.oneCell']) (by simp <;> omega) (by simp <;> omega) (ltn rfl) fun v68 hv68 _ => ?_)
              rw [show [] ++ z.map nC ++ [nC p] = (z ++ [p]).map nC by simp]
              refine st_ok (r := NR v68 (z ++ [p])) (by repeat (first | exact Sel.here | apply Sel.there)) fun hok68 => ?_
              refine dr_nx ?_
              refine dr_eff rfl (st_cl rfl rfl en102 rfl (first_ct hM (nms_own hok68) (by simp) (by simp; omega) (fun x hx => by have := (hO2.1 x hx).1; exact ⟨fun e => by rw [e] at this; simp at this, by omega⟩) (by omega)) ?_)
              rintro u h' ⟨T2, rfl, hu2, hT2⟩
              simp only [List.cons_append, List.nil_append]
              rw [← hyes] at hT2 hO3
              refine dr_nx ?_
              refine dp_v rfl (v_assign rfl) (dr_nil (nx_kp [0, 2, 7, 8, 9, 10, 11, 12] rfl (nx_xt (xt_normal_block (xt_then (cd_region (st_v (v_move rfl) (st_v (v_add rfl rfl (by unfold I64 at *; omega)) (st_v (v_assign rfl) (st_nil (nx_kp [0, 2, 7, 8, 9, 10, 11, 12] rfl (nx_xt ?_))))))))))))
              refine xt_aq (u, T2, j + 1) ⟨hjlt, hT2, hO3⟩ (Nat.sub_lt_sub_left hjlt (Nat.lt_succ_self j))
            · skip
              refine st_buildSlice (cells := [sv p]) rfl Try.underlying25 inf9 rfl rfl (by kernel_rfl) (ltn rfl) fun b67 => dr_nx ?_
              refine dr_eff rfl (st_apr hu rfl rfl Try.underlying25 inf9 rfl (by decide) (show Sel _ (VR (.slice (some ⟨b57, 0, none⟩) 0 0) 9 1 []) _ from (by repeat (first | exact Sel.here | apply Sel.there))) (show Sel _ T _ from (by repeat (first | exact Sel.here | apply Sel.there))) (fun us x _ h => str_one h) (by simp <;> omega) (by simp <;> omega) (ltn rfl) fun v62 n1 hv62 q1 q2 q3 => dr_nx ?_)
              cases news_names q1 q3
              refine dr_eff rfl (st_app [nC p] rfl rfl Try.underlying25 inf9 rfl (by decide) (show Sel _ (VR v62 9 1 ([] ++ z.map nC)) _ from (by repeat (first | exact Sel.here | apply Sel.there))) (by simp [nC]) rfl (fun j u2 hu2 => by repeat (first | exact at_here (rd_cl (by simpa [nC] using hu2)) | apply at_there)) (by simp [nC, Value.oneCell']) (by simp <;> omega) (by simp <;> omega) (ltn rfl) fun v68 hv68 _ => ?_)
              rw [show [] ++ z.map nC ++ [nC p] = (z ++ [p]).map nC by simp]
              refine st_ok (r := NR v68 (z ++ [p])) (by repeat (first | exact Sel.here | apply Sel.there)) fun hok68 => ?_
              refine dr_nx ?_
              refine dr_eff rfl (st_cl rfl rfl en102 rfl (first_ct hM (nms_own hok68) (by simp) (by simp; omega) (fun x hx => by have := (hO2.1 x hx).1; exact ⟨fun e => by rw [e] at this; simp at this, by omega⟩) (by omega)) ?_)
              rintro u h' ⟨T2, rfl, hu2, hT2⟩
              simp only [List.cons_append, List.nil_append]
              rw [← hyes] at hT2 hO3
              refine dr_nx ?_
              refine dp_v rfl (v_assign rfl) (dr_nil (nx_kp [0, 2, 7, 8, 9, 10, 11, 12] rfl (nx_xt (xt_normal_block (xt_then (cd_region (st_v (v_move rfl) (st_v (v_add rfl rfl (by unfold I64 at *; omega)) (st_v (v_assign rfl) (st_nil (nx_kp [0, 2, 7, 8, 9, 10, 11, 12] rfl (nx_xt ?_))))))))))))
              refine xt_aq (u, T2, j + 1) ⟨hjlt, hT2, hO3⟩ (Nat.sub_lt_sub_left hjlt (Nat.lt_succ_self j))
          · skip
            refine st_buildSlice (cells := [sv p]) rfl Try.underlying25 inf9 rfl rfl (by kernel_rfl) (ltn rfl) fun b67 => dr_nx ?_
            refine dr_eff rfl (st_bs0 Try.underlying25 inf9 fun b57 => dr_nx ?_)
            refine dr_eff rfl (st_apr hu rfl rfl Try.underlying25 inf9 rfl (by decide) (show Sel _ (VR (.slice (some ⟨b57, 0, none⟩) 0 0) 9 1 []) _ from (by repeat (first | exact Sel.here | apply Sel.there))) (show Sel _ T _ from (by repeat (first | exact Sel.here | apply Sel.there))) (fun us x _ h => str_one h) (by simp <;> omega) (by simp <;> omega) (ltn rfl) fun v62 n1 hv62 q1 q2 q3 => dr_nx ?_)
            cases news_names q1 q3
            refine dr_eff rfl (st_app [nC p] rfl rfl Try.underlying25 inf9 rfl (by decide) (show Sel _ (VR v62 9 1 ([] ++ z.map nC)) _ from (by repeat (first | exact Sel.here | apply Sel.there))) (by simp [nC]) rfl (fun j u2 hu2 => by repeat (first | exact at_here (rd_cl (by simpa [nC] using hu2)) | apply at_there)) (by simp [nC, Value.oneCell']) (by simp <;> omega) (by simp <;> omega) (ltn rfl) fun v68 hv68 _ => ?_)
            rw [show [] ++ z.map nC ++ [nC p] = (z ++ [p]).map nC by simp]
            refine st_ok (r := NR v68 (z ++ [p])) (by repeat (first | exact Sel.here | apply Sel.there)) fun hok68 => ?_
            refine dr_nx ?_
            refine dr_eff rfl (st_cl rfl rfl en102 rfl (first_ct hM (nms_own hok68) (by simp) (by simp; omega) (fun x hx => by have := (hO2.1 x hx).1; exact ⟨fun e => by rw [e] at this; simp at this, by omega⟩) (by omega)) ?_)
            rintro u h' ⟨T2, rfl, hu2, hT2⟩
            simp only [List.cons_append, List.nil_append]
            rw [← hyes] at hT2 hO3
            refine dr_nx ?_
            refine dp_v rfl (v_assign rfl) (dr_nil (nx_kp [0, 2, 7, 8, 9, 10, 11, 12] rfl (nx_xt (xt_normal_block (xt_then (cd_region (st_v (v_move rfl) (st_v (v_add rfl rfl (by unfold I64 at *; omega)) (st_v (v_assign rfl) (st_nil (nx_kp [0, 2, 7, 8, 9, 10, 11, 12] rfl (nx_xt ?_))))))))))))
            refine xt_aq (u, T2, j + 1) ⟨hjlt, hT2, hO3⟩ (Nat.sub_lt_sub_left hjlt (Nat.lt_succ_self j))
        · skip
          have hc : isC l p = false := by simpa using hc
          have hyes := ext0_no (w := z) (ps := ps.take j) (n := N0) hc
          rw [← htk] at hyes
          refine cd_skip (xt_normal_block (xt_then (cd_region (st_v (v_move rfl) (st_v (v_add rfl rfl (by unfold I64 at *; omega)) (st_v (v_assign rfl) (st_nil (nx_kp [0, 2, 7, 8, 9, 10, 11, 12] rfl (nx_xt ?_)))))))))
          refine xt_aq (.slice ma (ext0 l z (ps.take j) N0).length mcap, M, j + 1) ⟨hjlt, by rw [hyes]; exact hM, by rw [hyes]; exact hO2⟩ (Nat.sub_lt_sub_left hjlt (Nat.lt_succ_self j))
      · skip
        have hje : j = ps.length := by have : ¬ j < ps.length := by simpa using hd3
                                       omega
        subst hje
        rw [List.take_length, ← hex] at hM hO2
        refine cd_exit (xt_exit_then (xt_exit_then (xt_exit_block (xt_normal_block (xt_then (cd_region (st_v (v_move rfl) (st_v (v_add rfl rfl (by unfold I64 at *; omega)) (st_v (v_assign rfl) (st_nil (nx_kp [0, 2, 7, 8, 9, 10] rfl (nx_xt ?_))))))))))))
        refine xt_aq (.slice ma (ext0 l z (ps.take ps.length) N0).length mcap, M, i + 1) ⟨hlt, by rw [List.take_length, ← hex]; exact hM, hO2⟩ (Nat.sub_lt_sub_left hlt (Nat.lt_succ_self i))
    · skip
      have hie : i = L.length := by have : ¬ i < L.length := by simpa using hd2
                                    omega
      subst hie
      rw [List.take_length, ← hnext] at hN hO
      rw [List.take_length, ← hnext]
      refine cd_exit (xt_exit_then (xt_exit_then (xt_exit_block (xt_then (cd_seq (cd_seq (cd_region (st_v (v_assign rfl) (st_nil (nx_kp [0, 2, 7, 8, 9, 13] rfl (nx_then (cd_block (cd_lq (σ := Nat) (fun i => [(0, .slice la l.length cap), (2, sv a), (8, .int .i64 (k : Nat)), (9, .slice na (lsts l c (k + 1)).length ncap), (13, .int .i64 (i : Nat))]) (fun _ => N :: S :: hr) (fun i => i ≤ (lsts l c (k + 1)).length ∧ ∀ x ∈ (lsts l c (k + 1)).take i, lastN x ≠ a) (fun i => (lsts l c (k + 1)).length - i) 0 ⟨Nat.zero_le _, fun x hx => by simp at hx⟩ ?_)))))))))))))
      rintro i ⟨hi, hni⟩
      have hnl := ones_len hO
      refine cd_seq (cd_seq (cd_region (st_v (v_move rfl) (st_v (v_move rfl) (st_v (v_len rfl Try.underlying32) (st_v (v_lss rfl rfl) (st_nil (nx_kp [0, 2, 8, 9, 13, 73] rfl (nx_then (cd_cond rfl (fun hd4 => ?_) (fun hd4 => ?_)))))))))))
      · skip
        have hlt : i < (lsts l c (k + 1)).length := by simpa using hd4
        obtain ⟨b, o, cap2, u, hv2, hrd, hu⟩ := ll_at hN (List.getElem?_eq_getElem hlt)
        have hzl := (hO.1 _ (List.getElem_mem hlt)).1
        have hht := hit_at (a := a) hlt hni
        have htk := List.take_succ_eq_append_getElem hlt
        generalize (lsts l c (k + 1))[i] = z at *
        obtain ⟨ua, ucap, rfl, _⟩ := id hu
        obtain ⟨zk, hzk, hzkl, hze⟩ := lastN_get (w := z) (fun e => by rw [e] at hzl; simp at hzl)
        obtain ⟨zb, zo, zcap2, hzv2, hzrd⟩ := nms_at hu (List.getElem?_eq_getElem hzk)
        rw [hze] at hzrd
        refine cd_skip (xt_then (cd_seq (cd_block (cd_seq (cd_drawh (ork [(0, 2), (1, 2), (2, 2), (3, 1), (4, 2), (5, 2), (6, 2), (7, 1), (8, 2), (9, 2), (10, 2), (11, 1), (12, 2), (13, 1)] .nil) (fun _ => true) mixed (by kernel_rfl) ?_)))))
        refine dp_v rfl (v_move rfl) (dp_v rfl (v_move rfl) (dp_v rfl (v_indexAddr (k := i) (congrArg some hv2) rfl sl32 rfl hlt rfl) (dr_v rfl (v_ldy rfl ld25) ?_)))
        refine dp_v rfl (v_move rfl) (dp_v rfl (v_move rfl) (dp_v rfl (v_indexAddr (k := i) (congrArg some hv2) rfl sl32 rfl hlt rfl) (dr_v rfl (v_ldy rfl ld25) ?_)))
        refine dp_v rfl (v_len rfl Try.underlying25) (dp_v rfl (v_sub rfl rfl (by unfold I64 at *; omega)) (dp_v rfl (v_indexAddr (k := zk) (congrArg some hzv2) rfl sl25 (by omega) hzk rfl) (dr_v rfl (v_ldy rfl ld9) ?_)))
        refine dp_v rfl (v_move rfl) (dr_v rfl (v_seql rfl rfl) (dr_nil (nx_kp [0, 2, 8, 9, 13, 89] rfl (nx_then (cd_cond rfl (fun he => ?_) (fun he => ?_))))))
        · skip
          have he : lastN z = a := by simpa using he
          rw [further_hit hkl hno (hht he)]
          refine cd_seq (cd_region (st_v (v_move rfl) (st_v (v_move rfl) (st_v (v_indexAddr (k := i) (congrArg some hv2) rfl sl32 rfl hlt rfl) (st_v (v_ldy rfl ld25) ?_)))))
          refine st_v (v_assign rfl) (st_nil (nx_kp [6] rfl (nx_then (cd_ret (xt_ret_block (xt_ret_then (xt_ret_then (xt_ret_block (xt_ret_then (xt_ret_block (xt_ret_then (xt_ret_then (xt_ret_block (xt_ret_then ?_))))))))))))))
          exact xt_rt rfl ⟨N, rfl, rfl, hu⟩ (by (repeat (refine Sub.sel (by repeat (first | exact Sel.here | apply Sel.there)) ?_)); (repeat apply Sub.cons); first | exact Sub.refl _ | exact Sub.nil _)
        · skip
          have he : lastN z ≠ a := by simpa using he
          refine cd_skip (xt_normal_block (xt_then (cd_region (st_v (v_move rfl) (st_v (v_add rfl rfl (by unfold I64 at *; omega)) (st_v (v_assign rfl) (st_nil (nx_kp [0, 2, 8, 9, 13] rfl (nx_xt (xt_aq (i + 1) ⟨hlt, fun x hx => ?_⟩ (by show _ - _ < _ - _; omega)))))))))))
          rw [htk] at hx
          rcases List.mem_append.1 hx with hx | hx
          · exact hni x hx
          · simp at hx; rw [hx]; exact he
      · skip
        have hie : i = (lsts l c (k + 1)).length := by have : ¬ i < (lsts l c (k + 1)).length := by simpa using hd4
                                                       omega
        subst hie
        rw [List.take_length] at hni
        refine cd_exit (xt_exit_then (xt_exit_then (xt_exit_block (xt_then (cd_region (st_v (v_move rfl) (st_v (v_assign rfl) (st_nil (nx_kp [0, 2, 7, 8] rfl (nx_xt (xt_normal_block (xt_then (cd_region (st_v (v_move rfl) (st_v (v_add rfl rfl (by unfold I64 at *; omega)) ?_)))))))))))))))
        refine st_v (v_assign rfl) (st_nil (nx_kp [0, 2, 7, 8] rfl (nx_xt (xt_aq (.slice na (lsts l c (k + 1)).length ncap, N, k + 1) ⟨by show k + 1 ≤ l.length + 1; omega, hN, Nat.le_trans (ones_len hO) hl, fun j hj => ?_⟩ (by show l.length + 1 - (k + 1) < l.length + 1 - k; omega)))))
        rcases Nat.lt_or_ge j k with h | h
        · exact hno j h
        · have hj : j < k + 1 := hj
          rw [show j = k by omega]
          exact hit_no hni
  · skip
    have hkl : k = l.length + 1 := by have : ¬ k ≤ l.length := by simpa using hd
                                      omega
    subst hkl
    rw [further_miss hno]
    refine cd_exit (xt_exit_then (xt_exit_then (xt_exit_block (xt_then (cd_seq (cd_region (st_v (v_assign rfl) (st_nil (nx_kp [6] rfl (nx_then (cd_ret ?_)))))))))))
    exact xt_rt rfl ⟨T, rfl, rfl, Row.nil⟩ (by (repeat (refine Sub.sel (by repeat (first | exact Sel.here | apply Sel.there)) ?_)); (repeat apply Sub.cons); first | exact Sub.refl _ | exact Sub.nil _)
end
end Go.Hr
namespace Go.Hr
open Go Go.RowKit Go.Ck Go.Proofs Go.Proofs.Ytjgiaohieadeiaa Fx
attribute [local irreducible] Go.Ck.Sub St Cd Xt Nx DrL LsW
theorem further_len (l : Sys) (c a : Nm) : further l c a = [] ∨ (2 ≤ (further l c a).length ∧ (further l c a).length ≤ l.length + 2) := by
  unfold further
  cases hf : (List.range (l.length + 1)).findSome? fun k => hit a (lsts l c (k + 1)) with
  | none => exact .inl rfl
  | some w =>
    obtain ⟨k, hk, h⟩ := List.exists_of_findSome?_eq_some hf
    obtain ⟨_, h2, _⟩ := hit_some h
    have := List.mem_range.1 hk
    exact .inr ⟨by simp only [Option.getD_some]; omega, by simp only [Option.getD_some]; omega⟩
def noRing (l : Sys) (xs : Sys) : Prop := ∀ x ∈ xs, further l x.name x.name = []
theorem noRing_snoc {l xs : Sys} {x : Cls} : noRing l (xs ++ [x]) ↔ noRing l xs ∧ further l x.name x.name = [] := by
  unfold noRing
  constructor
  · exact fun h => ⟨fun y hy => h y (by simp [hy]), h x (by simp)⟩
  · rintro ⟨h1, h2⟩ y hy
    rcases List.mem_append.1 hy with hy | hy
    · exact h1 y hy
    · simp at hy; rw [hy]; exact h2
theorem noRing_acyc {l : Sys} : noRing l l ↔ Acyc l := by
  constructor
  · intro h c p hp
    have hc := par_of hp
    cases hh : has l p c with
    | false => rfl
    | true =>
      obtain ⟨x, hx, rfl⟩ := List.mem_map.1 (isC_iff.1 hc)
      exact absurd (h x hx) (further_ring.2 ⟨p, hp, hh⟩)
  · intro h x hx
    rcases further_len l x.name x.name with h1 | ⟨h1, _⟩
    · exact h1
    · obtain ⟨p, hp, hh⟩ := (further_ring (l := l) (c := x.name)).1 (fun e => by rw [e] at h1; simp at h1)
      rw [h x.name p hp] at hh; cases hh
section
variable {S : Res} {v : Value} {l : Sys}
set_option maxRecDepth 100000 in
theorem RingS_ct (hv : sysR S v l) (hl : l.length ≤ 24) (hp : ∀ x ∈ l, x.parents.length ≤ 1099511627776) : CtN Try.prog 95 #[v] [S] fun u T => ∃ r, u.oneCell' = true ∧ nmsR T u r ∧ r.length ≤ 1000 ∧ (r = [] ↔ noRing l l) := by
  obtain ⟨la, cap, rfl, _⟩ := id hv
  refine ct_of (n := 63) Try.func95 rfl rfl (len rfl) fun hr w0 => ?_
  refine cd_seq (cd_region (st_v (v_assign rfl) (st_nil (nx_then (cd_seq (cd_region (st_v (v_assign rfl) (st_nil (nx_then (cd_seq (cd_seq (cd_region (st_v (v_assign rfl) (st_nil (nx_then (cd_block ?_))))))))))))))))
  refine cd_vw (vw_unstar (L := [])) (cd_lq (σ := Value × List Nm × Res × Nat) (fun q => [(0, .slice la l.length cap), (3, q.1), (4, .int .i64 (q.2.2.2 : Nat))]) (fun q => q.2.2.1 :: S :: hr) (fun q => q.2.2.2 ≤ l.length ∧ nmsR q.2.2.1 q.1 q.2.1 ∧ q.2.1.length ≤ 1000 ∧ (q.2.1 = [] ↔ noRing l (l.take q.2.2.2))) (fun q => l.length - q.2.2.2) (.slice none 0 0, [], Res.star [], 0) ⟨Nat.zero_le _, Row.nil, by simp, by simp [noRing]⟩ ?_)
  rintro ⟨w, best, T, i⟩ ⟨hi, hw, hbl, hbn⟩
  simp only at hi hw hbl hbn
  dsimp only
  obtain ⟨wa, wcap, rfl, _⟩ := id hw
  refine cd_seq (cd_seq (cd_region (st_v (v_move rfl) (st_v (v_move rfl) (st_v (v_len rfl Try.underlying22) (st_v (v_lss rfl rfl) (st_v (v_move rfl) (st_cut (k := 9) (d := 15) (v := .bool (decide ((i : Int) < l.length) && decide ((l.length : Int) ≤ 24))) (fun hcut => bool_want (b := decide ((i : Int) < l.length)) true (fun hg => ?_) (fun hg => ?_)) ?_))))))))
  · refine st_sk rfl rfl hg ?_
    refine st_sk rfl rfl hg ?_
    refine st_sk rfl rfl hg ?_
    refine st_v (v_pick_false (bool_ev rfl hg) rfl) ?_
    exact hcut _ (ssub_head (by first | rfl | (rw [hg]; rfl) | simp_all) (ssub_skip rfl (ssub_skip rfl (ssub_skip rfl (ssub_refl)))))
  · skip
    refine st_vg rfl (bool_get rfl hg) (v_move rfl) (st_vg rfl (bool_get rfl hg) (v_len rfl Try.underlying22) (st_vg rfl (bool_get rfl hg) (v_leq rfl rfl) (st_v (v_pick_true (bool_ev rfl hg) rfl) ?_)))
    exact hcut _ (ssub_head (by first | rfl | (rw [hg]; rfl) | simp_all) (ssub_skip rfl (ssub_skip rfl (ssub_skip rfl (ssub_refl)))))
  refine st_nil (nx_kp [0, 3, 4, 15] rfl (nx_then ?_))
  rw [show decide ((l.length : Int) ≤ 24) = true from decide_eq_true (by omega), Bool.and_true]
  refine cd_cond rfl (fun hd => ?_) (fun hd => ?_)
  · skip
    have hlt : i < l.length := by simpa using hd
    have hxi := List.getElem?_eq_getElem hlt
    obtain ⟨b, o, cap2, d, f, pa, pc, c2, fa, fc, j2, hv2, hrd, hP, hone⟩ := sys_at hv hxi
    have htk := List.take_succ_eq_append_getElem hlt
    generalize l[i] = x at *
    refine cd_skip (xt_then (cd_seq (cd_block (cd_seq (cd_drawh (ork [(0, 2), (1, 2), (2, 2), (3, 2), (4, 2), (5, 1), (6, 2), (7, 2), (8, 2), (9, 2), (10, 1), (11, 0), (12, 2)] .nil) (fun i => !(Nat.beq i 11)) mixed (by kernel_rfl) ?_)))))
    refine dp_v rfl (v_move rfl) (dp_v rfl (v_move rfl) (dp_v rfl (v_move rfl) (dp_v rfl (v_indexAddr (k := i) (congrArg some hv2) rfl sl22 rfl hlt rfl) (dp_v rfl (v_fieldAddr rfl fa61_0 rfl) (dr_v rfl (v_ldy rfl ld9) ?_)))))
    refine dp_v rfl (v_move rfl) (dp_v rfl (v_move rfl) (dp_v rfl (v_indexAddr (k := i) (congrArg some hv2) rfl sl22 rfl hlt rfl) (dp_v rfl (v_fieldAddr rfl fa61_0 rfl) (dr_v rfl (v_ldy rfl ld9) ?_))))
    refine dr_eff rfl (st_cl rfl rfl en81 rfl (further_ct hv (by omega) hp x.name x.name) ?_)
    rintro u h' ⟨T2, rfl, hu1, hu⟩
    simp only [List.cons_append, List.nil_append]
    have hfl := further_len l x.name x.name
    have hsn := noRing_snoc (l := l) (xs := l.take i) (x := x)
    rw [← htk] at hsn
    generalize further l x.name x.name = r at *
    obtain ⟨ua, ucap, rfl, huc, _⟩ := id hu
    refine dr_nx ?_
    refine dp_v rfl (v_assign rfl) (dr_nil (nx_kp [0, 3, 4, 5] rfl (nx_then (cd_seq (cd_seq (cd_region (st_v (v_move rfl) (st_v (v_len rfl Try.underlying25) (st_v (v_eql rfl rfl) (st_nil (nx_kp [0, 3, 4, 5, 32] rfl (nx_then ?_))))))))))))
    have hrl : r.length ≤ 26 := by rcases hfl with h | h; rw [h]; simp; omega
    refine cd_cond rfl (fun he => ?_) (fun he => ?_)
    · skip
      have he : r = [] := by simpa using he
      refine cd_exit (xt_exit_then (xt_exit_block (xt_then (cd_region (st_v (v_move rfl) (st_v (v_add rfl rfl (by unfold I64 at *; omega)) (st_v (v_assign rfl) (st_nil (nx_kp [0, 3, 4] rfl (nx_xt ?_))))))))))
      refine xt_aq (.slice wa best.length wcap, best, T, i + 1) ⟨hlt, hw, hbl, by rw [hbn]; exact ⟨fun h => hsn.2 ⟨h, he⟩, fun h => (hsn.1 h).1⟩⟩ (Nat.sub_lt_sub_left hlt (Nat.lt_succ_self i))
    · skip
      have he : r ≠ [] := by simpa using he
      have h2 : 2 ≤ r.length := (hfl.resolve_left he).1
      have hnr : ¬ noRing l (l.take (i + 1)) := fun h => he (hsn.1 h).2
      refine cd_skip (xt_then (cd_seq (cd_region (st_v (v_move rfl) (st_v (v_move rfl) (st_v (v_len rfl Try.underlying25) (st_v (v_sub rfl rfl (by unfold I64 at *; omega)) ?_)))))))
      obtain ⟨rb, ro, rcap, hrv, _⟩ := nms_at hu (List.getElem?_eq_getElem (show 0 < r.length by omega))
      cases hrv
      refine st_v (v_sliceHead (hi := r.length - 1) rfl rfl sl25 (by omega) (by omega)) (st_v (v_assign rfl) (st_nil (nx_kp [0, 3, 4, 5] rfl (nx_then (cd_seq (cd_region (st_v (v_move rfl) (st_v (v_move rfl) ?_))))))))
      have hu2 := Row.take (k := r.length - 1) hu (by omega)
      have hrl2 : (r.take (r.length - 1)).length = r.length - 1 := by simp
      have hrn : r.take (r.length - 1) ≠ [] := fun e => by rw [e] at hrl2; simp at hrl2; omega
      generalize r.take (r.length - 1) = r2 at *
      rw [← hrl2] at hu2
      rw [← hrl2]
      refine st_clr rfl rfl en109 rfl (Before_ct hu2 hw (by omega) (by omega)) ?_
      refine st_v (v_assign rfl) (st_nil (nx_kp [0, 3, 4, 5, 6] rfl (nx_then (cd_seq (cd_region (st_v (v_move rfl) (st_v (v_len rfl Try.underlying25) (st_v (v_eql rfl rfl) (st_v (v_move rfl) (st_cut (k := 10) (d := 50) (v := .bool (((best.length : Int) == 0) || decide ((r2.length : Int) < best.length))) (fun hcut => bool_want (b := ((best.length : Int) == 0)) false (fun hg => ?_) (fun hg => ?_)) ?_))))))))))
      · refine st_sk rfl rfl hg ?_
        refine st_sk rfl rfl hg ?_
        refine st_sk rfl rfl hg ?_
        refine st_sk rfl rfl hg ?_
        refine st_sk rfl rfl hg ?_
        refine st_v (v_pick_true (bool_ev rfl hg) rfl) ?_
        exact hcut _ (ssub_head (by first | rfl | (rw [hg]; rfl) | simp_all) (ssub_skip rfl (ssub_skip rfl (ssub_skip rfl (ssub_skip rfl (ssub_skip rfl (ssub_refl)))))))
      · skip
        refine st_vg rfl (bool_get rfl hg) (v_move rfl) (st_vg rfl (bool_get rfl hg) (v_len rfl Try.underlying25) (st_vg rfl (bool_get rfl hg) (v_move rfl) (st_vg rfl (bool_get rfl hg) (v_len rfl Try.underlying25) (st_vg rfl (bool_get rfl hg) (v_lss rfl rfl) (st_v (v_pick_false (bool_ev rfl hg) rfl) ?_)))))
        exact hcut _ (ssub_head (by first | rfl | (rw [hg]; rfl) | simp_all) (ssub_skip rfl (ssub_skip rfl (ssub_skip rfl (ssub_skip rfl (ssub_skip rfl (ssub_refl)))))))
      refine st_v (v_move rfl) (st_cut (k := 20) (d := 60) (v := .bool ((((best.length : Int) == 0) || decide ((r2.length : Int) < best.length)) || (((r2.length : Int) == best.length) && lexLt r2 best))) (fun hcut => bool_want (b := (((best.length : Int) == 0) || decide ((r2.length : Int) < best.length))) false (fun hg => ?_) (fun hg => ?_)) ?_)
      · refine st_sk rfl rfl hg ?_
        refine st_sk rfl rfl hg ?_
        refine st_sk rfl rfl hg ?_
        refine st_sk rfl rfl hg ?_
        refine st_sk rfl rfl hg ?_
        refine st_sk rfl rfl hg ?_
        refine st_sku rfl rfl ?_
        refine st_sk rfl rfl hg ?_
        refine st_v (v_pick_true (bool_ev rfl hg) rfl) ?_
        exact hcut _ (ssub_head (by first | rfl | (rw [hg]; rfl) | simp_all) (ssub_skip rfl (ssub_skip rfl (ssub_skip rfl (ssub_skip rfl (ssub_skip rfl (ssub_skip rfl (ssub_skip rfl (ssub_skip rfl (ssub_refl))))))))))
      · skip
        refine st_vg rfl (bool_get rfl hg) (v_move rfl) (st_vg rfl (bool_get rfl hg) (v_len rfl Try.underlying25) (st_vg rfl (bool_get rfl hg) (v_move rfl) (st_vg rfl (bool_get rfl hg) (v_len rfl Try.underlying25) (st_vg rfl (bool_get rfl hg) (v_eql rfl rfl) (st_vg rfl (bool_get rfl hg) (v_move rfl) (st_cut (k := 19) (d := 59) (v := .bool (((r2.length : Int) == best.length) && lexLt r2 best)) (fun hcut => bool_want (b := ((r2.length : Int) == best.length)) true (fun hg1 => ?_) (fun hg1 => ?_)) ?_))))))
        · refine st_sk rfl rfl hg1 ?_
          refine st_vg rfl (bool_get rfl hg) (v_pick_false (bool_ev rfl hg1) rfl) ?_
          exact hcut _ (ssub_head (by first | rfl | (rw [hg1]; rfl) | simp_all) (ssub_skip rfl (ssub_refl)))
        · skip
          refine st_vg rfl (bool_get rfl hg1) (v_move rfl) (st_vg rfl (bool_get rfl hg) (v_pick_true (bool_ev rfl hg1) rfl) ?_)
          exact hcut _ (ssub_head (by first | rfl | (rw [hg1]; rfl) | simp_all) (ssub_skip rfl (ssub_refl)))
        refine st_v (v_pick_false (bool_ev rfl hg) rfl) ?_
        exact hcut _ (ssub_head (by first | rfl | (rw [hg]; rfl) | simp_all) (by repeat (first | exact ssub_refl | refine ssub_skip rfl ?_)))
      refine st_nil (nx_kp [0, 3, 4, 5, 60] rfl (nx_then (cd_cond rfl (fun hb => ?_) (fun hb => ?_))))
      · skip
        refine cd_region (st_v (v_move rfl) (st_v (v_assign rfl) (st_nil (nx_kp [0, 3, 4] rfl (nx_xt (xt_normal_block (xt_then (cd_region (st_v (v_move rfl) (st_v (v_add rfl rfl (by unfold I64 at *; omega)) (st_v (v_assign rfl) (st_nil (nx_kp [0, 3, 4] rfl (nx_xt ?_))))))))))))))
        refine xt_aq (.slice (some ⟨rb, ro, none⟩) r2.length ucap, r2, T2, i + 1) ⟨hlt, hu2, by show r2.length ≤ 1000; omega, ⟨fun h => absurd h hrn, fun h => absurd h hnr⟩⟩ (Nat.sub_lt_sub_left hlt (Nat.lt_succ_self i))
      · skip
        have hbe : best ≠ [] := fun e => by rw [e] at hb; simp at hb
        refine cd_skip (xt_normal_block (xt_then (cd_region (st_v (v_move rfl) (st_v (v_add rfl rfl (by unfold I64 at *; omega)) (st_v (v_assign rfl) (st_nil (nx_kp [0, 3, 4] rfl (nx_xt ?_)))))))))
        refine xt_aq (.slice wa best.length wcap, best, T, i + 1) ⟨hlt, hw, hbl, ⟨fun h => absurd h hbe, fun h => absurd h hnr⟩⟩ (Nat.sub_lt_sub_left hlt (Nat.lt_succ_self i))
  · skip
    have hil : i = l.length := by have : ¬ i < l.length := by simpa using hd
                                  omega
    subst hil
    rw [List.take_length] at hbn
    refine cd_exit (xt_exit_then (xt_exit_then (xt_exit_block (xt_then (cd_seq (cd_region (st_v (v_move rfl) (st_v (v_assign rfl) (st_nil (nx_kp [2] rfl (nx_then (cd_ret ?_))))))))))))
    exact xt_rt rfl ⟨T, rfl, best, rfl, hw, hbl, hbn⟩ (by (repeat (refine Sub.sel (by repeat (first | exact Sel.here | apply Sel.there)) ?_)); (repeat apply Sub.cons); first | exact Sub.refl _ | exact Sub.nil _)
end
end Go.Hr
namespace Go.Hr
open Go Go.RowKit Go.Ck Go.Proofs Go.Proofs.Ytjgiaohieadeiaa Fx
attribute [local irreducible] Go.Ck.Sub St Cd Xt Nx DrL LsW
theorem ld30 : LdN Try.prog 30 2 := LdN.of Try.underlying30 sz30
theorem ld36 : LdN Try.prog 36 2 := LdN.of Try.underlying36 sz36
theorem ld47 : LdN Try.prog 47 2 := LdN.of Try.underlying47 sz47
theorem ld79 : LdN Try.prog 79 2 := LdN.of Try.underlying79 sz79
theorem ld82 : LdN Try.prog 82 2 := LdN.of Try.underlying82 sz82
theorem ld106 : LdN Try.prog 106 2 := LdN.of Try.underlying106 sz106
theorem lost_not {l : Sys} {x : Cls} (h : lost l x = false) : ∀ p ∈ x.parents, isC l p = true := by
  unfold lost at h
  rw [List.any_eq_false] at h
  exact fun p hp => by simpa using h p hp
theorem lost_of {l : Sys} {x : Cls} (h : ∀ p ∈ x.parents, isC l p = true) : lost l x = false := by
  unfold lost
  rw [List.any_eq_false]
  exact fun p hp => by rw [h p hp]; decide
section
variable {S : Res} {v : Value} {l : Sys}
set_option maxHeartbeats 1000000 in
set_option maxRecDepth 100000 in
theorem CheckS_ct (hv : sysR S v l) (hl : l.length ≤ 1000000) : Ct Try.prog 56 #[v] [S] fun u h' => ∃ n, u = .agg #[.int .i64 (check l).1, sv n] ∧ h' = [S] := by
  obtain ⟨la, cap, rfl, _⟩ := id hv
  refine ct_of (n := 74) Try.func56 rfl rfl (len rfl) fun hr w0 => ?_
  refine cd_seq (cd_region (st_alc al106 fun b2 => ?_))
  refine st_nil (nx_then (cd_seq (cd_seq (cd_region (st_v (v_move rfl) (st_v (v_len rfl Try.underlying22) (st_v (v_gtr rfl rfl) (st_nil (nx_kp [0, 2, 10] rfl (nx_then (cd_cond rfl (fun h24 => ?_) (fun h24 => ?_))))))))))))
  · skip
    have h24 : 24 < l.length := by have : (24 : Int) < l.length := by simpa using h24
                                   omega
    rw [check_limit h24]
    refine cd_seq (cd_region (st_v (v_build (cells := [.int .i64 3, sv []]) rfl (fun _ => by kernel_rfl)) ?_))
    refine st_stoW rfl rfl sz106 rfl rfl ?_
    refine st_nil (nx_kp [2] rfl (nx_then (cd_ret (xt_ret_then ?_))))
    exact xt_retV (.cellN rfl ld106 rfl (by repeat (first | exact Sel.here | apply Sel.there)) .nil) ⟨[], rfl, rfl⟩ (by repeat (first | exact Sub.refl _ | exact Sub.nil _ | refine Sub.sel (by repeat (first | exact Sel.here | apply Sel.there)) ?_ | apply Sub.cons))
  · skip
    have h24 : l.length ≤ 24 := by have : ¬ (24 : Int) < l.length := by simpa using h24
                                   omega
    refine cd_skip (xt_then (cd_seq (cd_seq (cd_region (st_v (v_assign rfl) (st_nil (nx_kp [0, 2, 3] rfl (nx_then (cd_block (cd_lq (σ := Nat) (fun i => [(0, .slice la l.length cap), (2, .pointer (some ⟨b2, 0, none⟩)), (3, .int .i64 (i : Nat))]) (fun _ => pt b2 (cl [.int .i64 0, sv []] 106) :: S :: hr) (fun i => i ≤ l.length ∧ ∀ (j : Nat) (y : Cls), j < i → l[j]? = some y → alone l j y = 0) (fun i => l.length - i) 0 ⟨Nat.zero_le _, fun j y hj => absurd hj (Nat.not_lt_zero _)⟩ ?_))))))))))
    rintro i ⟨hi, hb⟩
    refine cd_seq (cd_seq (cd_region (st_v (v_move rfl) (st_v (v_move rfl) (st_v (v_len rfl Try.underlying22) (st_v (v_lss rfl rfl) (st_nil (nx_kp [0, 2, 3, 15] rfl (nx_then (cd_cond rfl (fun hd => ?_) (fun hd => ?_)))))))))))
    · skip
      have hlt : i < l.length := by simpa using hd
      have hxi := List.getElem?_eq_getElem hlt
      obtain ⟨b, o, cap2, d, f, pa, pc, c2, fa, fc, j2, hv2, hrd, hP, hone⟩ := sys_at hv hxi
      generalize l[i] = x at *
      refine cd_skip (xt_then (cd_seq (cd_block (cd_seq (cd_region (st_v (v_move rfl) (st_v (v_move rfl) (st_clr rfl rfl en93 rfl (aloneS_ct hv hl hxi) ?_))))))))
      refine st_v (v_assign rfl) (st_nil (nx_kp [0, 2, 3, 4] rfl (nx_then (cd_seq (cd_region (st_v (v_move rfl) (st_v (v_neq rfl rfl) (st_nil (nx_kp [0, 2, 3, 4, 22] rfl (nx_then (cd_cond rfl (fun hn => ?_) (fun hn => ?_))))))))))))
      · skip
        have hn : alone l i x ≠ 0 := by simpa using hn
        rw [check_alone h24 hxi hb hn]
        refine cd_seq (cd_region (st_v (v_move rfl) (st_v (v_move rfl) (st_v (v_move rfl) (st_v (v_indexAddr (k := i) (congrArg some hv2) rfl sl22 rfl hlt rfl) (st_v (v_fieldAddr rfl fa61_0 rfl) (st_v (v_ldy rfl ld9) ?_)))))))
        refine st_v (v_build (cells := [.int .i64 (alone l i x), sv x.name]) rfl (fun _ => by kernel_rfl)) ?_
        refine st_stoW rfl rfl sz106 rfl rfl ?_
        refine st_nil (nx_kp [2] rfl (nx_then (cd_ret (xt_ret_block (xt_ret_then (xt_ret_then (xt_ret_block (xt_ret_then ?_))))))))
        exact xt_retV (.cellN rfl ld106 rfl (by repeat (first | exact Sel.here | apply Sel.there)) .nil) ⟨x.name, rfl, rfl⟩ (by repeat (first | exact Sub.refl _ | exact Sub.nil _ | refine Sub.sel (by repeat (first | exact Sel.here | apply Sel.there)) ?_ | apply Sub.cons))
      · skip
        have hn : alone l i x = 0 := by simpa using hn
        refine cd_skip (xt_normal_block (xt_then (cd_region (st_v (v_move rfl) (st_v (v_add rfl rfl (by unfold I64 at *; omega)) (st_v (v_assign rfl) (st_nil (nx_kp [0, 2, 3] rfl (nx_xt (xt_aq (i + 1) ⟨hlt, fun j y hj hy => ?_⟩ (by show _ - _ < _ - _; omega)))))))))))
        by_cases hji : j = i
        · subst hji; rw [hxi] at hy; cases hy; exact hn
        · exact hb j y (by omega) hy
    · skip
      have hil : i = l.length := by have : ¬ i < l.length := by simpa using hd
                                    omega
      have hball : ∀ (j : Nat) (y : Cls), l[j]? = some y → alone l j y = 0 := fun j y hj => hb j y (by rw [hil]; exact (List.getElem?_eq_some_iff.1 hj).1) hj
      have hpar : ∀ x ∈ l, x.parents.length ≤ 4 := fun x hx => by
        obtain ⟨j, hj⟩ := List.getElem?_of_mem hx
        exact (alone_zero.1 (hball j x hj)).1
      refine cd_exit (xt_exit_then (xt_exit_then (xt_exit_block (xt_then (cd_seq (cd_seq (cd_region (st_v (v_assign rfl) (st_nil (nx_kp [0, 2, 5] rfl (nx_then (cd_block (cd_lq (σ := Nat) (fun i => [(0, .slice la l.length cap), (2, .pointer (some ⟨b2, 0, none⟩)), (5, .int .i64 (i : Nat))]) (fun _ => pt b2 (cl [.int .i64 0, sv []] 106) :: S :: hr) (fun i => i ≤ l.length ∧ ∀ (j : Nat) (y : Cls), j < i → l[j]? = some y → lost l y = false) (fun i => l.length - i) 0 ⟨Nat.zero_le _, fun j y hj => absurd hj (Nat.not_lt_zero _)⟩ ?_)))))))))))))
      rintro i2 ⟨hi2, hls⟩
      refine cd_seq (cd_seq (cd_region (st_v (v_move rfl) (st_v (v_move rfl) (st_v (v_len rfl Try.underlying22) (st_v (v_lss rfl rfl) (st_nil (nx_kp [0, 2, 5, 33] rfl (nx_then (cd_cond rfl (fun hd2 => ?_) (fun hd2 => ?_)))))))))))
      · skip
        have hlt : i2 < l.length := by simpa using hd2
        have hxi := List.getElem?_eq_getElem hlt
        obtain ⟨b, o, cap2, d, f, pa, pc, c2, fa, fc, j2, hv2, hrd, hP, hone⟩ := sys_at hv hxi
        have hpx := hpar _ (List.getElem_mem hlt)
        generalize l[i2] = x at *
        refine cd_skip (xt_then (cd_seq (cd_block (cd_seq (cd_region (st_v (v_assign rfl) (st_nil (nx_kp [0, 2, 5, 6] rfl (nx_then (cd_block (cd_lq (σ := Nat) (fun k => [(0, .slice la l.length cap), (2, .pointer (some ⟨b2, 0, none⟩)), (5, .int .i64 (i2 : Nat)), (6, .int .i64 (k : Nat))]) (fun _ => pt b2 (cl [.int .i64 0, sv []] 106) :: S :: hr) (fun k => k ≤ x.parents.length ∧ ∀ p ∈ x.parents.take k, isC l p = true) (fun k => x.parents.length - k) 0 ⟨Nat.zero_le _, fun p hp => by simp at hp⟩ ?_)))))))))))
        rintro k ⟨hk, hkk⟩
        refine cd_seq (cd_seq (cd_region (st_v (v_move rfl) (st_v (v_move rfl) (st_v (v_move rfl) (st_v (v_indexAddr (k := i2) (congrArg some hv2) rfl sl22 rfl hlt rfl) (st_v (v_fieldAddr rfl fa61_3 rfl) (st_v (v_ldy rfl ld57) ?_))))))))
        refine st_v (v_len rfl Try.underlying57) (st_v (v_lss rfl rfl) (st_nil (nx_kp [0, 2, 5, 6, 43] rfl (nx_then (cd_cond rfl (fun hd3 => ?_) (fun hd3 => ?_))))))
        · skip
          have hklt : k < x.parents.length := by simpa using hd3
          obtain ⟨pb, po, pcap, q1, q2, q3, q4, q5, hpv, hprd, hpone⟩ := par_at hP (List.getElem?_eq_getElem hklt)
          have htk := List.take_succ_eq_append_getElem hklt
          have hmem := List.getElem_mem hklt
          generalize x.parents[k] = p at *
          refine cd_skip (xt_then (cd_seq (cd_block (cd_seq (cd_region (st_v (v_move rfl) (st_v (v_move rfl) (st_v (v_move rfl) (st_v (v_indexAddr (k := i2) (congrArg some hv2) rfl sl22 rfl hlt rfl) (st_v (v_fieldAddr rfl fa61_3 rfl) (st_v (v_ldy rfl ld57) ?_)))))))))))
          refine st_v (v_move rfl) (st_v (v_indexAddr (k := k) (congrArg some hpv) rfl sl57 rfl hklt rfl) (st_v (v_fieldAddr rfl fa65_0 rfl) (st_v (v_ldy rfl ld9) ?_)))
          refine st_clr rfl rfl en94 rfl (index_ct hv p (by omega)) ?_
          refine st_v (v_lss rfl rfl) (st_nil (nx_kp [0, 2, 5, 6, 57] rfl (nx_then (cd_cond rfl (fun hx => ?_) (fun hx => ?_)))))
          · skip
            have hx : isC l p = false := by
              rw [← ixN_isC]
              have : ixN l p < 0 := by simpa using hx
              exact decide_eq_false (by omega)
            have hlo : lost l x = true := by
              unfold lost
              rw [List.any_eq_true]
              exact ⟨p, hmem, by rw [hx]; rfl⟩
            rw [check_lost h24 hball hxi hls hlo]
            refine cd_seq (cd_region (st_v (v_move rfl) (st_v (v_move rfl) (st_v (v_indexAddr (k := i2) (congrArg some hv2) rfl sl22 rfl hlt rfl) (st_v (v_fieldAddr rfl fa61_0 rfl) (st_v (v_ldy rfl ld9) ?_))))))
            refine st_v (v_build (cells := [.int .i64 5, sv x.name]) rfl (fun _ => by kernel_rfl)) ?_
            refine st_stoW rfl rfl sz106 rfl rfl ?_
            refine st_nil (nx_kp [2] rfl (nx_then (cd_ret (xt_ret_block (xt_ret_then (xt_ret_then (xt_ret_block (xt_ret_block (xt_ret_then (xt_ret_then (xt_ret_block (xt_ret_then ?_))))))))))))
            exact xt_retV (.cellN rfl ld106 rfl (by repeat (first | exact Sel.here | apply Sel.there)) .nil) ⟨x.name, rfl, rfl⟩ (by repeat (first | exact Sub.refl _ | exact Sub.nil _ | refine Sub.sel (by repeat (first | exact Sel.here | apply Sel.there)) ?_ | apply Sub.cons))
          · skip
            have hx : isC l p = true := by
              rw [← ixN_isC]
              have : ¬ ixN l p < 0 := by simpa using hx
              exact decide_eq_true (by omega)
            refine cd_skip (xt_normal_block (xt_then (cd_region (st_v (v_move rfl) (st_v (v_add rfl rfl (by unfold I64 at *; omega)) (st_v (v_assign rfl) (st_nil (nx_kp [0, 2, 5, 6] rfl (nx_xt (xt_aq (k + 1) ⟨hklt, fun q hq => ?_⟩ (Nat.sub_lt_sub_left hklt (Nat.lt_succ_self k))))))))))))
            rw [htk] at hq
            rcases List.mem_append.1 hq with hq | hq
            · exact hkk q hq
            · simp at hq; rw [hq]; exact hx
        · skip
          have hke : k = x.parents.length := by have : ¬ k < x.parents.length := by simpa using hd3
                                                omega
          subst hke
          rw [List.take_length] at hkk
          refine cd_exit (xt_exit_then (xt_exit_then (xt_exit_block (xt_normal_block (xt_then (cd_region (st_v (v_move rfl) (st_v (v_add rfl rfl (by unfold I64 at *; omega)) (st_v (v_assign rfl) (st_nil (nx_kp [0, 2, 5] rfl (nx_xt (xt_aq (i2 + 1) ⟨hlt, fun j y hj hy => ?_⟩ (Nat.sub_lt_sub_left hlt (Nat.lt_succ_self i2)))))))))))))))
          by_cases hji : j = i2
          · subst hji; rw [hxi] at hy; cases hy; exact lost_of hkk
          · have hj : j < i2 + 1 := hj
            exact hls j y (by omega) hy
      · skip
        have hil2 : i2 = l.length := by have : ¬ i2 < l.length := by simpa using hd2
                                        omega
        have hlall : ∀ (j : Nat) (y : Cls), l[j]? = some y → lost l y = false := fun j y hj => hls j y (by rw [hil2]; exact (List.getElem?_eq_some_iff.1 hj).1) hj
        refine cd_exit (xt_exit_then (xt_exit_then (xt_exit_block (xt_then (cd_seq (cd_region (st_v (v_move rfl) (st_cl rfl rfl en95 rfl (RingS_ct hv h24 (fun x hx => Nat.le_trans (hpar x hx) (by decide))) ?_))))))))
        rintro u h' ⟨T, rfl, r, hu1, hu, hrl, hrn⟩
        simp only [List.cons_append, List.nil_append]
        obtain ⟨ra, rcap, rfl, _⟩ := id hu
        refine st_v (v_assign rfl) (st_nil (nx_kp [2, 7] rfl (nx_then (cd_seq (cd_seq (cd_region (st_v (v_move rfl) (st_v (v_len rfl Try.underlying25) (st_v (v_gtr rfl rfl) (st_nil (nx_kp [2, 7, 68] rfl (nx_then (cd_cond rfl (fun hr0 => ?_) (fun hr0 => ?_))))))))))))))
        · skip
          have hr0 : 0 < r.length := by have : (0 : Int) < r.length := by simpa using hr0
                                        omega
          obtain ⟨r', hr'⟩ : ∃ r', ring l = some r' := by
            cases h : ring l with
            | some r' => exact ⟨r', rfl⟩
            | none =>
              rw [hrn.2 (noRing_acyc.2 (ring_none.1 h))] at hr0
              simp at hr0
          rw [check_ring h24 hball hlall hr']
          obtain ⟨rb, ro, rcap2, hrv2, hrrd⟩ := nms_at hu (List.getElem?_eq_getElem hr0)
          refine cd_seq (cd_region (st_v (v_move rfl) (st_v (v_indexAddr (k := 0) (congrArg some hrv2) rfl sl25 rfl hr0 rfl) (st_v (v_ldy rfl ld9) ?_))))
          refine st_v (v_build (cells := [.int .i64 7, sv r[0]]) rfl (fun _ => by kernel_rfl)) ?_
          refine st_stoW rfl rfl sz106 rfl rfl ?_
          refine st_nil (nx_kp [2] rfl (nx_then (cd_ret (xt_ret_then ?_))))
          exact xt_retV (.cellN rfl ld106 rfl (by repeat (first | exact Sel.here | apply Sel.there)) .nil) ⟨r[0], rfl, rfl⟩ (by repeat (first | exact Sub.refl _ | exact Sub.nil _ | refine Sub.sel (by repeat (first | exact Sel.here | apply Sel.there)) ?_ | apply Sub.cons))
        · skip
          have hr0 : r = [] := List.eq_nil_of_length_eq_zero (by have : ¬ (0 : Int) < r.length := by simpa using hr0
                                                                 omega)
          rw [check_ok h24 hball hlall (ring_none.2 (noRing_acyc.1 (hrn.1 hr0)))]
          refine cd_skip (xt_then (cd_seq (cd_region (st_v (v_build (cells := [.int .i64 0, sv []]) rfl (fun _ => by kernel_rfl)) ?_))))
          refine st_stoW rfl rfl sz106 rfl rfl ?_
          refine st_nil (nx_kp [2] rfl (nx_then (cd_ret ?_)))
          exact xt_retV (.cellN rfl ld106 rfl (by repeat (first | exact Sel.here | apply Sel.there)) .nil) ⟨[], rfl, rfl⟩ (by repeat (first | exact Sub.refl _ | exact Sub.nil _ | refine Sub.sel (by repeat (first | exact Sel.here | apply Sel.there)) ?_ | apply Sub.cons))
variable {N : Res} {nv : Value} {ns : List Nm}
set_option maxRecDepth 100000 in
theorem asked_ct (hv : sysR S v l) (hl : l.length ≤ 1000000) (hn : nmsR N nv ns) (hnl : ns.length ≤ 1099511627776) : Reads Try.prog 71 #[v, nv] [S, N] (.int .i64 (rightE l ns)) := by
  obtain ⟨la, cap, rfl, _⟩ := id hv
  obtain ⟨na, ncap, rfl, _⟩ := id hn
  refine ct_of (n := 27) Try.func71 rfl rfl (len rfl) fun hr w0 => ?_
  refine cd_seq (cd_region (st_v (v_assign rfl) (st_nil (nx_then (cd_seq (cd_region (st_v (v_move rfl) (st_cl rfl rfl en56 rfl (CheckS_ct hv hl) ?_))))))))
  rintro u h' ⟨n, rfl, rfl⟩
  simp only [List.cons_append, List.nil_append]
  refine st_alc al106 fun b5 => ?_
  refine st_stoW rfl rfl sz106 rfl rfl ?_
  refine st_nil (nx_kp [0, 1, 4, 5] rfl (nx_then (cd_seq (cd_seq (cd_region (st_v (v_fieldAddr rfl fa106_0 rfl) (st_v (v_ldy rfl ld26) ?_)))))))
  refine st_v (v_neq rfl rfl) (st_nil (nx_kp [0, 1, 4, 5, 11] rfl (nx_then (cd_cond rfl (fun hc => ?_) (fun hc => ?_)))))
  · skip
    have hc : ¬ (check l).1 = 0 := by simpa using hc
    rw [show rightE l ns = (check l).1 by unfold rightE; rw [if_neg hc]]
    refine cd_seq (cd_region (st_v (v_fieldAddr rfl fa106_0 rfl) (st_v (v_ldy rfl ld26) ?_)))
    refine st_v (v_assign rfl) (st_nil (nx_kp [4] rfl (nx_then (cd_ret (xt_ret_then ?_)))))
    exact xt_rt rfl ⟨rfl, rfl⟩ (by (repeat (refine Sub.sel (by repeat (first | exact Sel.here | apply Sel.there)) ?_)); (repeat apply Sub.cons); first | exact Sub.refl _ | exact Sub.nil _)
  · skip
    have hc : (check l).1 = 0 := by simpa using hc
    refine cd_skip (xt_then (cd_seq (cd_seq (cd_region (st_v (v_assign rfl) (st_nil (nx_kp [0, 1, 4, 6] rfl (nx_then (cd_block (cd_lq (σ := Nat) (fun i => [(0, .slice la l.length cap), (1, .slice na ns.length ncap), (6, .int .i64 (i : Nat))]) (fun _ => S :: N :: hr) (fun i => i ≤ ns.length ∧ ∀ x ∈ ns.take i, isC l x = true) (fun i => ns.length - i) 0 ⟨Nat.zero_le _, fun x hx => by simp at hx⟩ ?_))))))))))
    rintro i ⟨hi, hal⟩
    refine cd_seq (cd_seq (cd_region (st_v (v_move rfl) (st_v (v_move rfl) (st_v (v_len rfl Try.underlying25) (st_v (v_lss rfl rfl) (st_nil (nx_kp [0, 1, 6, 17] rfl (nx_then (cd_cond rfl (fun hd => ?_) (fun hd => ?_)))))))))))
    · skip
      have hlt : i < ns.length := by simpa using hd
      obtain ⟨b, o, cap2, hv2, hrd⟩ := nms_at hn (List.getElem?_eq_getElem hlt)
      refine cd_skip (xt_then (cd_seq (cd_block (cd_seq (cd_region (st_v (v_move rfl) (st_v (v_move rfl) (st_v (v_move rfl) (st_v (v_indexAddr (k := i) (congrArg some hv2) rfl sl25 rfl hlt rfl) (st_v (v_ldy rfl ld9) ?_))))))))))
      refine st_clr rfl rfl en94 rfl (index_ct hv ns[i] (by omega)) ?_
      refine st_v (v_lss rfl rfl) (st_nil (nx_kp [0, 1, 6, 26] rfl (nx_then (cd_cond rfl (fun hx => ?_) (fun hx => ?_)))))
      · skip
        have hx : isC l ns[i] = false := by
          rw [← ixN_isC]
          have : ixN l ns[i] < 0 := by simpa using hx
          exact decide_eq_false (by omega)
        have he : rightE l ns = 5 := by
          unfold rightE
          rw [if_pos hc, if_neg (by rw [List.all_eq_true]; intro h; rw [h _ (List.getElem_mem hlt)] at hx; cases hx)]
        rw [he]
        refine cd_seq (cd_region (st_v (v_assign rfl) (st_nil (nx_kp [4] rfl (nx_then (cd_ret (xt_ret_block (xt_ret_then (xt_ret_then (xt_ret_block (xt_ret_then ?_)))))))))))
        exact xt_rt rfl ⟨rfl, rfl⟩ (by (repeat (refine Sub.sel (by repeat (first | exact Sel.here | apply Sel.there)) ?_)); (repeat apply Sub.cons); first | exact Sub.refl _ | exact Sub.nil _)
      · skip
        have hx : isC l ns[i] = true := by
          rw [← ixN_isC]
          have : ¬ ixN l ns[i] < 0 := by simpa using hx
          exact decide_eq_true (by omega)
        refine cd_skip (xt_normal_block (xt_then (cd_region (st_v (v_move rfl) (st_v (v_add rfl rfl (by unfold I64 at *; omega)) (st_v (v_assign rfl) (st_nil (nx_kp [0, 1, 6] rfl (nx_xt ?_)))))))))
        refine xt_aq (i + 1) ⟨hlt, all_take hlt hal hx⟩ (Nat.sub_lt_sub_left hlt (Nat.lt_succ_self i))
    · skip
      have hil : i = ns.length := by have : ¬ i < ns.length := by simpa using hd
                                     omega
      subst hil
      rw [List.take_length] at hal
      have he : rightE l ns = 0 := by
        unfold rightE
        rw [if_pos hc, if_pos (List.all_eq_true.2 hal)]
      rw [he]
      refine cd_exit (xt_exit_then (xt_exit_then (xt_exit_block (xt_then (cd_seq (cd_region (st_v (v_assign rfl) (st_nil (nx_kp [4] rfl (nx_then (cd_ret ?_)))))))))))
      exact xt_rt rfl ⟨rfl, rfl⟩ (by (repeat (refine Sub.sel (by repeat (first | exact Sel.here | apply Sel.there)) ?_)); (repeat apply Sub.cons); first | exact Sub.refl _ | exact Sub.nil _)
end
end Go.Hr
namespace Go.Hr
open Go Go.RowKit Go.Ck Go.Proofs Go.Proofs.Ytjgiaohieadeiaa Fx
attribute [local irreducible] Go.Ck.Sub St Cd Xt Nx DrL LsW
theorem Right.sel {l : Sys} (hR : Right l) : ∀ x ∈ l, x.parents.length ≤ 1099511627776 := fun x hx => Nat.le_trans (hR.few x hx) (by decide)
theorem dist_self (l : Sys) (c : Nm) : dist l c c = some 0 := dist_some.2 ⟨by simp [W], fun i hi => absurd hi (Nat.not_lt_zero _)⟩
theorem shortR_self (l : Sys) (c : Nm) : shortR l c c = [c] := by unfold shortR; rw [dist_self]; rfl
theorem further_R {l : Sys} {c x : Nm} (hne : c ≠ x) : further l c x = shortR l x c := further_short hne
theorem shortR_nil {l : Sys} {c x : Nm} : shortR l x c = [] ↔ has l c x = false := by
  unfold shortR has
  cases h : dist l x c with
  | none => simp
  | some k =>
    simp only [Option.isSome_some, reduceCtorEq, iff_false]
    intro e
    have := short_len l x k c
    rw [e] at this; simp at this
section
variable {S N : Res} {v nv : Value} {l : Sys} {ns : List Nm}
set_option maxRecDepth 100000 in
theorem WayS_ct (hv : sysR S v l) (hl : l.length ≤ 1000000) (c x : Nm) : CtN Try.prog 43 #[v, sv c, sv x] [S] fun u T => ∃ w, u = .agg #[w, .int .i64 (wayE l c x)] ∧ w.oneCell' = true ∧ nmsR T w (okL (rightE l [c, x]) (shortR l x c)) := by
  obtain ⟨a, cap, rfl, _⟩ := id hv
  refine ct_of (n := 34) Try.func43 rfl rfl (len rfl) fun hr w0 => ?_
  refine cd_seq (cd_region (st_alc al30 fun b6 => ?_))
  refine st_nil (nx_then (cd_seq (cd_region (st_v (v_move rfl) (st_v (v_move rfl) (st_v (v_move rfl) (st_buildSlice (cells := [sv c, sv x]) rfl Try.underlying25 inf9 rfl rfl (by kernel_rfl) (ltn rfl) fun b12 => ?_)))))))
  refine st_pv (pv_of (b := b12) (n := 2) (sz := 1) (E := 9) [nC c, nC x] rfl (by simp [nC]) rfl (by decide)) ?_
  simp only [List.cons_append, List.nil_append]
  refine st_ok (r := NR (.slice (some ⟨b12, 0, none⟩) 2 2) [c, x]) (by repeat (first | exact Sel.here | apply Sel.there)) fun hok => ?_
  refine st_clr rfl rfl en71 rfl (asked_ct hv hl (nms_own hok) (by simp)) ?_
  refine st_v (v_assign rfl) (st_nil (nx_kp [0, 1, 2, 6, 7] rfl (nx_then (cd_seq (cd_seq (cd_region (st_v (v_move rfl) (st_v (v_neq rfl rfl) (st_nil (nx_kp [0, 1, 2, 6, 7, 15] rfl (nx_then (cd_cond rfl (fun he => ?_) (fun he => ?_)))))))))))))
  · skip
    have he : ¬ rightE l [c, x] = 0 := by simpa using he
    have hw : wayE l c x = rightE l [c, x] := if_neg he
    rw [hw, okL_ne he]
    refine cd_seq (cd_region (st_v (v_move rfl) (st_v (v_build (cells := [.slice none 0 0, .int .i64 (rightE l [c, x])]) rfl (fun _ => by kernel_rfl)) ?_)))
    refine st_stoW rfl rfl sz30 rfl rfl ?_
    refine st_nil (nx_kp [6] rfl (nx_then (cd_ret (xt_ret_then (xt_vw (vw_unstar (L := [])) ?_)))))
    exact xt_retV (.cellN rfl ld30 rfl (by repeat (first | exact Sel.here | apply Sel.there)) .nil) ⟨Res.star [], rfl, _, rfl, rfl, Row.nil⟩ (by repeat (first | exact Sub.refl _ | exact Sub.nil _ | refine Sub.sel (by repeat (first | exact Sel.here | apply Sel.there)) ?_ | apply Sub.cons))
  · skip
    have he : rightE l [c, x] = 0 := by simpa using he
    obtain ⟨hR, hm⟩ := rightE_zero.1 he
    have hFl := hR.len
    have hw : wayE l c x = if has l c x then 0 else 5 := if_pos he
    rw [hw, he, okL_eq rfl]
    refine cd_skip (xt_then (cd_seq (cd_seq (cd_region (st_v (v_move rfl) (st_v (v_move rfl) (st_v (v_seql rfl rfl) (st_nil (nx_kp [0, 1, 2, 6, 20] rfl (nx_then (cd_cond rfl (fun hcx => ?_) (fun hcx => ?_))))))))))))
    · skip
      have hcx : c = x := by simpa using hcx
      subst hcx
      rw [shortR_self, show has l c c = true from has_refl l c]
      refine cd_seq (cd_region (st_v (v_move rfl) (st_buildSlice (cells := [sv c]) rfl Try.underlying25 inf9 rfl rfl (by kernel_rfl) (ltn rfl) fun b22 => ?_)))
      refine st_pv (pv_of (b := b22) (n := 1) (sz := 1) (E := 9) [nC c] rfl (by simp [nC]) rfl (by decide)) ?_
      simp only [List.cons_append, List.nil_append]
      refine st_ok (r := NR (.slice (some ⟨b22, 0, none⟩) 1 1) [c]) (by repeat (first | exact Sel.here | apply Sel.there)) fun hok2 => ?_
      refine st_v (v_build (cells := [.slice (some ⟨b22, 0, none⟩) 1 1, .int .i64 0]) rfl (fun _ => by kernel_rfl)) ?_
      refine st_stoW rfl rfl sz30 rfl rfl ?_
      refine st_nil (nx_kp [6] rfl (nx_then (cd_ret (xt_ret_then ?_))))
      exact xt_retV (.cellN rfl ld30 rfl (by repeat (first | exact Sel.here | apply Sel.there)) .nil) ⟨NR (.slice (some ⟨b22, 0, none⟩) 1 1) [c], rfl, _, rfl, rfl, nms_own hok2⟩ (by repeat (first | exact Sub.refl _ | exact Sub.nil _ | refine Sub.sel (by repeat (first | exact Sel.here | apply Sel.there)) ?_ | apply Sub.cons))
    · skip
      have hcx : c ≠ x := by simpa using hcx
      refine cd_skip (xt_then (cd_seq (cd_region (st_v (v_move rfl) (st_v (v_move rfl) (st_v (v_move rfl) (st_cl rfl rfl en81 rfl (further_ct hv (by omega) hR.sel c x) ?_)))))))
      rintro u h' ⟨T, rfl, hu1, hu⟩
      simp only [List.cons_append, List.nil_append]
      rw [further_R hcx] at hu
      obtain ⟨ua, ucap, rfl, _⟩ := id hu
      have hsl := Row.lenle hu
      refine st_v (v_assign rfl) (st_nil (nx_kp [6, 8] rfl (nx_then (cd_seq (cd_seq (cd_region (st_v (v_move rfl) (st_v (v_len rfl Try.underlying25) (st_v (v_eql rfl rfl) (st_nil (nx_kp [6, 8, 30] rfl (nx_then (cd_cond rfl (fun h0 => ?_) (fun h0 => ?_))))))))))))))
      · skip
        have h0 : shortR l x c = [] := by simpa using h0
        rw [show has l c x = false from shortR_nil.1 h0, h0]
        refine cd_seq (cd_region (st_v (v_build (cells := [.slice none 0 0, .int .i64 5]) rfl (fun _ => by kernel_rfl)) ?_))
        refine st_stoW rfl rfl sz30 rfl rfl ?_
        refine st_nil (nx_kp [6] rfl (nx_then (cd_ret (xt_ret_then ?_))))
        exact xt_retV (.cellN rfl ld30 rfl (by repeat (first | exact Sel.here | apply Sel.there)) .nil) ⟨T, rfl, _, rfl, rfl, Row.nil⟩ (by repeat (first | exact Sub.refl _ | exact Sub.nil _ | refine Sub.sel (by repeat (first | exact Sel.here | apply Sel.there)) ?_ | apply Sub.cons))
      · skip
        have h0 : shortR l x c ≠ [] := by simpa using h0
        rw [show has l c x = true by cases h : has l c x with | true => rfl | false => exact absurd (shortR_nil.2 h) h0]
        refine cd_skip (xt_then (cd_seq (cd_region (st_v (v_move rfl) (st_v (v_build (cells := [.slice ua (shortR l x c).length ucap, .int .i64 0]) rfl (fun _ => by kernel_rfl)) ?_)))))
        refine st_stoW rfl rfl sz30 rfl rfl ?_
        refine st_nil (nx_kp [6] rfl (nx_then (cd_ret ?_)))
        exact xt_retV (.cellN rfl ld30 rfl (by repeat (first | exact Sel.here | apply Sel.there)) .nil) ⟨T, rfl, _, rfl, rfl, hu⟩ (by repeat (first | exact Sub.refl _ | exact Sub.nil _ | refine Sub.sel (by repeat (first | exact Sel.here | apply Sel.there)) ?_ | apply Sub.cons))
set_option maxRecDepth 100000 in
theorem CheckWayS_ct (hv : sysR S v l) (hl : l.length ≤ 1000000) (hn : nmsR S nv ns) (hnl : ns.length ≤ 1099511627776) (c x : Nm) : Reads Try.prog 45 #[v, sv c, sv x, nv] [S] (.int .i64 (wayC l c x ns)) := by
  obtain ⟨a, cap, rfl, _⟩ := id hv
  obtain ⟨na, ncap, rfl, hnc, _⟩ := id hn
  refine ct_of (n := 60) Try.func45 rfl rfl (len rfl) fun hr w0 => ?_
  refine cd_seq (cd_region (st_v (v_assign rfl) (st_nil (nx_then (cd_seq (cd_region (st_v (v_move rfl) (st_v (v_move rfl) (st_v (v_move rfl) (st_buildSlice (cells := [sv c, sv x]) rfl Try.underlying25 inf9 rfl rfl (by kernel_rfl) (ltn rfl) fun b15 => ?_))))))))))
  refine st_pv (pv_of (b := b15) (n := 2) (sz := 1) (E := 9) [nC c, nC x] rfl (by simp [nC]) rfl (by decide)) ?_
  simp only [List.cons_append, List.nil_append]
  refine st_ok (r := NR (.slice (some ⟨b15, 0, none⟩) 2 2) [c, x]) (by repeat (first | exact Sel.here | apply Sel.there)) fun hok => ?_
  refine st_clr rfl rfl en71 rfl (asked_ct hv hl (nms_own hok) (by simp)) ?_
  refine st_v (v_assign rfl) (st_nil (nx_kp [0, 1, 2, 3, 8, 9] rfl (nx_then (cd_seq (cd_seq (cd_region (st_v (v_move rfl) (st_v (v_neq rfl rfl) (st_nil (nx_kp [0, 1, 2, 3, 8, 9, 18] rfl (nx_then (cd_cond rfl (fun he => ?_) (fun he => ?_)))))))))))))
  · skip
    have he : ¬ rightE l [c, x] = 0 := by simpa using he
    have hw : wayC l c x ns = rightE l [c, x] := if_neg he
    rw [hw]
    refine cd_seq (cd_region (st_v (v_move rfl) (st_v (v_assign rfl) (st_nil (nx_kp [8] rfl (nx_then (cd_ret (xt_ret_then ?_))))))))
    exact xt_rt rfl ⟨rfl, rfl⟩ (by (repeat (refine Sub.sel (by repeat (first | exact Sel.here | apply Sel.there)) ?_)); (repeat apply Sub.cons); first | exact Sub.refl _ | exact Sub.nil _)
  · skip
    have he : rightE l [c, x] = 0 := by simpa using he
    obtain ⟨hR, hm⟩ := rightE_zero.1 he
    have hFl := hR.len
    have hw : wayC l c x ns = if wayOk l c x ns then 0 else 11 := if_pos he
    rw [hw]
    cases ns with
    | nil =>
      refine cd_skip (xt_then (cd_seq (cd_seq (cd_region (st_v (v_move rfl) (st_v (v_len rfl Try.underlying25) (st_v (v_eql rfl rfl) (st_v (v_move rfl) (st_sk rfl rfl rfl ?_)))))))))
      refine st_sk rfl rfl rfl ?_
      refine st_sk rfl rfl rfl ?_
      refine st_sk rfl rfl rfl ?_
      refine st_sk rfl rfl rfl ?_
      refine st_v (v_pick_true rfl rfl) (st_v (v_move rfl) (st_sk rfl rfl rfl ?_))
      refine st_sk rfl rfl rfl ?_
      refine st_sk rfl rfl rfl ?_
      refine st_sk rfl rfl rfl ?_
      refine st_sk rfl rfl rfl ?_
      refine st_sk rfl rfl rfl ?_
      refine st_sk rfl rfl rfl ?_
      refine st_sk rfl rfl rfl ?_
      refine st_v (v_pick_true rfl rfl) (st_nil (nx_kp [0, 3, 8, 39] rfl (nx_then (cd_true rfl ?_))))
      refine cd_seq (cd_region (st_v (v_assign rfl) (st_nil (nx_kp [8] rfl (nx_then (cd_ret (xt_ret_then ?_)))))))
      exact xt_rt rfl ⟨rfl, rfl⟩ (by (repeat (refine Sub.sel (by repeat (first | exact Sel.here | apply Sel.there)) ?_)); (repeat apply Sub.cons); first | exact Sub.refl _ | exact Sub.nil _)
    | cons c0 t =>
      obtain ⟨b, o, cap2, hv2, hrd⟩ := nms_at hn (show (c0 :: t)[0]? = some c0 from rfl)
      obtain ⟨b', o', cap2', hv2', hrd'⟩ := nms_at hn (show (c0 :: t)[t.length]? = some ((c0 :: t).getLast (by simp)) by rw [List.getLast_eq_getElem]; simp)
      cases hv2
      cases hv2'
      rw [wayOk_cons]
      generalize hlast : (c0 :: t).getLast (by simp) = cl0 at *
      refine cd_skip (xt_then (cd_seq (cd_seq (cd_region (st_v (v_move rfl) (st_v (v_len rfl Try.underlying25) (st_v (v_eql rfl rfl) (st_v (v_move rfl) (st_cut (k := 10) (d := 29) (v := .bool ((((c0 :: t).length : Int) == 0) || (c0 != c))) (fun hcut => bool_want (b := (((c0 :: t).length : Int) == 0)) false (fun hg => ?_) (fun hg => ?_)) ?_)))))))))
      · refine st_sk rfl rfl hg ?_
        refine st_sk rfl rfl hg ?_
        refine st_sk rfl rfl hg ?_
        refine st_sk rfl rfl hg ?_
        refine st_sk rfl rfl hg ?_
        refine st_v (v_pick_true (bool_ev rfl hg) rfl) ?_
        exact hcut _ (ssub_head (by first | rfl | (rw [hg]; rfl) | simp_all) (ssub_skip rfl (ssub_skip rfl (ssub_skip rfl (ssub_skip rfl (ssub_skip rfl (ssub_refl)))))))
      · skip
        refine st_vg rfl (bool_get rfl hg) (v_move rfl) (st_vg rfl (bool_get rfl hg) (v_indexAddr (k := 0) rfl rfl sl25 rfl (by simp) rfl) ?_)
        refine st_vg rfl (bool_get rfl hg) (v_ldy rfl ld9) ?_
        refine st_vg rfl (bool_get rfl hg) (v_move rfl) (st_vg rfl (bool_get rfl hg) (v_sneq rfl rfl) (st_v (v_pick_false (bool_ev rfl hg) rfl) ?_))
        exact hcut _ (ssub_head (by first | rfl | (rw [hg]; rfl) | simp_all) (ssub_skip rfl (ssub_skip rfl (ssub_skip rfl (ssub_skip rfl (ssub_skip rfl (ssub_refl)))))))
      refine st_v (v_move rfl) (st_cut (k := 20) (d := 39) (v := .bool (((((c0 :: t).length : Int) == 0) || (c0 != c)) || (cl0 != x))) (fun hcut => bool_want (b := ((((c0 :: t).length : Int) == 0) || (c0 != c))) false (fun hg => ?_) (fun hg => ?_)) ?_)
      · refine st_sk rfl rfl hg ?_
        refine st_sk rfl rfl hg ?_
        refine st_sk rfl rfl hg ?_
        refine st_sk rfl rfl hg ?_
        refine st_sk rfl rfl hg ?_
        refine st_sk rfl rfl hg ?_
        refine st_sk rfl rfl hg ?_
        refine st_sk rfl rfl hg ?_
        refine st_v (v_pick_true (bool_ev rfl hg) rfl) ?_
        exact hcut _ (ssub_head (by first | rfl | (rw [hg]; rfl) | simp_all) (ssub_skip rfl (ssub_skip rfl (ssub_skip rfl (ssub_skip rfl (ssub_skip rfl (ssub_skip rfl (ssub_skip rfl (ssub_skip rfl (ssub_refl))))))))))
      · skip
        refine st_vg rfl (bool_get rfl hg) (v_move rfl) (st_vg rfl (bool_get rfl hg) (v_move rfl) (st_vg rfl (bool_get rfl hg) (v_len rfl Try.underlying25) (st_vg rfl (bool_get rfl hg) (v_sub rfl rfl (by unfold I64 at *; omega)) (st_vg rfl (bool_get rfl hg) (v_indexAddr (k := t.length) rfl rfl sl25 (by simp) (by simp) rfl) ?_))))
        refine st_vg rfl (bool_get rfl hg) (v_ldy rfl ld9) ?_
        refine st_vg rfl (bool_get rfl hg) (v_move rfl) (st_vg rfl (bool_get rfl hg) (v_sneq rfl rfl) (st_v (v_pick_false (bool_ev rfl hg) rfl) ?_))
        exact hcut _ (ssub_head (by first | rfl | (rw [hg]; rfl) | simp_all) (ssub_skip rfl (ssub_skip rfl (ssub_skip rfl (ssub_skip rfl (ssub_skip rfl (ssub_skip rfl (ssub_skip rfl (ssub_skip rfl (ssub_refl))))))))))
      have h0 : (((c0 :: t).length : Int) == 0) = false := by simp; omega
      rw [h0, Bool.false_or]
      refine st_nil (nx_kp [0, 3, 8, 39] rfl (nx_then (cd_cond rfl (fun hq => ?_) (fun hq => ?_))))
      · skip
        rw [hq]
        refine cd_seq (cd_region (st_v (v_assign rfl) (st_nil (nx_kp [8] rfl (nx_then (cd_ret (xt_ret_then ?_)))))))
        exact xt_rt rfl ⟨rfl, rfl⟩ (by (repeat (refine Sub.sel (by repeat (first | exact Sel.here | apply Sel.there)) ?_)); (repeat apply Sub.cons); first | exact Sub.refl _ | exact Sub.nil _)
      · skip
        rw [hq]
        refine cd_skip (xt_then (cd_seq (cd_seq (cd_region (st_v (v_assign rfl) (st_nil (nx_kp [0, 3, 8, 10] rfl (nx_then (cd_block ?_)))))))))
        have htl : t.length + 1 ≤ 1099511627776 := by simpa using hnl
        refine cd_lq (σ := Nat) (fun i => [(0, .slice a l.length cap), (3, .slice (some ⟨b, o, none⟩) (c0 :: t).length ncap), (10, .int .i64 ((i : Nat) + 1))]) (fun _ => S :: hr) (fun i => i ≤ t.length ∧ ∀ j, j < i → (par l ((c0 :: t).getD j [])).contains (t.getD j []) = true) (fun i => t.length - i) 0 ⟨Nat.zero_le _, fun j hj => by omega⟩ ?_
        rintro i ⟨hi, hal⟩
        refine cd_seq (cd_seq (cd_region (st_v (v_move rfl) (st_v (v_move rfl) (st_v (v_len rfl Try.underlying25) (st_v (v_lss rfl rfl) (st_nil (nx_kp [0, 3, 10, 43] rfl (nx_then (cd_cond rfl (fun hd => ?_) (fun hd => ?_)))))))))))
        · skip
          have hlt : i < t.length := by
            have : (i : Int) + 1 < ((c0 :: t).length : Nat) := by simpa using hd
            simp only [List.length_cons] at this
            omega
          obtain ⟨tb, to, tcap, htv, htrd⟩ := nms_at hn (show (c0 :: t)[i + 1]? = some t[i] by simp [hlt])
          have hget : (c0 :: t)[i]? = some ((c0 :: t).getD i []) := getD_of [] (by simp; omega)
          obtain ⟨wb, wo, wcap, hwv, hwrd⟩ := nms_at hn hget
          have hge : t.getD i [] = t[i] := by simp [hlt]
          generalize hwi : (c0 :: t).getD i [] = wi at hget hwrd
          generalize t[i] = ti at hge htrd
          refine cd_skip (xt_then (cd_seq (cd_block (cd_seq (cd_drawh (ork [(0, 2), (1, 2), (2, 2), (3, 2), (4, 2), (5, 1), (7, 2), (8, 2), (9, 2), (10, 1), (6, 0), (11, 0), (12, 2)] .nil) (fun i => !(Nat.beq i 11)) mixed (by kernel_rfl) ?_)))))
          refine dp_v rfl (v_move rfl) (dp_v rfl (v_move rfl) (dp_v rfl (v_move rfl) (dp_v rfl (v_sub rfl rfl (by unfold I64 at *; omega)) (dp_v rfl (v_indexAddr (k := i) (congrArg some hwv) rfl sl25 (by omega) (by simp; omega) rfl) ?_))))
          refine dr_v rfl (v_ldy rfl ld9) ?_
          refine dp_v rfl (v_move rfl) (dp_v rfl (v_move rfl) (dp_v rfl (v_indexAddr (k := i + 1) (congrArg some htv) rfl sl25 (by omega) (by simp; omega) rfl) ?_))
          refine dr_v rfl (v_ldy rfl ld9) ?_
          refine dr_eff rfl (st_cl rfl rfl en59 rfl (parents_ct hv wi (by omega) hR.sel) ?_)
          rintro u h' ⟨T, rfl, hu1, rfl, hu⟩
          simp only [List.cons_append, List.nil_append]
          rw [hR.pars_eq] at *
          have hpf := hR.par_few wi
          refine dr_nx ?_
          refine dr_eff rfl (st_cl rfl rfl en57 rfl (Has_ct hu ti (by omega)) ?_)
          rintro u h' ⟨rfl, rfl⟩
          simp only [List.cons_append, List.nil_append]
          refine dr_nx ?_
          refine dp_v rfl (v_assign rfl) (dr_nil (nx_kp [0, 3, 10, 11] rfl (nx_then (cd_seq (cd_region (st_v (v_move rfl) (st_v (v_not rfl) (st_nil (nx_kp [0, 3, 10, 59] rfl (nx_then (cd_cond rfl (fun hno => ?_) (fun hno => ?_))))))))))))
          · skip
            have hno : (par l wi).contains ti = false := by simpa using hno
            rw [show ((List.range t.length).all fun i => (par l ((c0 :: t).getD i [])).contains (t.getD i [])) = false from List.all_eq_false.2 ⟨i, List.mem_range.2 hlt, by rw [hwi, hge, hno]; decide⟩]
            refine cd_seq (cd_region (st_v (v_assign rfl) (st_nil (nx_kp [8] rfl (nx_then (cd_ret (xt_ret_block (xt_ret_then (xt_ret_then (xt_ret_block (xt_ret_then ?_)))))))))))
            exact xt_rt rfl ⟨rfl, rfl⟩ (by (repeat (refine Sub.sel (by repeat (first | exact Sel.here | apply Sel.there)) ?_)); (repeat apply Sub.cons); first | exact Sub.refl _ | exact Sub.nil _)
          · skip
            have hno : (par l wi).contains ti = true := by simpa using hno
            refine cd_skip (xt_normal_block (xt_then (cd_region (st_v (v_move rfl) (st_v (v_add rfl rfl (by unfold I64 at *; omega)) (st_v (v_assign rfl) (st_nil (nx_kp [0, 3, 10] rfl (nx_xt (xt_aq (i + 1) ⟨hlt, fun j hj => ?_⟩ (by show _ - _ < _ - _; omega)))))))))))
            by_cases hji : j = i
            · subst hji; rw [hwi, hge]; exact hno
            · exact hal j (by omega)
        · skip
          refine cd_exit (xt_exit_then (xt_exit_then (xt_exit_block (xt_then (cd_seq (cd_region (st_v (v_assign rfl) (st_nil (nx_kp [8] rfl (nx_then (cd_ret ?_)))))))))))
          have hil : i = t.length := by
            have : ¬ (i : Int) + 1 < ((c0 :: t).length : Nat) := by simpa using hd
            simp only [List.length_cons] at this
            omega
          rw [show ((List.range t.length).all fun i => (par l ((c0 :: t).getD i [])).contains (t.getD i [])) = true from List.all_eq_true.2 fun j hj => hal j (by rw [hil]; exact List.mem_range.1 hj)]
          exact xt_rt rfl ⟨rfl, rfl⟩ (by (repeat (refine Sub.sel (by repeat (first | exact Sel.here | apply Sel.there)) ?_)); (repeat apply Sub.cons); first | exact Sub.refl _ | exact Sub.nil _)
end
end Go.Hr
namespace Go.Hr
open Go Go.RowKit Go.Ck Go.Proofs Go.Proofs.Ytjgiaohieadeiaa Fx
attribute [local irreducible] Go.Ck.Sub St Cd Xt Nx DrL LsW
section
variable {S N : Res} {v nv : Value} {l : Sys} {ns : List Nm}
set_option maxRecDepth 100000 in
theorem fewS_ct (hv : sysR S v l) : Reads Try.prog 14 #[v] [S] (.bool (fewL l)) := by
  have hl := Row.lenle hv
  have hml : maxLen = 9223372036854775807 := rfl
  obtain ⟨a, cap, rfl, _⟩ := id hv
  refine ct_of (n := 30) Try.func14 rfl rfl (len rfl) fun hr w0 => ?_
  refine cd_seq (cd_region (st_v (v_assign rfl) (st_nil (nx_then (cd_seq (cd_seq (cd_region (st_v (v_assign rfl) (st_nil (nx_then (cd_block (cd_lq (σ := Nat) (fun i => [(0, .slice a l.length cap), (3, .int .i64 (i : Nat))]) (fun _ => S :: hr) (fun i => i ≤ l.length ∧ ∀ (j : Nat) (y : Cls), j < i → l[j]? = some y → y.parents.length ≤ 8) (fun i => l.length - i) 0 ⟨Nat.zero_le _, fun j y hj => by omega⟩ ?_))))))))))))
  rintro i ⟨hi, hne⟩
  refine cd_seq (cd_seq (cd_region (st_v (v_move rfl) (st_v (v_move rfl) (st_v (v_len rfl Try.underlying22) (st_v (v_lss rfl rfl) (st_nil (nx_kp [0, 3, 7] rfl (nx_then (cd_cond rfl (fun hd => ?_) (fun hd => ?_)))))))))))
  · skip
    have hlt : i < l.length := by simpa using hd
    obtain ⟨b, o, cap2, d, f, pa, pc, c2, fa, fc, j2, hv2, hrd, hP, hone⟩ := sys_at hv (List.getElem?_eq_getElem hlt)
    refine cd_skip (xt_then (cd_seq (cd_block (cd_seq (cd_region (st_v (v_move rfl) (st_v (v_move rfl) (st_v (v_indexAddr (k := i) (congrArg some hv2) rfl sl22 rfl hlt rfl) (st_v (v_fieldAddr rfl fa61_3 rfl) (st_v (v_ldy rfl ld57) ?_))))))))))
    refine st_v (v_len rfl Try.underlying57) (st_v (v_gtr rfl rfl) (st_nil (nx_kp [0, 3, 16] rfl (nx_then (cd_cond rfl (fun he => ?_) (fun he => ?_))))))
    · skip
      have he : ¬ (l[i]).parents.length ≤ 8 := by have : (8 : Int) < (l[i]).parents.length := by simpa using he
                                                  omega
      refine cd_seq (cd_region (st_v (v_assign rfl) (st_nil (nx_kp [2] rfl (nx_then (cd_ret (xt_ret_block (xt_ret_then (xt_ret_then (xt_ret_block (xt_ret_then ?_)))))))))))
      rw [show fewL l = false by
        unfold fewL
        rw [Bool.and_eq_false_iff]; left
        rw [List.all_eq_false]
        exact ⟨l[i], List.getElem_mem hlt, by simpa using he⟩]
      exact xt_rt rfl ⟨rfl, rfl⟩ (by (repeat (refine Sub.sel (by repeat (first | exact Sel.here | apply Sel.there)) ?_)); (repeat apply Sub.cons); first | exact Sub.refl _ | exact Sub.nil _)
    · skip
      have he : (l[i]).parents.length ≤ 8 := by have : ¬ (8 : Int) < (l[i]).parents.length := by simpa using he
                                                omega
      refine cd_skip (xt_normal_block (xt_then (cd_region (st_v (v_move rfl) (st_v (v_add rfl rfl (by unfold I64 at *; omega)) (st_v (v_assign rfl) (st_nil (nx_kp [0, 3] rfl (nx_xt (xt_aq (i + 1) ⟨hlt, fun j y hj hy => ?_⟩ (by show _ - _ < _ - _; omega)))))))))))
      by_cases hji : j = i
      · subst hji; rw [List.getElem?_eq_getElem hlt] at hy; cases hy; exact he
      · exact hne j y (by omega) hy
  · skip
    refine cd_exit (xt_exit_then (xt_exit_then (xt_exit_block (xt_then (cd_seq (cd_region (st_v (v_move rfl) (st_v (v_len rfl Try.underlying22) (st_v (v_leq rfl rfl) (st_v (v_move rfl) ?_))))))))))
    have hil : i = l.length := by have : ¬ i < l.length := by simpa using hd
                                  omega
    rw [show fewL l = (decide ((l.length : Int) ≤ 10) || (decide (24 < (l.length : Int)) && decide ((l.length : Int) ≤ 40))) by
      unfold fewL
      rw [show l.all (fun x => decide (x.parents.length ≤ 8)) = true from List.all_eq_true.2 fun x hx => by
        obtain ⟨j, hj, rfl⟩ := List.getElem_of_mem hx
        exact decide_eq_true (hne j _ (by omega) (List.getElem?_eq_getElem hj)), Bool.true_and]
      congr 1
      · rw [decide_eq_decide]; omega
      · congr 1 <;> rw [decide_eq_decide] <;> omega]
    refine st_cut (k := 13) (d := 29) (v := .bool (decide ((l.length : Int) ≤ 10) || (decide (24 < (l.length : Int)) && decide ((l.length : Int) ≤ 40)))) (fun hcut => bool_want (b := decide ((l.length : Int) ≤ 10)) false (fun hg => ?_) (fun hg => ?_)) ?_
    · refine st_sk rfl rfl hg ?_
      refine st_sk rfl rfl hg ?_
      refine st_sk rfl rfl hg ?_
      refine st_sk rfl rfl hg ?_
      refine st_sku rfl rfl ?_
      refine st_sku rfl rfl ?_
      refine st_sku rfl rfl ?_
      refine st_sk rfl rfl hg ?_
      refine st_v (v_pick_true (bool_ev rfl hg) rfl) ?_
      exact hcut _ (ssub_head (by first | rfl | (rw [hg]; rfl) | simp_all) (ssub_skip rfl (ssub_skip rfl (ssub_skip rfl (ssub_skip rfl (ssub_skip rfl (ssub_skip rfl (ssub_skip rfl (ssub_skip rfl (ssub_refl))))))))))
    · skip
      refine st_vg rfl (bool_get rfl hg) (v_move rfl) (st_vg rfl (bool_get rfl hg) (v_len rfl Try.underlying22) (st_vg rfl (bool_get rfl hg) (v_gtr rfl rfl) (st_vg rfl (bool_get rfl hg) (v_move rfl) (st_cut (k := 12) (d := 28) (v := .bool (decide (24 < (l.length : Int)) && decide ((l.length : Int) ≤ 40))) (fun hcut => bool_want (b := decide (24 < (l.length : Int))) true (fun hg1 => ?_) (fun hg1 => ?_)) ?_))))
      · refine st_sk rfl rfl hg1 ?_
        refine st_sk rfl rfl hg1 ?_
        refine st_sk rfl rfl hg1 ?_
        refine st_vg rfl (bool_get rfl hg) (v_pick_false (bool_ev rfl hg1) rfl) ?_
        exact hcut _ (ssub_head (by first | rfl | (rw [hg1]; rfl) | simp_all) (ssub_skip rfl (ssub_skip rfl (ssub_skip rfl (ssub_refl)))))
      · skip
        refine st_vg rfl (bool_get rfl hg1) (v_move rfl) (st_vg rfl (bool_get rfl hg1) (v_len rfl Try.underlying22) (st_vg rfl (bool_get rfl hg1) (v_leq rfl rfl) (st_vg rfl (bool_get rfl hg) (v_pick_true (bool_ev rfl hg1) rfl) ?_)))
        exact hcut _ (ssub_head (by first | rfl | (rw [hg1]; rfl) | simp_all) (ssub_skip rfl (ssub_skip rfl (ssub_skip rfl (ssub_refl)))))
      refine st_v (v_pick_false (bool_ev rfl hg) rfl) ?_
      exact hcut _ (ssub_head (by first | rfl | (rw [hg]; rfl) | simp_all) (by repeat (first | exact ssub_refl | refine ssub_skip rfl ?_)))
    refine st_v (v_assign rfl) (st_nil (nx_kp [2] rfl (nx_then (cd_ret ?_))))
    exact xt_rt rfl ⟨rfl, rfl⟩ (by (repeat (refine Sub.sel (by repeat (first | exact Sel.here | apply Sel.there)) ?_)); (repeat apply Sub.cons); first | exact Sub.refl _ | exact Sub.nil _)
theorem shortR_few {l : Sys} {c x : Nm} : (shortR l x c).length ≤ l.length + 2 := by
  by_cases h : c = x
  · subst h; rw [shortR_self]; simp
  · rw [← further_R h]
    rcases further_len l c x with h1 | h1
    · rw [h1]; simp
    · exact h1.2
theorem okL_len {α : Type} {e : Int} {xs : List α} {n : Nat} (h : xs.length ≤ n) : (okL e xs).length ≤ n := by
  unfold okL
  split
  · exact h
  · simp
theorem few_40 (h : fewL l = true) : l.length ≤ 40 ∧ ∀ x ∈ l, x.parents.length ≤ 8 := by
  unfold fewL at h
  simp only [Bool.and_eq_true, Bool.or_eq_true, decide_eq_true_eq, List.all_eq_true] at h
  exact ⟨by omega, h.1⟩
set_option maxRecDepth 100000 in
theorem heirWays_ct (hv : sysR S v l) (c x : Nm) (hn : nmsR S nv ns) : Ct Try.prog 12 #[v, sv c, sv x, nv] [S] fun u h' => u = .bool true ∧ h' = [S] := by
  obtain ⟨la, cap, rfl, _⟩ := id hv
  obtain ⟨na, ncap, rfl, hncl, _⟩ := id hn
  refine ct_of (n := 58) Try.func12 rfl rfl (len rfl) fun hr w0 => ?_
  refine cd_seq (cd_region (st_v (v_assign rfl) (st_nil (nx_then (cd_seq (cd_seq (cd_region (st_v (v_move rfl) (st_clr rfl rfl en14 rfl (fewS_ct hv) ?_)))))))))
  refine st_v (v_not rfl) (st_v (v_move rfl) (st_cut (k := 8) (d := 19) (v := .bool ((!fewL l) || decide (40 < (ns.length : Int)))) (fun hcut => bool_want (b := (!fewL l)) false (fun hg => ?_) (fun hg => ?_)) ?_))
  · refine st_sk rfl rfl hg ?_
    refine st_sk rfl rfl hg ?_
    refine st_sk rfl rfl hg ?_
    refine st_v (v_pick_true (bool_ev rfl hg) rfl) ?_
    exact hcut _ (ssub_head (by first | rfl | (rw [hg]; rfl) | simp_all) (ssub_skip rfl (ssub_skip rfl (ssub_skip rfl (ssub_refl)))))
  · skip
    refine st_vg rfl (bool_get rfl hg) (v_move rfl) (st_vg rfl (bool_get rfl hg) (v_len rfl Try.underlying25) (st_vg rfl (bool_get rfl hg) (v_gtr rfl rfl) (st_v (v_pick_false (bool_ev rfl hg) rfl) ?_)))
    exact hcut _ (ssub_head (by first | rfl | (rw [hg]; rfl) | simp_all) (ssub_skip rfl (ssub_skip rfl (ssub_skip rfl (ssub_refl)))))
  refine st_nil (nx_kp [0, 1, 2, 3, 8, 19] rfl (nx_then (cd_cond rfl (fun hrg => ?_) (fun hrg => ?_))))
  · skip
    refine cd_seq (cd_region (st_clr rfl rfl en15 rfl (sanityR) ?_))
    refine st_v (v_assign rfl) (st_nil (nx_kp [8] rfl (nx_then (cd_ret (xt_ret_then (xt_law rfl ?_))))))
    refine Sub.sel (by repeat (first | exact Sel.here | apply Sel.there)) ?_
    repeat apply Sub.cons
    exact Sub.refl _
  · skip
    obtain ⟨hr1, hr2⟩ := Bool.or_eq_false_iff.1 hrg
    obtain ⟨h40, hp8⟩ := few_40 (show fewL l = true by simpa using hr1)
    have hnl : ns.length ≤ 40 := by have := of_decide_eq_false hr2; omega
    refine cd_skip (xt_then (cd_seq (cd_region (st_v (v_move rfl) (st_v (v_move rfl) (st_v (v_move rfl) (st_cl rfl rfl en42 rfl (Way_ct hv c x) ?_)))))))
    rintro u h' ⟨T, rfl, w, rfl, hw, rfl⟩
    simp only [List.cons_append, List.nil_append]
    refine st_ok (r := NR w (okL (rightE l [c, x]) (shortR l x c))) (by repeat (first | exact Sel.here | apply Sel.there)) fun hok => ?_
    have hxl : (okL (rightE l [c, x]) (shortR l x c)).length ≤ 1099511627776 := okL_len (Nat.le_trans shortR_few (by omega))
    have hno := nms_own hok
    generalize NR w (okL (rightE l [c, x]) (shortR l x c)) = T1 at *
    refine st_v (v_move rfl) (st_v (v_extract rfl rfl) (st_v (v_extract rfl rfl) (st_v (v_assign rfl) (st_v (v_assign rfl) (st_nil (nx_kp [0, 1, 2, 3, 8, 9, 10] rfl (nx_then (cd_seq (cd_region (st_v (v_move rfl) (st_v (v_move rfl) (st_v (v_move rfl) (st_cl rfl rfl en43 rfl (WayS_ct hv (by omega) c x) ?_)))))))))))))
    rintro u h' ⟨T2, rfl, w2, rfl, hw2, hno2⟩
    simp only [List.cons_append, List.nil_append]
    generalize okL (rightE l [c, x]) (shortR l x c) = xs at *
    obtain ⟨wa2, wcap2, rfl, _⟩ := id hno2
    refine st_alc al30 fun b11 => ?_
    refine st_stoW rfl rfl sz30 rfl rfl ?_
    refine st_nil (nx_kp [0, 1, 2, 3, 8, 9, 10, 11] rfl (nx_then (cd_seq (cd_region (st_clr rfl rfl en15 rfl (sanityR) ?_)))))
    refine st_v (v_move rfl) (st_vg rfl rfl (v_move rfl) (st_vg rfl rfl (v_fieldAddr rfl fa30_0 rfl) (st_vg rfl rfl (v_ldy rfl ld25) ?_)))
    refine st_clrg rfl rfl rfl rfl en22 rfl (SameNames_ct hno hno2 hxl) ?_
    rw [beq_self_eq_true]
    refine st_v (v_pick_true rfl rfl) (st_v (v_move rfl) (st_vg rfl rfl (v_move rfl) (st_vg rfl rfl (v_fieldAddr rfl fa30_1 rfl) (st_vg rfl rfl (v_ldy rfl ld26) ?_))))
    refine st_vg rfl rfl (v_eql rfl rfl) (st_v (v_pick_true rfl rfl) (st_v (v_move rfl) ?_))
    rw [beq_self_eq_true]
    refine st_vg rfl rfl (v_move rfl) (st_vg rfl rfl (v_move rfl) (st_vg rfl rfl (v_move rfl) (st_vg rfl rfl (v_move rfl) (st_grd rfl rfl (st_cl rfl rfl en44 rfl (CheckWay1_ct hv hn (by omega) c x) ?_)))))
    rintro u h' ⟨rfl, rfl⟩
    simp only [List.cons_append, List.nil_append]
    refine st_vg rfl rfl (v_move rfl) (st_vg rfl rfl (v_move rfl) (st_vg rfl rfl (v_move rfl) (st_vg rfl rfl (v_move rfl) (st_clrg rfl rfl rfl rfl en45 rfl (CheckWayS_ct hv (by omega) hn (by omega) c x) ?_))))
    refine st_vg rfl rfl (v_eql rfl rfl) (st_v (v_pick_true rfl rfl) (st_v (v_assign rfl) (st_nil (nx_kp [8] rfl (nx_then (cd_ret ?_))))))
    rw [beq_self_eq_true]
    refine xt_law rfl ?_
    refine Sub.sel (by repeat (first | exact Sel.here | apply Sel.there)) ?_
    repeat apply Sub.cons
    exact Sub.refl _
end
end Go.Hr
