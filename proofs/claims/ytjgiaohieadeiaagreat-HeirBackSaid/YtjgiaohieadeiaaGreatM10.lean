/-
  The specification: Check, asked. Conditions: what is read.
  The specification: Way, CheckWay. Conditions: what is read.
  The law's few, for any system; HeirWays. Conditions: what is read.
  The specification: above, Above, Is. Conditions: what is read.
  The specification: under, Below, Touched. Conditions: what is read.
  Lists of numbers; the specification: ways, Ways. Conditions: what is read.
  Slices of slices that may be nil; the specification: put. Conditions: what is read.
  What the arguments of the laws read as: systems of classes, names. No condition.
  Data that is read to its end, none of whose lists is too long: what it is made of. No condition.
  make([]T, n) for elements of many cells. Generic. No condition.
  Data that is read to its end is made of values of one cell. Generic. No condition.
  Package heir: each, for types. Conditions: what is read to its end, what the function does.
  Package heir: kind. Conditions: what is read to its end.
-/
import Derived.Test.YtjgiaohieadeiaaGreatM9
import Derived.Test.YtjgiaohieadeiaaGreatM7
import Derived.Test.YtjgiaohieadeiaaGreatM5
import Derived.Test.YtjgiaohieadeiaaGreatM4
import Derived.JoinedCond
import Derived.SizedLaws
set_option linter.unusedVariables false
set_option linter.unusedSimpArgs false
namespace Go.Hr
open Go Go.RowKit Go.Ck Go.Proofs Go.Proofs.YtjgiaohieadeiaaGreat Fx
attribute [local irreducible] Go.Ck.Sub St Cd Xt Nx DrL LsW
theorem ld71 : LdN Tryz.prog 71 2 := LdN.of Tryz.underlying71 sz71
theorem lost_not {l : Sys} {x : Cls} (h : lost l x = false) : ∀ p ∈ x.parents, isC l p = true := by
  unfold lost at h
  rw [List.any_eq_false] at h
  exact fun p hp => by simpa using h p hp
theorem lost_of {l : Sys} {x : Cls} (h : ∀ p ∈ x.parents, isC l p = true) : lost l x = false := by
  unfold lost
  rw [List.any_eq_false]
  exact fun p hp => by rw [h p hp]; decide
section
variable {S : Res} {v : Value} {l : Sys}
set_option maxHeartbeats 1000000 in
set_option maxRecDepth 100000 in
theorem CheckS_ct (hv : sysR S v l) (hl : l.length ≤ 1000000) : Ct Tryz.prog 31 #[v] [S] fun u h' => ∃ n, u = .agg #[.int .i64 (check l).1, sv n] ∧ h' = [S] := by
  obtain ⟨la, cap, rfl, _⟩ := id hv
  refine ct_of (n := 74) Tryz.func31 rfl rfl (len rfl) fun hr w0 => ?_
  refine cd_seq (cd_region (st_alc al71 fun b2 => ?_))
  refine st_nil (nx_then (cd_seq (cd_seq (cd_region (st_v (v_move rfl) (st_v (v_len rfl Tryz.underlying22) (st_v (v_gtr rfl rfl) (st_nil (nx_kp [0, 2, 10] rfl (nx_then (cd_cond rfl (fun h24 => ?_) (fun h24 => ?_))))))))))))
  · skip
    have h24 : 24 < l.length := by have : (24 : Int) < l.length := by simpa using h24
                                   omega
    rw [check_limit h24]
    refine cd_seq (cd_region (st_v (v_build (cells := [.int .i64 3, sv []]) rfl (fun _ => by kernel_rfl)) ?_))
    refine st_stoW rfl rfl sz71 rfl rfl ?_
    refine st_nil (nx_kp [2] rfl (nx_then (cd_ret (xt_ret_then ?_))))
    exact xt_retV (.cellN rfl ld71 rfl (by repeat (first | exact Sel.here | apply Sel.there)) .nil) ⟨[], rfl, rfl⟩ (by repeat (first | exact Sub.refl _ | exact Sub.nil _ | refine Sub.sel (by repeat (first | exact Sel.here | apply Sel.there)) ?_ | apply Sub.cons))
  · skip
    have h24 : l.length ≤ 24 := by have : ¬ (24 : Int) < l.length := by simpa using h24
                                   omega
    refine cd_skip (xt_then (cd_seq (cd_seq (cd_region (st_v (v_assign rfl) (st_nil (nx_kp [0, 2, 3] rfl (nx_then (cd_block (cd_lq (σ := Nat) (fun i => [(0, .slice la l.length cap), (2, .pointer (some ⟨b2, 0, none⟩)), (3, .int .i64 (i : Nat))]) (fun _ => pt b2 (cl [.int .i64 0, sv []] 71) :: S :: hr) (fun i => i ≤ l.length ∧ ∀ (j : Nat) (y : Cls), j < i → l[j]? = some y → alone l j y = 0) (fun i => l.length - i) 0 ⟨Nat.zero_le _, fun j y hj => absurd hj (Nat.not_lt_zero _)⟩ ?_))))))))))
    rintro i ⟨hi, hb⟩
    refine cd_seq (cd_seq (cd_region (st_v (v_move rfl) (st_v (v_move rfl) (st_v (v_len rfl Tryz.underlying22) (st_v (v_lss rfl rfl) (st_nil (nx_kp [0, 2, 3, 15] rfl (nx_then (cd_cond rfl (fun hd => ?_) (fun hd => ?_)))))))))))
    · skip
      have hlt : i < l.length := by simpa using hd
      have hxi := List.getElem?_eq_getElem hlt
      obtain ⟨b, o, cap2, d, f, pa, pc, c2, fa, fc, j2, hv2, hrd, hP, hone⟩ := sys_at hv hxi
      generalize l[i] = x at *
      refine cd_skip (xt_then (cd_seq (cd_block (cd_seq (cd_region (st_v (v_move rfl) (st_v (v_move rfl) (st_clr rfl rfl en66 rfl (aloneS_ct hv hl hxi) ?_))))))))
      refine st_v (v_assign rfl) (st_nil (nx_kp [0, 2, 3, 4] rfl (nx_then (cd_seq (cd_region (st_v (v_move rfl) (st_v (v_neq rfl rfl) (st_nil (nx_kp [0, 2, 3, 4, 22] rfl (nx_then (cd_cond rfl (fun hn => ?_) (fun hn => ?_))))))))))))
      · skip
        have hn : alone l i x ≠ 0 := by simpa using hn
        rw [check_alone h24 hxi hb hn]
        refine cd_seq (cd_region (st_v (v_move rfl) (st_v (v_move rfl) (st_v (v_move rfl) (st_v (v_indexAddr (k := i) (congrArg some hv2) rfl sl22 rfl hlt rfl) (st_v (v_fieldAddr rfl fa29_0 rfl) (st_v (v_ldy rfl ld9) ?_)))))))
        refine st_v (v_build (cells := [.int .i64 (alone l i x), sv x.name]) rfl (fun _ => by kernel_rfl)) ?_
        refine st_stoW rfl rfl sz71 rfl rfl ?_
        refine st_nil (nx_kp [2] rfl (nx_then (cd_ret (xt_ret_block (xt_ret_then (xt_ret_then (xt_ret_block (xt_ret_then ?_))))))))
        exact xt_retV (.cellN rfl ld71 rfl (by repeat (first | exact Sel.here | apply Sel.there)) .nil) ⟨x.name, rfl, rfl⟩ (by repeat (first | exact Sub.refl _ | exact Sub.nil _ | refine Sub.sel (by repeat (first | exact Sel.here | apply Sel.there)) ?_ | apply Sub.cons))
      · skip
        have hn : alone l i x = 0 := by simpa using hn
        refine cd_skip (xt_normal_block (xt_then (cd_region (st_v (v_move rfl) (st_v (v_add rfl rfl (by unfold I64 at *; omega)) (st_v (v_assign rfl) (st_nil (nx_kp [0, 2, 3] rfl (nx_xt (xt_aq (i + 1) ⟨hlt, fun j y hj hy => ?_⟩ (by show _ - _ < _ - _; omega)))))))))))
        by_cases hji : j = i
        · subst hji; rw [hxi] at hy; cases hy; exact hn
        · exact hb j y (by omega) hy
    · skip
      have hil : i = l.length := by have : ¬ i < l.length := by simpa using hd
                                    omega
      have hball : ∀ (j : Nat) (y : Cls), l[j]? = some y → alone l j y = 0 := fun j y hj => hb j y (by rw [hil]; exact (List.getElem?_eq_some_iff.1 hj).1) hj
      have hpar : ∀ x ∈ l, x.parents.length ≤ 4 := fun x hx => by
        obtain ⟨j, hj⟩ := List.getElem?_of_mem hx
        exact (alone_zero.1 (hball j x hj)).1
      refine cd_exit (xt_exit_then (xt_exit_then (xt_exit_block (xt_then (cd_seq (cd_seq (cd_region (st_v (v_assign rfl) (st_nil (nx_kp [0, 2, 5] rfl (nx_then (cd_block (cd_lq (σ := Nat) (fun i => [(0, .slice la l.length cap), (2, .pointer (some ⟨b2, 0, none⟩)), (5, .int .i64 (i : Nat))]) (fun _ => pt b2 (cl [.int .i64 0, sv []] 71) :: S :: hr) (fun i => i ≤ l.length ∧ ∀ (j : Nat) (y : Cls), j < i → l[j]? = some y → lost l y = false) (fun i => l.length - i) 0 ⟨Nat.zero_le _, fun j y hj => absurd hj (Nat.not_lt_zero _)⟩ ?_)))))))))))))
      rintro i2 ⟨hi2, hls⟩
      refine cd_seq (cd_seq (cd_region (st_v (v_move rfl) (st_v (v_move rfl) (st_v (v_len rfl Tryz.underlying22) (st_v (v_lss rfl rfl) (st_nil (nx_kp [0, 2, 5, 33] rfl (nx_then (cd_cond rfl (fun hd2 => ?_) (fun hd2 => ?_)))))))))))
      · skip
        have hlt : i2 < l.length := by simpa using hd2
        have hxi := List.getElem?_eq_getElem hlt
        obtain ⟨b, o, cap2, d, f, pa, pc, c2, fa, fc, j2, hv2, hrd, hP, hone⟩ := sys_at hv hxi
        have hpx := hpar _ (List.getElem_mem hlt)
        generalize l[i2] = x at *
        refine cd_skip (xt_then (cd_seq (cd_block (cd_seq (cd_region (st_v (v_assign rfl) (st_nil (nx_kp [0, 2, 5, 6] rfl (nx_then (cd_block (cd_lq (σ := Nat) (fun k => [(0, .slice la l.length cap), (2, .pointer (some ⟨b2, 0, none⟩)), (5, .int .i64 (i2 : Nat)), (6, .int .i64 (k : Nat))]) (fun _ => pt b2 (cl [.int .i64 0, sv []] 71) :: S :: hr) (fun k => k ≤ x.parents.length ∧ ∀ p ∈ x.parents.take k, isC l p = true) (fun k => x.parents.length - k) 0 ⟨Nat.zero_le _, fun p hp => by simp at hp⟩ ?_)))))))))))
        rintro k ⟨hk, hkk⟩
        refine cd_seq (cd_seq (cd_region (st_v (v_move rfl) (st_v (v_move rfl) (st_v (v_move rfl) (st_v (v_indexAddr (k := i2) (congrArg some hv2) rfl sl22 rfl hlt rfl) (st_v (v_fieldAddr rfl fa29_3 rfl) (st_v (v_ldy rfl ld24) ?_))))))))
        refine st_v (v_len rfl Tryz.underlying24) (st_v (v_lss rfl rfl) (st_nil (nx_kp [0, 2, 5, 6, 43] rfl (nx_then (cd_cond rfl (fun hd3 => ?_) (fun hd3 => ?_))))))
        · skip
          have hklt : k < x.parents.length := by simpa using hd3
          obtain ⟨pb, po, pcap, q1, q2, q3, q4, q5, hpv, hprd, hpone⟩ := par_at hP (List.getElem?_eq_getElem hklt)
          have htk := List.take_succ_eq_append_getElem hklt
          have hmem := List.getElem_mem hklt
          generalize x.parents[k] = p at *
          refine cd_skip (xt_then (cd_seq (cd_block (cd_seq (cd_region (st_v (v_move rfl) (st_v (v_move rfl) (st_v (v_move rfl) (st_v (v_indexAddr (k := i2) (congrArg some hv2) rfl sl22 rfl hlt rfl) (st_v (v_fieldAddr rfl fa29_3 rfl) (st_v (v_ldy rfl ld24) ?_)))))))))))
          refine st_v (v_move rfl) (st_v (v_indexAddr (k := k) (congrArg some hpv) rfl sl24 rfl hklt rfl) (st_v (v_fieldAddr rfl fa93_0 rfl) (st_v (v_ldy rfl ld9) ?_)))
          refine st_clr rfl rfl en67 rfl (index_ct hv p (by omega)) ?_
          refine st_v (v_lss rfl rfl) (st_nil (nx_kp [0, 2, 5, 6, 57] rfl (nx_then (cd_cond rfl (fun hx => ?_) (fun hx => ?_)))))
          · skip
            have hx : isC l p = false := by
              rw [← ixN_isC]
              have : ixN l p < 0 := by simpa using hx
              exact decide_eq_false (by omega)
            have hlo : lost l x = true := by
              unfold lost
              rw [List.any_eq_true]
              exact ⟨p, hmem, by rw [hx]; rfl⟩
            rw [check_lost h24 hball hxi hls hlo]
            refine cd_seq (cd_region (st_v (v_move rfl) (st_v (v_move rfl) (st_v (v_indexAddr (k := i2) (congrArg some hv2) rfl sl22 rfl hlt rfl) (st_v (v_fieldAddr rfl fa29_0 rfl) (st_v (v_ldy rfl ld9) ?_))))))
            refine st_v (v_build (cells := [.int .i64 5, sv x.name]) rfl (fun _ => by kernel_rfl)) ?_
            refine st_stoW rfl rfl sz71 rfl rfl ?_
            refine st_nil (nx_kp [2] rfl (nx_then (cd_ret (xt_ret_block (xt_ret_then (xt_ret_then (xt_ret_block (xt_ret_block (xt_ret_then (xt_ret_then (xt_ret_block (xt_ret_then ?_))))))))))))
            exact xt_retV (.cellN rfl ld71 rfl (by repeat (first | exact Sel.here | apply Sel.there)) .nil) ⟨x.name, rfl, rfl⟩ (by repeat (first | exact Sub.refl _ | exact Sub.nil _ | refine Sub.sel (by repeat (first | exact Sel.here | apply Sel.there)) ?_ | apply Sub.cons))
          · skip
            have hx : isC l p = true := by
              rw [← ixN_isC]
              have : ¬ ixN l p < 0 := by simpa using hx
              exact decide_eq_true (by omega)
            refine cd_skip (xt_normal_block (xt_then (cd_region (st_v (v_move rfl) (st_v (v_add rfl rfl (by unfold I64 at *; omega)) (st_v (v_assign rfl) (st_nil (nx_kp [0, 2, 5, 6] rfl (nx_xt (xt_aq (k + 1) ⟨hklt, fun q hq => ?_⟩ (Nat.sub_lt_sub_left hklt (Nat.lt_succ_self k))))))))))))
            rw [htk] at hq
            rcases List.mem_append.1 hq with hq | hq
            · exact hkk q hq
            · simp at hq; rw [hq]; exact hx
        · skip
          have hke : k = x.parents.length := by have : ¬ k < x.parents.length := by simpa using hd3
                                                omega
          subst hke
          rw [List.take_length] at hkk
          refine cd_exit (xt_exit_then (xt_exit_then (xt_exit_block (xt_normal_block (xt_then (cd_region (st_v (v_move rfl) (st_v (v_add rfl rfl (by unfold I64 at *; omega)) (st_v (v_assign rfl) (st_nil (nx_kp [0, 2, 5] rfl (nx_xt (xt_aq (i2 + 1) ⟨hlt, fun j y hj hy => ?_⟩ (Nat.sub_lt_sub_left hlt (Nat.lt_succ_self i2)))))))))))))))
          by_cases hji : j = i2
          · subst hji; rw [hxi] at hy; cases hy; exact lost_of hkk
          · have hj : j < i2 + 1 := hj
            exact hls j y (by omega) hy
      · skip
        have hil2 : i2 = l.length := by have : ¬ i2 < l.length := by simpa using hd2
                                        omega
        have hlall : ∀ (j : Nat) (y : Cls), l[j]? = some y → lost l y = false := fun j y hj => hls j y (by rw [hil2]; exact (List.getElem?_eq_some_iff.1 hj).1) hj
        refine cd_exit (xt_exit_then (xt_exit_then (xt_exit_block (xt_then (cd_seq (cd_region (st_v (v_move rfl) (st_cl rfl rfl en68 rfl (RingS_ct hv h24 (fun x hx => Nat.le_trans (hpar x hx) (by decide))) ?_))))))))
        rintro u h' ⟨T, rfl, r, hu1, hu, hrl, hrn⟩
        simp only [List.cons_append, List.nil_append]
        obtain ⟨ra, rcap, rfl, _⟩ := id hu
        refine st_v (v_assign rfl) (st_nil (nx_kp [2, 7] rfl (nx_then (cd_seq (cd_seq (cd_region (st_v (v_move rfl) (st_v (v_len rfl Tryz.underlying25) (st_v (v_gtr rfl rfl) (st_nil (nx_kp [2, 7, 68] rfl (nx_then (cd_cond rfl (fun hr0 => ?_) (fun hr0 => ?_))))))))))))))
        · skip
          have hr0 : 0 < r.length := by have : (0 : Int) < r.length := by simpa using hr0
                                        omega
          obtain ⟨r', hr'⟩ : ∃ r', ring l = some r' := by
            cases h : ring l with
            | some r' => exact ⟨r', rfl⟩
            | none =>
              rw [hrn.2 (noRing_acyc.2 (ring_none.1 h))] at hr0
              simp at hr0
          rw [check_ring h24 hball hlall hr']
          obtain ⟨rb, ro, rcap2, hrv2, hrrd⟩ := nms_at hu (List.getElem?_eq_getElem hr0)
          refine cd_seq (cd_region (st_v (v_move rfl) (st_v (v_indexAddr (k := 0) (congrArg some hrv2) rfl sl25 rfl hr0 rfl) (st_v (v_ldy rfl ld9) ?_))))
          refine st_v (v_build (cells := [.int .i64 7, sv r[0]]) rfl (fun _ => by kernel_rfl)) ?_
          refine st_stoW rfl rfl sz71 rfl rfl ?_
          refine st_nil (nx_kp [2] rfl (nx_then (cd_ret (xt_ret_then ?_))))
          exact xt_retV (.cellN rfl ld71 rfl (by repeat (first | exact Sel.here | apply Sel.there)) .nil) ⟨r[0], rfl, rfl⟩ (by repeat (first | exact Sub.refl _ | exact Sub.nil _ | refine Sub.sel (by repeat (first | exact Sel.here | apply Sel.there)) ?_ | apply Sub.cons))
        · skip
          have hr0 : r = [] := List.eq_nil_of_length_eq_zero (by have : ¬ (0 : Int) < r.length := by simpa using hr0
                                                                 omega)
          rw [check_ok h24 hball hlall (ring_none.2 (noRing_acyc.1 (hrn.1 hr0)))]
          refine cd_skip (xt_then (cd_seq (cd_region (st_v (v_build (cells := [.int .i64 0, sv []]) rfl (fun _ => by kernel_rfl)) ?_))))
          refine st_stoW rfl rfl sz71 rfl rfl ?_
          refine st_nil (nx_kp [2] rfl (nx_then (cd_ret ?_)))
          exact xt_retV (.cellN rfl ld71 rfl (by repeat (first | exact Sel.here | apply Sel.there)) .nil) ⟨[], rfl, rfl⟩ (by repeat (first | exact Sub.refl _ | exact Sub.nil _ | refine Sub.sel (by repeat (first | exact Sel.here | apply Sel.there)) ?_ | apply Sub.cons))
variable {N : Res} {nv : Value} {ns : List Nm}
set_option maxRecDepth 100000 in
theorem asked_ct (hv : sysR S v l) (hl : l.length ≤ 1000000) (hn : nmsR N nv ns) (hnl : ns.length ≤ 1099511627776) : Reads Tryz.prog 38 #[v, nv] [S, N] (.int .i64 (rightE l ns)) := by
  obtain ⟨la, cap, rfl, _⟩ := id hv
  obtain ⟨na, ncap, rfl, _⟩ := id hn
  refine ct_of (n := 27) Tryz.func38 rfl rfl (len rfl) fun hr w0 => ?_
  refine cd_seq (cd_region (st_v (v_assign rfl) (st_nil (nx_then (cd_seq (cd_region (st_v (v_move rfl) (st_cl rfl rfl en31 rfl (CheckS_ct hv hl) ?_))))))))
  rintro u h' ⟨n, rfl, rfl⟩
  simp only [List.cons_append, List.nil_append]
  refine st_alc al71 fun b5 => ?_
  refine st_stoW rfl rfl sz71 rfl rfl ?_
  refine st_nil (nx_kp [0, 1, 4, 5] rfl (nx_then (cd_seq (cd_seq (cd_region (st_v (v_fieldAddr rfl fa71_0 rfl) (st_v (v_ldy rfl ld32) ?_)))))))
  refine st_v (v_neq rfl rfl) (st_nil (nx_kp [0, 1, 4, 5, 11] rfl (nx_then (cd_cond rfl (fun hc => ?_) (fun hc => ?_)))))
  · skip
    have hc : ¬ (check l).1 = 0 := by simpa using hc
    rw [show rightE l ns = (check l).1 by unfold rightE; rw [if_neg hc]]
    refine cd_seq (cd_region (st_v (v_fieldAddr rfl fa71_0 rfl) (st_v (v_ldy rfl ld32) ?_)))
    refine st_v (v_assign rfl) (st_nil (nx_kp [4] rfl (nx_then (cd_ret (xt_ret_then ?_)))))
    exact xt_rt rfl ⟨rfl, rfl⟩ (by (repeat (refine Sub.sel (by repeat (first | exact Sel.here | apply Sel.there)) ?_)); (repeat apply Sub.cons); first | exact Sub.refl _ | exact Sub.nil _)
  · skip
    have hc : (check l).1 = 0 := by simpa using hc
    refine cd_skip (xt_then (cd_seq (cd_seq (cd_region (st_v (v_assign rfl) (st_nil (nx_kp [0, 1, 4, 6] rfl (nx_then (cd_block (cd_lq (σ := Nat) (fun i => [(0, .slice la l.length cap), (1, .slice na ns.length ncap), (6, .int .i64 (i : Nat))]) (fun _ => S :: N :: hr) (fun i => i ≤ ns.length ∧ ∀ x ∈ ns.take i, isC l x = true) (fun i => ns.length - i) 0 ⟨Nat.zero_le _, fun x hx => by simp at hx⟩ ?_))))))))))
    rintro i ⟨hi, hal⟩
    refine cd_seq (cd_seq (cd_region (st_v (v_move rfl) (st_v (v_move rfl) (st_v (v_len rfl Tryz.underlying25) (st_v (v_lss rfl rfl) (st_nil (nx_kp [0, 1, 6, 17] rfl (nx_then (cd_cond rfl (fun hd => ?_) (fun hd => ?_)))))))))))
    · skip
      have hlt : i < ns.length := by simpa using hd
      obtain ⟨b, o, cap2, hv2, hrd⟩ := nms_at hn (List.getElem?_eq_getElem hlt)
      refine cd_skip (xt_then (cd_seq (cd_block (cd_seq (cd_region (st_v (v_move rfl) (st_v (v_move rfl) (st_v (v_move rfl) (st_v (v_indexAddr (k := i) (congrArg some hv2) rfl sl25 rfl hlt rfl) (st_v (v_ldy rfl ld9) ?_))))))))))
      refine st_clr rfl rfl en67 rfl (index_ct hv ns[i] (by omega)) ?_
      refine st_v (v_lss rfl rfl) (st_nil (nx_kp [0, 1, 6, 26] rfl (nx_then (cd_cond rfl (fun hx => ?_) (fun hx => ?_)))))
      · skip
        have hx : isC l ns[i] = false := by
          rw [← ixN_isC]
          have : ixN l ns[i] < 0 := by simpa using hx
          exact decide_eq_false (by omega)
        have he : rightE l ns = 5 := by
          unfold rightE
          rw [if_pos hc, if_neg (by rw [List.all_eq_true]; intro h; rw [h _ (List.getElem_mem hlt)] at hx; cases hx)]
        rw [he]
        refine cd_seq (cd_region (st_v (v_assign rfl) (st_nil (nx_kp [4] rfl (nx_then (cd_ret (xt_ret_block (xt_ret_then (xt_ret_then (xt_ret_block (xt_ret_then ?_)))))))))))
        exact xt_rt rfl ⟨rfl, rfl⟩ (by (repeat (refine Sub.sel (by repeat (first | exact Sel.here | apply Sel.there)) ?_)); (repeat apply Sub.cons); first | exact Sub.refl _ | exact Sub.nil _)
      · skip
        have hx : isC l ns[i] = true := by
          rw [← ixN_isC]
          have : ¬ ixN l ns[i] < 0 := by simpa using hx
          exact decide_eq_true (by omega)
        refine cd_skip (xt_normal_block (xt_then (cd_region (st_v (v_move rfl) (st_v (v_add rfl rfl (by unfold I64 at *; omega)) (st_v (v_assign rfl) (st_nil (nx_kp [0, 1, 6] rfl (nx_xt ?_)))))))))
        refine xt_aq (i + 1) ⟨hlt, all_take hlt hal hx⟩ (Nat.sub_lt_sub_left hlt (Nat.lt_succ_self i))
    · skip
      have hil : i = ns.length := by have : ¬ i < ns.length := by simpa using hd
                                     omega
      subst hil
      rw [List.take_length] at hal
      have he : rightE l ns = 0 := by
        unfold rightE
        rw [if_pos hc, if_pos (List.all_eq_true.2 hal)]
      rw [he]
      refine cd_exit (xt_exit_then (xt_exit_then (xt_exit_block (xt_then (cd_seq (cd_region (st_v (v_assign rfl) (st_nil (nx_kp [4] rfl (nx_then (cd_ret ?_)))))))))))
      exact xt_rt rfl ⟨rfl, rfl⟩ (by (repeat (refine Sub.sel (by repeat (first | exact Sel.here | apply Sel.there)) ?_)); (repeat apply Sub.cons); first | exact Sub.refl _ | exact Sub.nil _)
end
end Go.Hr
namespace Go.Hr
open Go Go.RowKit Go.Ck Go.Proofs Go.Proofs.YtjgiaohieadeiaaGreat Fx
attribute [local irreducible] Go.Ck.Sub St Cd Xt Nx DrL LsW
theorem Right.sel {l : Sys} (hR : Right l) : ∀ x ∈ l, x.parents.length ≤ 1099511627776 := fun x hx => Nat.le_trans (hR.few x hx) (by decide)
theorem dist_self (l : Sys) (c : Nm) : dist l c c = some 0 := dist_some.2 ⟨by simp [W], fun i hi => absurd hi (Nat.not_lt_zero _)⟩
theorem shortR_self (l : Sys) (c : Nm) : shortR l c c = [c] := by unfold shortR; rw [dist_self]; rfl
theorem further_R {l : Sys} {c x : Nm} (hne : c ≠ x) : further l c x = shortR l x c := further_short hne
theorem shortR_nil {l : Sys} {c x : Nm} : shortR l x c = [] ↔ has l c x = false := by
  unfold shortR has
  cases h : dist l x c with
  | none => simp
  | some k =>
    simp only [Option.isSome_some, reduceCtorEq, iff_false]
    intro e
    have := short_len l x k c
    rw [e] at this; simp at this
section
variable {S N : Res} {v nv : Value} {l : Sys} {ns : List Nm}
end
end Go.Hr
namespace Go.Hr
open Go Go.RowKit Go.Ck Go.Proofs Go.Proofs.YtjgiaohieadeiaaGreat Fx
attribute [local irreducible] Go.Ck.Sub St Cd Xt Nx DrL LsW
section
variable {S N : Res} {v nv : Value} {l : Sys} {ns : List Nm}
set_option maxRecDepth 100000 in
theorem fewS_ct (hv : sysR S v l) : Reads Tryz.prog 5 #[v] [S] (.bool (fewL l)) := by
  have hl := Row.lenle hv
  have hml : maxLen = 9223372036854775807 := rfl
  obtain ⟨a, cap, rfl, _⟩ := id hv
  refine ct_of (n := 30) Tryz.func5 rfl rfl (len rfl) fun hr w0 => ?_
  refine cd_seq (cd_region (st_v (v_assign rfl) (st_nil (nx_then (cd_seq (cd_seq (cd_region (st_v (v_assign rfl) (st_nil (nx_then (cd_block (cd_lq (σ := Nat) (fun i => [(0, .slice a l.length cap), (3, .int .i64 (i : Nat))]) (fun _ => S :: hr) (fun i => i ≤ l.length ∧ ∀ (j : Nat) (y : Cls), j < i → l[j]? = some y → y.parents.length ≤ 8) (fun i => l.length - i) 0 ⟨Nat.zero_le _, fun j y hj => by omega⟩ ?_))))))))))))
  rintro i ⟨hi, hne⟩
  refine cd_seq (cd_seq (cd_region (st_v (v_move rfl) (st_v (v_move rfl) (st_v (v_len rfl Tryz.underlying22) (st_v (v_lss rfl rfl) (st_nil (nx_kp [0, 3, 7] rfl (nx_then (cd_cond rfl (fun hd => ?_) (fun hd => ?_)))))))))))
  · skip
    have hlt : i < l.length := by simpa using hd
    obtain ⟨b, o, cap2, d, f, pa, pc, c2, fa, fc, j2, hv2, hrd, hP, hone⟩ := sys_at hv (List.getElem?_eq_getElem hlt)
    refine cd_skip (xt_then (cd_seq (cd_block (cd_seq (cd_region (st_v (v_move rfl) (st_v (v_move rfl) (st_v (v_indexAddr (k := i) (congrArg some hv2) rfl sl22 rfl hlt rfl) (st_v (v_fieldAddr rfl fa29_3 rfl) (st_v (v_ldy rfl ld24) ?_))))))))))
    refine st_v (v_len rfl Tryz.underlying24) (st_v (v_gtr rfl rfl) (st_nil (nx_kp [0, 3, 16] rfl (nx_then (cd_cond rfl (fun he => ?_) (fun he => ?_))))))
    · skip
      have he : ¬ (l[i]).parents.length ≤ 8 := by have : (8 : Int) < (l[i]).parents.length := by simpa using he
                                                  omega
      refine cd_seq (cd_region (st_v (v_assign rfl) (st_nil (nx_kp [2] rfl (nx_then (cd_ret (xt_ret_block (xt_ret_then (xt_ret_then (xt_ret_block (xt_ret_then ?_)))))))))))
      rw [show fewL l = false by
        unfold fewL
        rw [Bool.and_eq_false_iff]; left
        rw [List.all_eq_false]
        exact ⟨l[i], List.getElem_mem hlt, by simpa using he⟩]
      exact xt_rt rfl ⟨rfl, rfl⟩ (by (repeat (refine Sub.sel (by repeat (first | exact Sel.here | apply Sel.there)) ?_)); (repeat apply Sub.cons); first | exact Sub.refl _ | exact Sub.nil _)
    · skip
      have he : (l[i]).parents.length ≤ 8 := by have : ¬ (8 : Int) < (l[i]).parents.length := by simpa using he
                                                omega
      refine cd_skip (xt_normal_block (xt_then (cd_region (st_v (v_move rfl) (st_v (v_add rfl rfl (by unfold I64 at *; omega)) (st_v (v_assign rfl) (st_nil (nx_kp [0, 3] rfl (nx_xt (xt_aq (i + 1) ⟨hlt, fun j y hj hy => ?_⟩ (by show _ - _ < _ - _; omega)))))))))))
      by_cases hji : j = i
      · subst hji; rw [List.getElem?_eq_getElem hlt] at hy; cases hy; exact he
      · exact hne j y (by omega) hy
  · skip
    refine cd_exit (xt_exit_then (xt_exit_then (xt_exit_block (xt_then (cd_seq (cd_region (st_v (v_move rfl) (st_v (v_len rfl Tryz.underlying22) (st_v (v_leq rfl rfl) (st_v (v_move rfl) ?_))))))))))
    have hil : i = l.length := by have : ¬ i < l.length := by simpa using hd
                                  omega
    rw [show fewL l = (decide ((l.length : Int) ≤ 10) || (decide (24 < (l.length : Int)) && decide ((l.length : Int) ≤ 40))) by
      unfold fewL
      rw [show l.all (fun x => decide (x.parents.length ≤ 8)) = true from List.all_eq_true.2 fun x hx => by
        obtain ⟨j, hj, rfl⟩ := List.getElem_of_mem hx
        exact decide_eq_true (hne j _ (by omega) (List.getElem?_eq_getElem hj)), Bool.true_and]
      congr 1
      · rw [decide_eq_decide]; omega
      · congr 1 <;> rw [decide_eq_decide] <;> omega]
    refine st_cut (k := 13) (d := 29) (v := .bool (decide ((l.length : Int) ≤ 10) || (decide (24 < (l.length : Int)) && decide ((l.length : Int) ≤ 40)))) (fun hcut => bool_want (b := decide ((l.length : Int) ≤ 10)) false (fun hg => ?_) (fun hg => ?_)) ?_
    · refine st_sk rfl rfl hg ?_
      refine st_sk rfl rfl hg ?_
      refine st_sk rfl rfl hg ?_
      refine st_sk rfl rfl hg ?_
      refine st_sku rfl rfl ?_
      refine st_sku rfl rfl ?_
      refine st_sku rfl rfl ?_
      refine st_sk rfl rfl hg ?_
      refine st_v (v_pick_true (bool_ev rfl hg) rfl) ?_
      exact hcut _ (ssub_head (by first | rfl | (rw [hg]; rfl) | simp_all) (ssub_skip rfl (ssub_skip rfl (ssub_skip rfl (ssub_skip rfl (ssub_skip rfl (ssub_skip rfl (ssub_skip rfl (ssub_skip rfl (ssub_refl))))))))))
    · skip
      refine st_vg rfl (bool_get rfl hg) (v_move rfl) (st_vg rfl (bool_get rfl hg) (v_len rfl Tryz.underlying22) (st_vg rfl (bool_get rfl hg) (v_gtr rfl rfl) (st_vg rfl (bool_get rfl hg) (v_move rfl) (st_cut (k := 12) (d := 28) (v := .bool (decide (24 < (l.length : Int)) && decide ((l.length : Int) ≤ 40))) (fun hcut => bool_want (b := decide (24 < (l.length : Int))) true (fun hg1 => ?_) (fun hg1 => ?_)) ?_))))
      · refine st_sk rfl rfl hg1 ?_
        refine st_sk rfl rfl hg1 ?_
        refine st_sk rfl rfl hg1 ?_
        refine st_vg rfl (bool_get rfl hg) (v_pick_false (bool_ev rfl hg1) rfl) ?_
        exact hcut _ (ssub_head (by first | rfl | (rw [hg1]; rfl) | simp_all) (ssub_skip rfl (ssub_skip rfl (ssub_skip rfl (ssub_refl)))))
      · skip
        refine st_vg rfl (bool_get rfl hg1) (v_move rfl) (st_vg rfl (bool_get rfl hg1) (v_len rfl Tryz.underlying22) (st_vg rfl (bool_get rfl hg1) (v_leq rfl rfl) (st_vg rfl (bool_get rfl hg) (v_pick_true (bool_ev rfl hg1) rfl) ?_)))
        exact hcut _ (ssub_head (by first | rfl | (rw [hg1]; rfl) | simp_all) (ssub_skip rfl (ssub_skip rfl (ssub_skip rfl (ssub_refl)))))
      refine st_v (v_pick_false (bool_ev rfl hg) rfl) ?_
      exact hcut _ (ssub_head (by first | rfl | (rw [hg]; rfl) | simp_all) (by repeat (first | exact ssub_refl | refine ssub_skip rfl ?_)))
    refine st_v (v_assign rfl) (st_nil (nx_kp [2] rfl (nx_then (cd_ret ?_))))
    exact xt_rt rfl ⟨rfl, rfl⟩ (by (repeat (refine Sub.sel (by repeat (first | exact Sel.here | apply Sel.there)) ?_)); (repeat apply Sub.cons); first | exact Sub.refl _ | exact Sub.nil _)
theorem shortR_few {l : Sys} {c x : Nm} : (shortR l x c).length ≤ l.length + 2 := by
  by_cases h : c = x
  · subst h; rw [shortR_self]; simp
  · rw [← further_R h]
    rcases further_len l c x with h1 | h1
    · rw [h1]; simp
    · exact h1.2
theorem okL_len {α : Type} {e : Int} {xs : List α} {n : Nat} (h : xs.length ≤ n) : (okL e xs).length ≤ n := by
  unfold okL
  split
  · exact h
  · simp
theorem few_40 (h : fewL l = true) : l.length ≤ 40 ∧ ∀ x ∈ l, x.parents.length ≤ 8 := by
  unfold fewL at h
  simp only [Bool.and_eq_true, Bool.or_eq_true, decide_eq_true_eq, List.all_eq_true] at h
  exact ⟨by omega, h.1⟩
end
end Go.Hr
namespace Go.Hr
open Go Go.RowKit Go.Ck Go.Proofs Go.Proofs.YtjgiaohieadeiaaGreat Fx
attribute [local irreducible] Go.Ck.Sub St Cd Xt Nx DrL LsW
theorem ddL_len {xs o : List Nm} : (dd o xs).length ≤ o.length + xs.length := by
  induction xs generalizing o with
  | nil => simp [dd]
  | cons x t ih =>
    show (dd (step o x) t).length ≤ _
    have h1 := ih (o := step o x)
    have h2 : (step o x).length ≤ o.length + 1 := by unfold step; split <;> simp
    simp only [List.length_cons]; omega
theorem aboveC_len {l : Sys} (hR : Right l) (c : Nm) : (above l c).length ≤ 25 := by
  obtain ⟨h1, h2⟩ := above_spec hR.acyc c
  have h3 := length_le_of_nodup (b := c :: nms l) h1.nodup fun x hx => by
    rcases has_cases ((h2 x).1 hx) with h | ⟨p, hp, h⟩
    · rw [h]; exact List.mem_cons_self
    · exact List.mem_cons_of_mem _ (isC_iff.1 (has_isC (par_isC hp) h))
  have h4 := hR.len
  simp only [List.length_cons, nms, List.length_map] at h3
  omega
theorem aboveC_has {l : Sys} (hR : Right l) (c x : Nm) : (above l c).contains x = has l c x := by
  rw [Bool.eq_iff_iff, List.contains_iff_mem]; exact (above_spec hR.acyc c).2 x
def upTo (l : Sys) (c : Nm) (i : Nat) : List Nm := ((par l c).take i).foldl (fun o p => dd o (above l p)) []
theorem upTo_succ {l : Sys} {c : Nm} {i : Nat} (h : i < (par l c).length) : upTo l c (i + 1) = dd (upTo l c i) (above l (par l c)[i]) := by
  unfold upTo
  rw [List.take_succ_eq_append_getElem h, List.foldl_append]; rfl
theorem dd_succ {o xs : List Nm} {k : Nat} (h : k < xs.length) : dd o (xs.take (k + 1)) = step (dd o (xs.take k)) xs[k] := by
  rw [List.take_succ_eq_append_getElem h, dd_snoc]
section
variable {S N : Res} {v nv : Value} {l : Sys} {ns : List Nm}
end
end Go.Hr
namespace Go.Hr
open Go Go.RowKit Go.Ck Go.Proofs Go.Proofs.YtjgiaohieadeiaaGreat Fx
attribute [local irreducible] Go.Ck.Sub St Cd Xt Nx DrL LsW
theorem anyA_above {l : Sys} (hR : Right l) (c : Nm) (ns : List Nm) : ((above l c).any fun x => ns.contains x) = ns.any fun a => has l c a := by
  rw [Bool.eq_iff_iff, List.any_eq_true, List.any_eq_true]
  constructor
  · rintro ⟨x, h1, h2⟩
    exact ⟨x, List.contains_iff_mem.1 h2, ((above_spec hR.acyc c).2 x).1 h1⟩
  · rintro ⟨x, h1, h2⟩
    exact ⟨x, ((above_spec hR.acyc c).2 x).2 h2, List.contains_iff_mem.2 h1⟩
theorem rightE_nil (l : Sys) : rightE l [] = (check l).1 := by
  unfold rightE
  split
  · rename_i h; rw [h]; rfl
  · rfl
def touF (l : Sys) (ns : List Nm) (i : Nat) : List Nm := ((nms l).take i).filter fun c => ns.any fun a => has l c a
theorem nms_take {l : Sys} {i : Nat} (h : i < l.length) : (nms l).take (i + 1) = (nms l).take i ++ [(l[i]).name] := by
  rw [List.take_succ_eq_append_getElem (by simpa [nms] using h)]
  simp [nms]
theorem touF_succ {l : Sys} {ns : List Nm} {i : Nat} (h : i < l.length) : touF l ns (i + 1) = touF l ns i ++ (if ns.any (fun a => has l (l[i]).name a) then [(l[i]).name] else []) := by
  unfold touF
  rw [nms_take h, List.filter_append, List.filter_cons]
  rfl
theorem touF_all (l : Sys) (ns : List Nm) : touF l ns l.length = touched l ns := by
  unfold touF touched
  rw [List.take_of_length_le (by simp [nms])]
theorem touF_len (l : Sys) (ns : List Nm) (i : Nat) : (touF l ns i).length ≤ l.length := by
  unfold touF
  have h1 := List.length_filter_le (fun c => ns.any fun a => has l c a) ((nms l).take i)
  have h2 : ((nms l).take i).length ≤ l.length := by rw [List.length_take]; simp [nms]; omega
  omega
section
variable {S N : Res} {v nv : Value} {l : Sys} {ns : List Nm}
theorem touched_one (l : Sys) (c : Nm) : touched l [c] = below l c := by unfold touched below; congr 1; funext x; simp
end
end Go.Hr
namespace Go.Hr
open Go Go.RowKit Go.Ck Go.Proofs Go.Proofs.YtjgiaohieadeiaaGreat Fx
attribute [local irreducible] Go.Ck.Sub St Cd Xt Nx DrL LsW
def iC (n : Nat) : List Value := [.int .i64 n]
def IR (v : Value) (xs : List Nat) : Res := VR v 3 1 (xs.map iC)
def intsR (S : Res) (v : Value) (xs : List Nat) : Prop := Row S 1 (fun us n => us = iC n) v xs
theorem ints_own {v : Value} {xs : List Nat} (hok : ∃ f, (IR v xs).ok f) : intsR (IR v xs) v xs :=
  row_vr hok (by simp) (fun _ _ h => h) fun i us x h1 h2 => by
    rw [List.getElem?_map, h2] at h1
    simp only [Option.map_some, Option.some.injEq] at h1
    exact h1.symm
theorem ints_at {S : Res} {v : Value} {xs : List Nat} (h : intsR S v xs) {i : Nat} {x : Nat} (hi : xs[i]? = some x) : ∃ b o cap, v = .slice (some ⟨b, o, none⟩) xs.length cap ∧ Rd S ⟨b, o + i * 1, none⟩ (.int .i64 x) := by
  obtain ⟨b, o, cap, u, h1, h2, h3⟩ := Row.at1 h hi
  unfold iC at h3
  simp only [List.cons.injEq, and_true] at h3
  subst h3
  exact ⟨b, o, cap, h1, h2⟩
theorem sel_perm {l : Sys} (hR : Right l) {o : List Nm} (hT : Tp l o) {i : Nat} (hi : i < o.length) : ((o.take i).filter fun x => (par l o[i]).contains x).Perm (par l o[i]) := by
  obtain ⟨h1, h2⟩ := tp_at hR.acyc hT hi
  refine (List.perm_ext_iff_of_nodup ((List.Sublist.nodup (List.take_sublist i o) hT.nodup).filter _) (hR.par_nodup _)).2 fun x => ?_
  rw [List.mem_filter, List.contains_iff_mem]
  exact ⟨fun h => h.2, fun h => ⟨h2 x h, h⟩⟩
def sumI (l : Sys) (a : Nm) (o ps : List Nm) (k : Nat) : Nat := (((o.take k).filter fun x => ps.contains x).map fun x => ways l x a).sum
theorem sumI_succ {l : Sys} {a : Nm} {o ps : List Nm} {k : Nat} (h : k < o.length) : sumI l a o ps (k + 1) = sumI l a o ps k + (if ps.contains o[k] then ways l o[k] a else 0) := by
  unfold sumI
  rw [List.take_succ_eq_append_getElem h, List.filter_append, List.map_append, List.sum_append, List.filter_cons]
  congr 1
  split <;> simp
theorem sumI_le {l : Sys} (hR : Right l) (a : Nm) (o ps : List Nm) (k : Nat) : sumI l a o ps k ≤ k * 4 ^ 24 := by
  refine Nat.le_trans (sum_le (k := 4 ^ 24) fun x _ => ways_24 hR x a) (Nat.mul_le_mul_right _ ?_)
  exact Nat.le_trans (List.length_filter_le _ _) (by rw [List.length_take]; omega)
theorem sumI_all {l : Sys} (hR : Right l) (a : Nm) {o : List Nm} (hT : Tp l o) {i : Nat} (hi : i < o.length) : ways l o[i] a = (if o[i] = a then 1 else 0) + sumI l a o (par l o[i]) i := by
  rw [ways_rec hR.acyc]
  congr 1
  exact (((sel_perm hR hT hi).map fun p => ways l p a).sum_nat).symm
section
variable {S N : Res} {v nv : Value} {l : Sys} {ns : List Nm}
end
end Go.Hr
namespace Go.Ck
open Go Go.RowKit
section
variable {P : Program} {e : Env} {h : SH} {ty : TypeId}
theorem v_sliceHeadA {T E : TypeId} {x y : Operand} {a : Option Addr} {n cp hi sz : Nat} {i : Int} {k : IntKind} (hx : e.ev? x = some (.slice a n cp)) (hy : e.ev? y = some (.int k i)) (hT : SlE P T E sz)
    (hi' : i = (hi : Int)) (h1 : hi ≤ cp) : Vop P e h (.slice T x none (some y) none) ty (.slice a hi cp) :=
  ⟨by simp, by simp, fun ρ w d pos after g hρ _ => by
    subst hi'
    have hT' : P.underlying T = some (.slice (P.elem T)) := by simp [Program.elem, hT.1]
    have he : P.elem T = E := by simp [Program.elem, hT.1]
    have hr := run_slice_h (P := P) w T a n cp hT' k hi (by omega) (by omega)
    have hs : sliced a 0 hi cp sz = .slice a hi cp := by
      unfold sliced; by_cases hcl : cp = 0 <;> cases a <;> simp [hcl, Addr.add]
    simp only [he, hT.2 w, Result.andThen_ok, Int.toNat_natCast, Int.toNat_zero, hs] at hr
    simp only [execOp, hρ x _ hx, Option.map_some, Option.map_none, hρ y _ hy, Sem.run_bind, run_sliceAt_slice w T _ _ _ _ hT', hr, Result.andThen_ok, Sem.run_pure]⟩
def tlA (a : Option Addr) (lo cp sz : Nat) : Option Addr := if cp = lo then a else a.map fun p => p.add (lo * sz)
theorem v_sliceTailA {T E : TypeId} {x y : Operand} {a : Option Addr} {n cp lo sz : Nat} {i : Int} {k : IntKind} (hx : e.ev? x = some (.slice a n cp)) (hy : e.ev? y = some (.int k i)) (hT : SlE P T E sz)
    (hi' : i = (lo : Int)) (h1 : lo ≤ n) (hc : n ≤ cp) : Vop P e h (.slice T x (some y) none none) ty (.slice (tlA a lo cp sz) (n - lo) (cp - lo)) :=
  ⟨by simp, by simp, fun ρ w d pos after g hρ _ => by
    subst hi'
    have hT' : P.underlying T = some (.slice (P.elem T)) := by simp [Program.elem, hT.1]
    have he : P.elem T = E := by simp [Program.elem, hT.1]
    have hr := run_slice_l (P := P) w T a n cp hT' k lo (by omega) (by omega)
    have hs : sliced a lo n cp sz = .slice (tlA a lo cp sz) (n - lo) (cp - lo) := by
      unfold sliced tlA; by_cases hcl : cp = lo <;> simp [hcl]
    simp only [he, hT.2 w, Result.andThen_ok, Int.toNat_natCast, hs] at hr
    simp only [execOp, hρ x _ hx, Option.map_some, Option.map_none, hρ y _ hy, Sem.run_bind, run_sliceAt_slice w T _ _ _ _ hT', hr, Result.andThen_ok, Sem.run_pure]⟩
theorem Row.dropA {α : Type} {S : Res} {sz : Nat} {X : List Value → α → Prop} {a : Option Addr} {n cp k : Nat} {l : List α} (h : Row S sz X (.slice a n cp) l) (hk : k ≤ l.length) : Row S sz X (.slice (tlA a k cp sz) (n - k) (cp - k)) (l.drop k) := by
  obtain ⟨a', cap, he, h2, h3, h4, h5⟩ := h
  cases he
  refine ⟨_, _, by rw [List.length_drop], by rw [List.length_drop]; omega, by omega, fun hn => ?_, fun i x hi => ?_⟩
  · unfold tlA at hn
    split at hn
    · omega
    · have ha : a = none := by cases a with | none => rfl | some p => simp at hn
      have := h4 ha
      omega
  · rw [List.getElem?_drop] at hi
    have hlt := (List.getElem?_eq_some_iff.1 hi).1
    obtain ⟨b2, o2, us, e, h6, h7, h8⟩ := h5 (k + i) x hi
    subst e
    refine ⟨b2, o2 + k * sz, us, ?_, h6, ?_, h8⟩
    · unfold tlA
      rw [if_neg (by omega)]; simp [Addr.add_lit]
    · rw [Nat.add_assoc, ← Nat.add_mul]; exact h7
end
end Go.Ck
namespace Go.Hr
open Go Go.RowKit Go.Ck Go.Proofs Go.Proofs.YtjgiaohieadeiaaGreat Fx
attribute [local irreducible] Go.Ck.Sub St Cd Xt Nx DrL LsW
theorem put_skip {x : Nm} : ∀ {o : List Nm} {i : Nat}, (∀ y ∈ o.take i, lt y x = true) → put o x = o.take i ++ put (o.drop i) x
  | [], i, _ => by simp
  | y :: t, 0, _ => by simp
  | y :: t, i + 1, h => by
    have hy := h y (by simp)
    rw [List.take_succ_cons, List.drop_succ_cons, List.cons_append, ← put_skip (o := t) (i := i) fun z hz => h z (by simp [hz])]
    rw [put]
    simp [hy, lt_asymm hy, lt_irrefl]
    try (intro e; subst e; rw [lt_irrefl] at hy; cases hy)
theorem put_len {x : Nm} : ∀ {o : List Nm}, (put o x).length ≤ o.length + 1
  | [] => by simp [put]
  | y :: t => by
    rw [put]
    have := put_len (x := x) (o := t)
    split
    · simp only [List.length_cons]; omega
    · split <;> simp <;> omega
theorem put_at {o : List Nm} {i : Nat} {x : Nm} (hi : i ≤ o.length) (hal : ∀ y ∈ o.take i, lt y x = true) (hn : i < o.length → lt (o.getD i []) x = false) : (i < o.length ∧ o.getD i [] = x → put o x = o) ∧ (¬ (i < o.length ∧ o.getD i [] = x) → put o x = o.take i ++ x :: o.drop i) := by
  have hsk := put_skip hal
  rcases Nat.lt_or_ge i o.length with hlt | hge
  · have hn := hn hlt
    have hdr := (List.getElem_cons_drop hlt).symm
    have hge : o.getD i [] = o[i] := by simp [hlt]
    rw [hge] at hn ⊢
    rw [hdr, put, if_neg (by rw [hn]; decide)] at hsk
    constructor
    · rintro ⟨_, he⟩
      rw [if_pos he, ← hdr, List.take_append_drop] at hsk
      exact hsk
    · intro he
      rw [if_neg fun e => he ⟨hlt, e⟩, ← hdr] at hsk
      exact hsk
  · rw [List.drop_of_length_le hge, put] at hsk
    exact ⟨fun h => by omega, fun _ => by rw [List.drop_of_length_le hge]; exact hsk⟩
section
variable {A : Res} {w : Value} {o : List Nm}
end
end Go.Hr
namespace Go.Ck
open Go Go.RowKit Go.ChangeShapes Go.WideShapes
theorem cells_one {v : Value} (h : v.oneCell' = true) : v.cells.toList = [v] := by
  cases v <;> first | rfl | (simp [Value.oneCell'] at h)
/-- An argument of one cell. -/
theorem arg_one {H : Type} {enc : TypeId × Value → H} {P : Program} {W : World} {ty : Ty} {t : TypeId} {v : Value} {d : DataW H} {ps : List MemPlace} {b : Nat} (hf : fitB P ty t = true)
    (hs : (match P.underlying t with | some (.struct _) | some (.array _ _) => false | some _ => true | none => false) = true) (hv : Value.okWide P W .any b t v) (h : DataW.Trod enc P W 0 (fun _ => true) true t v d ps) : ∃ y, Rep (old W) ty [v] y := by
  have := arg_rep hf h
  rwa [cells_one (okWide_one hs hv)] at this
theorem rep_kind {k : IntKind} {r : Res} {v : Value} {n : Int} (h : Rep r (.int k) [v] n) : v = .int k n ∧ (Lit.int k n).wf = true := by
  simp only [Rep] at h
  exact ⟨by simpa using h.1, h.2⟩
theorem wf_I64 {n : Int} (h : (Lit.int .i64 n).wf = true) : I64 n := by
  unfold Lit.wf at h
  simp [IntKind.min, IntKind.max, IntKind.signed, IntKind.bits] at h
  unfold I64; omega
theorem wf_u8 {n : Int} (h : (Lit.int .u8 n).wf = true) : 0 ≤ n ∧ n < 256 := by
  unfold Lit.wf at h
  simp [IntKind.min, IntKind.max, IntKind.signed, IntKind.bits] at h
  omega
/-- A slice is a row. -/
theorem row_of {α : Type} {r : Res} {t : Ty} {v : Value} (f : t.D → α) (X : List Value → α → Prop) (hX : ∀ us x, Rep r t us x → X us (f x)) {y : (Ty.slice t).D} (h : Rep r (.slice t) [v] y) : Row r t.sz X v ((show List t.D from y).map f) := by
  unfold Rep at h
  obtain ⟨a, cap, h1, hl, hm, hn, h2⟩ := h
  refine ⟨a, cap, by rw [List.length_map]; exact (List.cons.inj h1).1, by rw [List.length_map]; exact hl, hm, hn, fun i x hi => ?_⟩
  rw [List.getElem?_map] at hi
  cases hy : (show List t.D from y)[i]? with
  | none => rw [hy] at hi; cases hi
  | some z =>
    rw [hy] at hi
    obtain rfl := Option.some.inj hi
    rcases h2 with h0 | ⟨b, o, h3, h4⟩
    · rw [show (show List t.D from y) = [] from h0] at hy; simp at hy
    · obtain ⟨us, h5, h6, h7⟩ := h4 i z hy
      exact ⟨b, o, us, h3, h5, h6, hX _ _ h7⟩
theorem row_all {r : Res} {t : Ty} {v : Value} {φ : t.D → Prop} (hX : ∀ us x, Rep r t us x → φ x) {y : (Ty.slice t).D} (h : Rep r (.slice t) [v] y) : ∀ x ∈ (show List t.D from y), φ x := fun x hx => by
  unfold Rep at h
  obtain ⟨a, cap, h1, hl, hm, hn, h2⟩ := h
  obtain ⟨i, hi⟩ := List.getElem?_of_mem hx
  rcases h2 with h0 | ⟨b, o, h3, h4⟩
  · rw [show (show List t.D from y) = [] from h0] at hi; simp at hi
  · obtain ⟨us, h5, h6, h7⟩ := h4 i x hi
    exact hX _ _ h7
theorem one_cell {us : List Value} (h : us.length = 1) : ∃ u, us = [u] := by
  match us, h with
  | [u], _ => exact ⟨u, rfl⟩
end Go.Ck
namespace Go.Hr
open Go Go.RowKit Go.ChangeShapes Go.WideShapes Go.Ck
/-- The types that the parts that nobody looks at are made of. -/
def partL : List TypeId := [3, 4, 9, 25, 90, 136, 91, 140, 23, 131, 26, 146, 143, 182, 27, 169, 167, 165, 144, 186]
def parTy : Ty := .struct [.str, .slice (.any 5 partL), .slice (.any 2 partL), .slice .str, .slice .str, .slice .str]
def clsTy : Ty := .struct [.str, .bool, .slice (.any 2 partL), .slice parTy, .slice .str, .slice (.any 15 partL), .slice (.any 5 partL)]
def nmOf (s : ByteArray) : Nm := s.data.toList
def parOf (x : parTy.D) : Nm := nmOf (show ByteArray from x.1)
def clsOf (x : clsTy.D) : Cls := ⟨nmOf (show ByteArray from x.1), (show List parTy.D from x.2.2.2.1).map parOf, (show List Unit from x.2.2.2.2.2.1).length⟩
def sysOf (y : (Ty.slice clsTy).D) : Sys := (show List clsTy.D from y).map clsOf
theorem slice_val {r : Res} {t : Ty} {a : Value} {y : List t.D} (h : ∃ (ad : Option Addr) (cap : Nat), [a] = [Value.slice ad (List.length y) cap] ∧ List.length y ≤ cap ∧ cap ≤ maxLen ∧ (ad = none → cap = 0) ∧
      (y = ([] : List t.D) ∨ ∃ b o, ad = some ⟨b, o, none⟩ ∧ ∀ (i : Nat) (x : t.D), @getElem? (List t.D) Nat t.D _ _ y i = some x → ∃ us : List Value, us.length = t.sz ∧ Rds r b (o + i * t.sz) us ∧ Rep r t us x)) : ∃ (ad : Option Addr) (cap : Nat), a = Value.slice ad (List.length y) cap := by
  obtain ⟨ad, cap, h1, _⟩ := h
  exact ⟨ad, cap, (List.cons.inj h1).1⟩
theorem str_val {r : Res} {us : List Value} {x : ByteArray} (h : us = [Value.string x] ∧ x.size ≤ maxLen) : us = [sv (nmOf x)] := h.1
theorem parC_of {r : Res} {us : List Value} {x : parTy.D} (h : Rep r parTy us x) : parC us (parOf x) := by
  obtain ⟨x1, x2, x3, x4, x5, x6, x7⟩ := x
  simp only [parTy, Rep, Reps] at h
  obtain ⟨u1, us1, e1, l1, r1, h⟩ := h
  obtain ⟨u2, us2, e2, l2, r2, h⟩ := h
  obtain ⟨u3, us3, e3, l3, r3, h⟩ := h
  obtain ⟨u4, us4, e4, l4, r4, h⟩ := h
  obtain ⟨u5, us5, e5, l5, r5, h⟩ := h
  obtain ⟨u6, us6, e6, l6, r6, h⟩ := h
  have r1 := r1.1
  obtain ⟨a2, c2, g2, _⟩ := r2
  obtain ⟨a3, c3, g3, _⟩ := r3
  obtain ⟨a4, c4, g4, _⟩ := r4
  obtain ⟨a5, c5, g5, _⟩ := r5
  obtain ⟨a6, c6, g6, _⟩ := r6
  subst h r1 g2 g3 g4 g5 g6 e6 e5 e4 e3 e2
  exact ⟨_, _, _, _, _, e1, rfl⟩
theorem cls_of {r : Res} {us : List Value} {x : clsTy.D} (h : Rep r clsTy us x) : clsC r us (clsOf x) := by
  obtain ⟨x1, x2, x3, x4, x5, x6, x7, x8⟩ := x
  simp only [clsTy, Rep, Reps] at h
  obtain ⟨u1, us1, e1, l1, r1, h⟩ := h
  obtain ⟨u2, us2, e2, l2, r2, h⟩ := h
  obtain ⟨u3, us3, e3, l3, r3, h⟩ := h
  obtain ⟨u4, us4, e4, l4, r4, h⟩ := h
  obtain ⟨u5, us5, e5, l5, r5, h⟩ := h
  obtain ⟨u6, us6, e6, l6, r6, h⟩ := h
  obtain ⟨u7, us7, e7, l7, r7, h⟩ := h
  obtain ⟨p4, rfl⟩ := one_cell l4
  have s4 : Rep r (.slice parTy) [p4] x4 := by simp only [Rep]; exact r4
  have r1 := r1.1
  obtain ⟨a3, c3, g3, _⟩ := r3
  obtain ⟨a4, c4, g4, _⟩ := r4
  obtain ⟨a5, c5, g5, _⟩ := r5
  obtain ⟨a6, c6, g6, _⟩ := r6
  obtain ⟨a7, c7, g7, _⟩ := r7
  have g4 := (List.cons.inj g4).1
  subst h r1 r2 g3 g4 g5 g6 g7 e7 e6 e5 e4 e3 e2
  exact ⟨_, _, _, _, _, _, _, e1, rfl, row_of parOf parC (fun _ _ h => parC_of h) s4⟩
theorem sys_of {r : Res} {v : Value} {y : (Ty.slice clsTy).D} (h : Rep r (.slice clsTy) [v] y) : sysR r v (sysOf y) := row_of clsOf (clsC r) (fun _ _ h => cls_of h) h
def nmsOf (y : (Ty.slice .str).D) : List Nm := (show List ByteArray from y).map nmOf
theorem names_of {r : Res} {v : Value} {y : (Ty.slice .str).D} (h : Rep r (.slice .str) [v] y) : nmsR r v (nmsOf y) := row_of (t := .str) nmOf strC (fun us x h => by
  simp only [Rep] at h
  exact h.1) h
theorem str_of {r : Res} {v : Value} {y : Ty.str.D} (h : Rep r .str [v] y) : v = sv (nmOf y) := by
  simp only [Rep] at h
  exact (List.cons.inj h.1).1
end Go.Hr
namespace Go.Ck
open Go Go.RowKit Go.ChangeShapes Go.WideShapes
section
variable {H : Type}
theorem weights_mem_all {P : Program} {e : TypeId} : ∀ {ds : List (DataW H)} {d : DataW H}, d ∈ ds → ∀ n ∈ d.weights P e, n ∈ DataW.weightsAll P e ds
  | d0 :: ds, d, hd, n, hn => by
    simp only [DataW.weightsAll, List.mem_append]
    rcases List.mem_cons.1 hd with rfl | hd
    · exact .inl hn
    · exact .inr (weights_mem_all hd n hn)
variable (enc : TypeId × Value → H) (P : Program) (W : World)
/-- These cells are read to the end as data of that type, and no list in it is longer than memory reaches. -/
def Gd (n : Nat) (t : TypeId) (cs : List Value) : Prop := ∃ x, DataW.trod enc P W 0 (fun _ => true) true n t cs = some x ∧ ∀ m ∈ x.1.weights P t, m ≤ reachBytes
variable {enc P W}
theorem Gd.slice {n : Nat} {t e : TypeId} {cs : List Value} (h : Gd enc P W n t cs) (hu : P.underlying t = some (.slice e)) (hsz : 0 < P.cellsOf e) :
    cs = [.slice none 0 0] ∨ ∃ a len cap m, n = m + 1 ∧ cs = [.slice (some a) len cap] ∧ len ≤ cap ∧ cap ≤ maxLen ∧ len * P.bytesOf e ≤ reachBytes ∧
      ∀ i, i < len → ∃ b o us, a = ⟨b, o, none⟩ ∧ us.length = P.cellsOf e ∧ Rds (old W) b (o + i * P.cellsOf e) us ∧ Gd enc P W m e us := by
  obtain ⟨x, h, hz⟩ := h
  rcases DataW.trod_slice hu h with ⟨h0, _⟩ | ⟨a, len, cap, elems, rest, m, hn, h1, hx, _, hl, hc, hlen, hel, _⟩
  · exact .inl h0
  · refine .inr ⟨a, len, cap, m, hn, h1, hl, hc, ?_, fun i hi => ?_⟩
    · have := hz ((elems.length + rest.length) * P.bytesOf e) (by rw [hx]; simp [DataW.weights, hu])
      rw [hlen] at this
      exact Nat.le_trans (Nat.mul_le_mul_right _ (Nat.le_add_right _ _)) this
    · have h2 := hel i hi
      rw [List.getElem?_eq_getElem (by omega), Option.bind_eq_some_iff] at h2
      obtain ⟨us, h3, h4⟩ := h2
      obtain ⟨h5, h6⟩ := cells?_at h3
      have hspot : a.spot = none := by
        have g2 := hel 0 (by omega)
        rw [List.getElem?_eq_getElem (by omega), Option.bind_eq_some_iff] at g2
        obtain ⟨us0, g3, _⟩ := g2
        obtain ⟨g5, g6⟩ := cells?_at g3
        have := g6 0 (by omega)
        simp only [Nat.zero_mul, Addr.add, if_true] at this
        exact (cell_spot this).1
      obtain ⟨ab, ao, asp⟩ := a
      simp only at hspot
      subst hspot
      refine ⟨ab, ao, us, rfl, h5, fun j hj => ?_, elems[i]'(by omega), h4, fun k hk => hz k ?_⟩
      · have := h6 j hj
        rw [Addr.add_lit, Addr.add_lit] at this
        exact rd_old (cell_spot this).2 this
      · rw [hx]
        simp only [DataW.weights, hu]
        exact List.mem_cons_of_mem _ (List.mem_append_left _ (weights_mem_all (List.mem_map.2 ⟨_, List.getElem_mem (by omega), rfl⟩) _ hk))
theorem Gd.struct {n : Nat} {t : TypeId} {fs : Array Field} {cs : List Value} (h : Gd enc P W n t cs) (hu : P.underlying t = some (.struct fs)) :
    ∃ m, n = m + 1 ∧ cs.length = P.cellsOf t ∧ ∀ (i : Nat) (f : Field), fs[i]? = some f → Gd enc P W m f.type ((cs.drop f.offset).take (P.cellsOf f.type)) := by
  obtain ⟨x, h, hz⟩ := h
  obtain ⟨xs, m, hn, hx, hcl, hxl, hfe⟩ := DataW.trod_struct hu h
  refine ⟨m, hn, hcl, fun i f hf => ?_⟩
  have h1 := hfe i f hf
  have hlt : i < xs.length := by rw [hxl]; exact (Array.getElem?_eq_some_iff.1 hf).1
  rw [List.getElem?_eq_getElem hlt] at h1
  refine ⟨xs[i], h1, fun k hk => hz k ?_⟩
  rw [hx]
  simp only [DataW.weights, hu]
  exact DataW.weights_mem_each (j := i) (by rw [List.getElem?_map]; simp [hf]) (by rw [List.getElem?_map, List.getElem?_eq_getElem hlt]; rfl) _ hk
end
end Go.Ck
namespace Go.Ck
open Go Go.RowKit
theorem made_rep {z : Array Value} {sz n : Nat} (hz : z.size = sz) (h0 : 0 < sz) : (madeCells z (n * sz)).toList = (List.replicate n z.toList).flatten := by
  have hfl : ((List.replicate n z.toList).flatten).length = n * sz := by simp [hz]
  apply List.ext_getElem?
  intro i
  rcases Nat.lt_or_ge i (n * sz) with h | h
  · have h1 : i / sz < n := Nat.div_lt_of_lt_mul (by rw [Nat.mul_comm]; exact h)
    have h2 := Nat.mod_lt i h0
    have h3 := flatten_at (rows := List.replicate n z.toList) (sz := sz) (m := i / sz) (k := i % sz) (r := z.toList) (x := z[i % sz]'(by omega)) (fun r hr => by rw [List.eq_of_mem_replicate hr]; simpa using hz) (by simp [h1]) (by simp [hz, h2])
    rw [Nat.div_add_mod' i sz] at h3
    rw [h3]
    simp [madeCells, h, hz, h2]
  · rw [List.getElem?_eq_none (by simp [madeCells]; omega), List.getElem?_eq_none (by omega)]
section
variable {c : Cx} {ops : Array Oper} {K : Act → World → Prop} {rest : List Oper} {e : Env} {h : SH}
theorem st_makeV {d : Nat} {T E ty : TypeId} {x y : Operand} {pos : String} {after : Array Edge} {z : Value} {sz bytes n : Nat} {i : Int} (hx : e.ev? x = some (.int .i64 i)) (hy : e.ev? y = some (.int .i64 i)) (hn : i = (n : Int))
    (hT : c.P.underlying T = some (.slice E)) (hE : Inf c.P E z sz bytes) (hz : z.cells.size = sz) (h0 : 0 < sz) (hb : bytes * n ≤ 281474976710656) (h63 : n ≤ maxLen) (hd : d < c.n)
    (hnx : ∀ b, St c ops K rest ((d, .slice (some ⟨b, 0, none⟩) n n) :: e) (VR (.slice (some ⟨b, 0, none⟩) n n) E sz (List.replicate n z.cells.toList) :: h)) :
    St c ops K (⟨some d, .makeSlice T x y, ty, pos, after, none⟩ :: rest) e h :=
  st_any (by simp) fun a w hk hh hs => by
    obtain ⟨ie, h1, h2, h3, h4⟩ := hE.parts
    have hml : maxLen = 9223372036854775807 := rfl
    subst hn
    have hm := run_make (P := c.P) w T E ie z hT h1 h2 .i64 .i64 n n (by omega) (by omega) (by rw [h4]; have h := Int.ofNat_le.2 hb; rw [Int.natCast_mul] at h; omega) (by omega)
    have hcl : (Obj.cells (madeCells z.cells ((n : Int).toNat * ie.size)) E) = cl ((List.replicate n z.cells.toList).flatten) E := by
      simp only [cl, h3, Int.toNat_natCast, Obj.cells.injEq, and_true]
      apply Array.ext'
      rw [made_rep hz h0]
    rw [hcl] at hm
    simp only [Int.toNat_natCast] at hm
    simp only [execOp, hk.ev hx, hk.ev hy, Sem.run_bind, hm, Result.andThen_ok, Sem.run_pure]
    exact hnx _ _ _ (hk.put _ hd) (vw_of (List.replicate n z.cells.toList) rfl (fun r hr => by rw [List.eq_of_mem_replicate hr]; simpa using hz) (by simp) h63 _ (Holds.alloc hh _)) (hs.trans (Grew.alloc _ _ rfl).toSame)
/-- The same, as a block. -/
theorem st_makeP {d : Nat} {T E ty : TypeId} {x y : Operand} {pos : String} {after : Array Edge} {z : Value} {sz bytes n : Nat} {i : Int} (hx : e.ev? x = some (.int .i64 i)) (hy : e.ev? y = some (.int .i64 i)) (hn : i = (n : Int))
    (hT : c.P.underlying T = some (.slice E)) (hE : Inf c.P E z sz bytes) (hz : z.cells.size = sz) (h0 : 0 < sz) (hb : bytes * n ≤ 281474976710656) (h63 : n ≤ maxLen) (hd : d < c.n)
    (hnx : ∀ b, St c ops K rest ((d, .slice (some ⟨b, 0, none⟩) n n) :: e) (pt b (cl ((List.replicate n z.cells.toList).flatten) E) :: h)) :
    St c ops K (⟨some d, .makeSlice T x y, ty, pos, after, none⟩ :: rest) e h :=
  st_any (by simp) fun a w hk hh hs => by
    obtain ⟨ie, h1, h2, h3, h4⟩ := hE.parts
    have hml : maxLen = 9223372036854775807 := rfl
    subst hn
    have hm := run_make (P := c.P) w T E ie z hT h1 h2 .i64 .i64 n n (by omega) (by omega) (by rw [h4]; have h := Int.ofNat_le.2 hb; rw [Int.natCast_mul] at h; omega) (by omega)
    have hcl : (Obj.cells (madeCells z.cells ((n : Int).toNat * ie.size)) E) = cl ((List.replicate n z.cells.toList).flatten) E := by
      simp only [cl, h3, Int.toNat_natCast, Obj.cells.injEq, and_true]
      apply Array.ext'
      rw [made_rep hz h0]
    rw [hcl] at hm
    simp only [Int.toNat_natCast] at hm
    simp only [execOp, hk.ev hx, hk.ev hy, Sem.run_bind, hm, Result.andThen_ok, Sem.run_pure]
    exact hnx _ _ _ (hk.put _ hd) (Holds.alloc hh _) (hs.trans (Grew.alloc _ _ rfl).toSame)
theorem flat_len {sz : Nat} : ∀ {rows : List (List Value)}, (∀ r ∈ rows, r.length = sz) → rows.flatten.length = rows.length * sz
  | [], _ => by simp
  | r :: t, h => by
    rw [List.flatten_cons, List.length_append, h r (by simp), flat_len (rows := t) fun q hq => h q (by simp [hq]), List.length_cons, Nat.succ_mul]; omega
theorem splice_rows {sz : Nat} {vs : List Value} (hv : vs.length = sz) : ∀ {rows : List (List Value)} {m : Nat}, (∀ r ∈ rows, r.length = sz) → m < rows.length → splice rows.flatten (m * sz) vs = (rows.set m vs).flatten
  | [], m, _, hm => by simp at hm
  | r :: t, 0, h, _ => by
    have hr := h r (by simp)
    simp [splice, hv, ← hr]
  | r :: t, m + 1, h, hm => by
    have hr := h r (by simp)
    have ih := splice_rows hv (rows := t) (m := m) (fun q hq => h q (by simp [hq])) (by simpa using hm)
    have ht := flat_len (sz := sz) (rows := t) fun q hq => h q (by simp [hq])
    rw [List.set_cons_succ, List.flatten_cons, List.flatten_cons, ← ih]
    unfold splice
    rw [Nat.succ_mul, show m * sz + sz = r.length + m * sz by omega]
    rw [List.take_length_add_append, show r.length + m * sz + vs.length = r.length + (m * sz + vs.length) by omega, List.drop_length_add_append]
    simp
end
end Go.Ck
namespace Go.Ck
open Go Go.RowKit Go.ChangeShapes Go.WideShapes
/-- Types whose cells all belong to parts of these types. -/
def oneB (P : Program) (L : List TypeId) : Bool := L.all fun t => match P.underlying t with
  | some (.int _) => true
  | some .bool => true
  | some .string => true
  | some (.slice _) => true
  | some (.struct fs) => (List.range (P.cellsOf t)).all fun k => fs.toList.any fun f => L.contains f.type && Nat.ble f.offset k && Nat.blt k (f.offset + P.cellsOf f.type)
  | _ => false
theorem Gd.one {H : Type} {enc : TypeId × Value → H} {P : Program} {W : World} {L : List TypeId} (hL : oneB P L = true) : ∀ (n : Nat) (t : TypeId) (cs : List Value), t ∈ L → Gd enc P W n t cs → ∀ u ∈ cs, u.oneCell' = true
  | 0, t, cs, _, ⟨x, h, _⟩ => by simp [DataW.trod] at h
  | n + 1, t, cs, ht, hg => by
    have hc := List.all_eq_true.1 hL t ht
    obtain ⟨x, h, hz⟩ := id hg
    cases hu : P.underlying t with
    | none => rw [hu] at hc; cases hc
    | some d =>
      rw [hu] at hc
      cases d with
      | int k => obtain ⟨q, rfl, _⟩ := DataW.trod_int hu h; intro u hm; simp at hm; subst hm; rfl
      | bool => obtain ⟨q, rfl, _⟩ := DataW.trod_bool hu h; intro u hm; simp at hm; subst hm; rfl
      | string => obtain ⟨q, rfl, _⟩ := DataW.trod_string hu h; intro u hm; simp at hm; subst hm; rfl
      | slice e =>
        rcases DataW.trod_slice hu h with ⟨rfl, _⟩ | ⟨a, len, cap, _, _, _, _, rfl, _⟩ <;> (intro u hm; simp at hm; subst hm; rfl)
      | struct fs =>
        obtain ⟨m, hm, hcl, hf⟩ := hg.struct hu
        obtain rfl : n = m := by omega
        intro u hu2
        obtain ⟨k, hk, rfl⟩ := List.getElem_of_mem hu2
        have h1 := List.all_eq_true.1 hc k (List.mem_range.2 (by omega))
        obtain ⟨f, hfm, h2⟩ := List.any_eq_true.1 h1
        simp only [Bool.and_eq_true] at h2
        obtain ⟨⟨h3, h4⟩, h5⟩ := h2
        have h4 := Nat.le_of_ble_eq_true h4
        have h5 : k < f.offset + P.cellsOf f.type := Nat.lt_of_succ_le (by simpa [Nat.blt] using h5)
        obtain ⟨i, hi⟩ := List.getElem?_of_mem hfm
        refine Gd.one hL n f.type _ (by simpa using h3) (hf i f (by simpa using hi)) _ ?_
        refine List.mem_iff_getElem?.2 ⟨k - f.offset, ?_⟩
        rw [List.getElem?_take, if_pos (by omega), List.getElem?_drop, show f.offset + (k - f.offset) = k by omega, List.getElem?_eq_getElem hk]
      | _ => cases hc
/-! ## The same, out of any resource -/
section
variable (P : Program)
/-- These cells are read to the end out of what S says, as data of that type; no list in it is longer than memory reaches. -/
def Gr (S : Res) : Nat → TypeId → List Value → Prop
  | 0, _, _ => False
  | n + 1, t, cs => match P.underlying t with
    | some (.int _) => ∃ v, cs = [v] ∧ v.oneCell' = true
    | some .bool => ∃ v, cs = [v] ∧ v.oneCell' = true
    | some .string => ∃ v, cs = [v] ∧ v.oneCell' = true
    | some (.slice e) => ∃ (l : List Unit) (v : Value), cs = [v] ∧ Row S (P.cellsOf e) (fun us _ => Gr S n e us) v l ∧ l.length * P.bytesOf e ≤ reachBytes
    | some (.struct fs) => cs.length = P.cellsOf t ∧ ∀ (i : Nat) (f : Field), fs[i]? = some f → Gr S n f.type ((cs.drop f.offset).take (P.cellsOf f.type))
    | _ => False
/-- Types whose parts are all among them. -/
def kinB (L : List TypeId) : Bool := L.all fun t => match P.underlying t with
  | some (.int _) => true
  | some .bool => true
  | some .string => true
  | some (.slice e) => L.contains e && Nat.blt 0 (P.cellsOf e)
  | some (.struct fs) => fs.toList.all fun f => L.contains f.type
  | _ => false
/-- Types without lists. -/
def flatB (L : List TypeId) : Bool := L.all fun t => match P.underlying t with
  | some (.int _) => true
  | some .bool => true
  | some .string => true
  | some (.struct fs) => fs.toList.all fun f => L.contains f.type
  | _ => false
/-- The parts of a struct, one by one. -/
inductive Gall (S : Res) (n : Nat) (cs : List Value) : List Field → Prop
  | nil : Gall S n cs []
  | cons {f : Field} {fs : List Field} : Gr P S n f.type ((cs.drop f.offset).take (P.cellsOf f.type)) → Gall S n cs fs → Gall S n cs (f :: fs)
end
section
variable {P : Program} {S T : Res}
theorem Gr.row {n : Nat} {t e : TypeId} {v : Value} (h : Gr P S n t [v]) (hu : P.underlying t = some (.slice e)) : ∃ (m : Nat) (l : List Unit), n = m + 1 ∧ Row S (P.cellsOf e) (fun us _ => Gr P S m e us) v l ∧ l.length * P.bytesOf e ≤ reachBytes := by
  cases n with
  | zero => exact h.elim
  | succ n =>
    simp only [Gr, hu] at h
    obtain ⟨l, v', h1, h2, h3⟩ := h
    cases h1
    exact ⟨n, l, rfl, h2, h3⟩
theorem Gr.slice {n : Nat} {t e : TypeId} {v : Value} (h : Gr P S n t [v]) (hu : P.underlying t = some (.slice e)) (_ : 0 < P.cellsOf e) :
    [v] = [Value.slice none 0 0] ∨ ∃ a len cap m, n = m + 1 ∧ [v] = [Value.slice (some a) len cap] ∧ len ≤ cap ∧ cap ≤ maxLen ∧ len * P.bytesOf e ≤ reachBytes ∧
      ∀ i, i < len → ∃ b o us, a = ⟨b, o, none⟩ ∧ us.length = P.cellsOf e ∧ Rds S b (o + i * P.cellsOf e) us ∧ Gr P S m e us := by
  obtain ⟨m, l, hm, ⟨a, cap, rfl, h1, h2, h3, h4⟩, hb⟩ := h.row hu
  cases a with
  | none =>
    have hc := h3 rfl
    subst hc
    rw [show l.length = 0 by omega]
    exact .inl rfl
  | some a =>
    refine .inr ⟨a, l.length, cap, m, hm, rfl, h1, h2, hb, fun i hi => ?_⟩
    obtain ⟨b, o, us, e1, e2, e3, e4⟩ := h4 i _ (List.getElem?_eq_getElem hi)
    exact ⟨b, o, us, Option.some.inj e1, e2, e3, e4⟩
theorem Gr.struct {n : Nat} {t : TypeId} {fs : Array Field} {cs : List Value} (h : Gr P S n t cs) (hu : P.underlying t = some (.struct fs)) :
    ∃ m, n = m + 1 ∧ cs.length = P.cellsOf t ∧ ∀ (i : Nat) (f : Field), fs[i]? = some f → Gr P S m f.type ((cs.drop f.offset).take (P.cellsOf f.type)) := by
  cases n with
  | zero => exact h.elim
  | succ n =>
    simp only [Gr, hu] at h
    exact ⟨n, rfl, h⟩
theorem Gr.nil_slice {n : Nat} {t e : TypeId} {v : Value} (h : Gr P S n t [v]) (hu : P.underlying t = some (.slice e)) : Gr P T n t [.slice none 0 0] := by
  obtain ⟨m, _, rfl, _⟩ := h.row hu
  simp only [Gr, hu]
  exact ⟨[], _, rfl, Row.nil, by simp⟩
theorem Gr.of_row {n k : Nat} {t e : TypeId} {v : Value} {l : List Unit} (hu : P.underlying t = some (.slice e)) (hk : P.cellsOf e = k) (h : Row S k (fun us _ => Gr P S n e us) v l) (hb : l.length * P.bytesOf e ≤ reachBytes) : Gr P S (n + 1) t [v] := by
  subst hk
  simp only [Gr, hu]
  exact ⟨l, v, rfl, h, hb⟩
theorem Gall.at {n : Nat} {cs : List Value} : ∀ {fs : List Field}, Gall P S n cs fs → ∀ (i : Nat) (f : Field), fs[i]? = some f → Gr P S n f.type ((cs.drop f.offset).take (P.cellsOf f.type))
  | _, .nil, i, f, h => by simp at h
  | _, .cons h _, 0, f, hf => by simp at hf; subst hf; exact h
  | _, .cons _ ht, i + 1, f, hf => ht.at i f (by simpa using hf)
theorem Gr.mk {n k : Nat} {t : TypeId} {fs : Array Field} {cs : List Value} (hu : P.underlying t = some (.struct fs)) (hk : P.cellsOf t = k) (hl : cs.length = k) (h : Gall P S n cs fs.toList) : Gr P S (n + 1) t cs := by
  subst hk
  simp only [Gr, hu]
  exact ⟨hl, fun i f hf => h.at i f (by simpa using hf)⟩
theorem Gr.mono (hr : ∀ p u, Rd S p u → Rd T p u) : ∀ {n : Nat} {t : TypeId} {cs : List Value}, Gr P S n t cs → Gr P T n t cs
  | 0, _, _, h => h.elim
  | n + 1, t, cs, h => by
    unfold Gr at h ⊢
    cases hu : P.underlying t with
    | none => rw [hu] at h; exact h.elim
    | some d =>
      rw [hu] at h
      cases d with
      | int k => exact h
      | bool => exact h
      | string => exact h
      | slice e =>
        obtain ⟨l, v, h1, h2, h3⟩ := h
        exact ⟨l, v, h1, h2.mono hr fun _ _ _ h => Gr.mono hr h, h3⟩
      | struct fs => exact ⟨h.1, fun i f hf => Gr.mono hr (h.2 i f hf)⟩
      | _ => exact h.elim
theorem Gr.up : ∀ {n : Nat} {t : TypeId} {cs : List Value}, Gr P S n t cs → Gr P S (n + 1) t cs
  | 0, _, _, h => h.elim
  | n + 1, t, cs, h => by
    unfold Gr at h ⊢
    cases hu : P.underlying t with
    | none => rw [hu] at h; exact h.elim
    | some d =>
      rw [hu] at h
      cases d with
      | int k => exact h
      | bool => exact h
      | string => exact h
      | slice e =>
        obtain ⟨l, v, h1, h2, h3⟩ := h
        exact ⟨l, v, h1, h2.mono (fun _ _ h => h) fun _ _ _ h => Gr.up h, h3⟩
      | struct fs => exact ⟨h.1, fun i f hf => Gr.up (h.2 i f hf)⟩
      | _ => exact h.elim
theorem Gr.flat {L : List TypeId} (hL : flatB P L = true) : ∀ {n : Nat} {t : TypeId} {cs : List Value}, L.contains t = true → Gr P S n t cs → Gr P T n t cs
  | 0, _, _, _, h => h.elim
  | n + 1, t, cs, ht, h => by
    have hc := List.all_eq_true.1 hL t (by simpa using ht)
    unfold Gr at h ⊢
    cases hu : P.underlying t with
    | none => rw [hu] at h; exact h.elim
    | some d =>
      rw [hu] at h hc
      cases d with
      | int k => exact h
      | bool => exact h
      | string => exact h
      | slice e => cases hc
      | struct fs => exact ⟨h.1, fun i f hf => Gr.flat hL (List.all_eq_true.1 hc f (List.mem_of_getElem? (i := i) (by simpa using hf))) (h.2 i f hf)⟩
      | _ => exact h.elim
theorem Gr.one {L : List TypeId} (hL : oneB P L = true) : ∀ (n : Nat) (t : TypeId) (cs : List Value), t ∈ L → Gr P S n t cs → ∀ u ∈ cs, u.oneCell' = true
  | 0, t, cs, _, h => h.elim
  | n + 1, t, cs, ht, hg => by
    have hc := List.all_eq_true.1 hL t ht
    have h := hg
    unfold Gr at h
    cases hu : P.underlying t with
    | none => rw [hu] at hc; cases hc
    | some d =>
      rw [hu] at hc h
      cases d with
      | int k => obtain ⟨q, rfl, hq⟩ := h; intro u hm; simp at hm; subst hm; exact hq
      | bool => obtain ⟨q, rfl, hq⟩ := h; intro u hm; simp at hm; subst hm; exact hq
      | string => obtain ⟨q, rfl, hq⟩ := h; intro u hm; simp at hm; subst hm; exact hq
      | slice e =>
        obtain ⟨l, v, rfl, ⟨a, cap, rfl, _⟩, _⟩ := h
        intro u hm; simp at hm; subst hm; rfl
      | struct fs =>
        obtain ⟨hcl, hf⟩ := h
        intro u hu2
        obtain ⟨k, hk, rfl⟩ := List.getElem_of_mem hu2
        have h1 := List.all_eq_true.1 hc k (List.mem_range.2 (by omega))
        obtain ⟨f, hfm, h2⟩ := List.any_eq_true.1 h1
        simp only [Bool.and_eq_true] at h2
        obtain ⟨⟨h3, h4⟩, h5⟩ := h2
        have h4 := Nat.le_of_ble_eq_true h4
        have h5 : k < f.offset + P.cellsOf f.type := Nat.lt_of_succ_le (by simpa [Nat.blt] using h5)
        obtain ⟨i, hi⟩ := List.getElem?_of_mem hfm
        refine Gr.one hL n f.type _ (by simpa using h3) (hf i f (by simpa using hi)) _ ?_
        refine List.mem_iff_getElem?.2 ⟨k - f.offset, ?_⟩
        rw [List.getElem?_take, if_pos (by omega), List.getElem?_drop, show f.offset + (k - f.offset) = k by omega, List.getElem?_eq_getElem hk]
      | _ => cases hc
theorem Gr.of_gd {H : Type} {enc : TypeId × Value → H} {W : World} {L : List TypeId} (hL : kinB P L = true) : ∀ {n : Nat} {t : TypeId} {cs : List Value}, L.contains t = true → Gd enc P W n t cs → Gr P (old W) n t cs
  | 0, t, cs, _, ⟨x, h, _⟩ => by simp [DataW.trod] at h
  | n + 1, t, cs, ht, hg => by
    have hc := List.all_eq_true.1 hL t (by simpa using ht)
    obtain ⟨x, h, hz⟩ := id hg
    unfold Gr
    cases hu : P.underlying t with
    | none => rw [hu] at hc; cases hc
    | some d =>
      rw [hu] at hc
      cases d with
      | int k => obtain ⟨q, rfl, _⟩ := DataW.trod_int hu h; exact ⟨_, rfl, rfl⟩
      | bool => obtain ⟨q, rfl, _⟩ := DataW.trod_bool hu h; exact ⟨_, rfl, rfl⟩
      | string => obtain ⟨q, rfl, _⟩ := DataW.trod_string hu h; exact ⟨_, rfl, rfl⟩
      | slice e =>
        simp only [Bool.and_eq_true] at hc
        obtain ⟨hc1, hc2⟩ := hc
        have hc2 : 0 < P.cellsOf e := Nat.lt_of_succ_le (by simpa [Nat.blt] using hc2)
        rcases hg.slice hu hc2 with rfl | ⟨a, ln, cap, m, hm, rfl, h1, h2, h3, h4⟩
        · exact ⟨[], _, rfl, Row.nil, by simp⟩
        · obtain rfl : n = m := by omega
          refine ⟨List.replicate ln (), _, rfl, ⟨some a, cap, by simp, by simpa using h1, h2, (fun h => by cases h), fun i x hi => ?_⟩, by simpa using h3⟩
          have hlt : i < ln := by have := (List.getElem?_eq_some_iff.1 hi).1; simpa using this
          obtain ⟨b, o, us, rfl, g1, g2, g3⟩ := h4 i hlt
          exact ⟨b, o, us, rfl, g1, g2, Gr.of_gd hL hc1 g3⟩
      | struct fs =>
        obtain ⟨m, hm, h1, h2⟩ := hg.struct hu
        obtain rfl : n = m := by omega
        exact ⟨h1, fun i f hf => Gr.of_gd hL (List.all_eq_true.1 hc f (List.mem_of_getElem? (i := i) (by simpa using hf))) (h2 i f hf)⟩
      | _ => cases hc
/-- A part that is kept, and bears no list. -/
theorem Gr.keep {L : List TypeId} (hL : flatB P L = true) {n o k : Nat} {t : TypeId} {us us' : List Value} (h : Gr P S n t ((us.drop o).take (P.cellsOf t))) (ht : L.contains t = true) (hk : P.cellsOf t = k) (he : (us.drop o).take k = (us'.drop o).take k) : Gr P T n t ((us'.drop o).take (P.cellsOf t)) := by
  rw [hk] at h ⊢
  rw [← he]
  exact Gr.flat hL ht h
/-- A part that is new. -/
theorem Gr.cut {n o k : Nat} {t : TypeId} {us vs : List Value} (h : Gr P S n t vs) (hk : P.cellsOf t = k) (he : (us.drop o).take k = vs) : Gr P S n t ((us.drop o).take (P.cellsOf t)) := by
  rw [hk, he]; exact h
/-- A new row of what is read to its end. -/
theorem gr_row {n k E : Nat} {t e : TypeId} {v : Value} {rows : List (List Value)} (hu : P.underlying t = some (.slice e)) (hk : P.cellsOf e = k) (hok : ∃ f, (VR v E k rows).ok f) (hr : ∀ p u, Rd (VR v E k rows) p u → Rd S p u) (hx : ∀ us ∈ rows, Gr P S n e us) (hb : rows.length * P.bytesOf e ≤ reachBytes) : Gr P S (n + 1) t [v] :=
  Gr.of_row (l := List.replicate rows.length ()) hu hk (row_vr hok (by simp) hr fun i us _ h _ => hx us (List.mem_of_getElem? h)) (by simpa using hb)
end
end Go.Ck
namespace Go.Hr
open Go Go.RowKit Go.Ck Go.Proofs Go.Proofs.YtjgiaohieadeiaaGreat Fx
attribute [local irreducible] Go.Ck.Sub St Cd Xt Nx DrL LsW
/-- What a function does that copies a struct of so many cells. -/
def Cp (S : Res) (K : FuncId) (t : TypeId) (sz m : Nat) : Prop := ∀ us : List Value, us.length = sz → Gr Tryz.prog S m t us → CtN Tryz.prog K #[.agg us.toArray] [S] fun u T => ∃ us' : List Value, u = .agg us'.toArray ∧ us'.length = sz ∧ us'.all Value.oneCell' = true ∧ Gr Tryz.prog T m t us'
def typL : List TypeId := [3, 4, 9, 90, 136]
theorem typL_one : oneB Tryz.prog typL = true := by kernel_rfl
def flL : List TypeId := [3, 4, 9, 131, 140]
theorem flL_ok : flatB Tryz.prog flL = true := by kernel_rfl
theorem k3 : Tryz.prog.cellsOf 3 = 1 := by kernel_rfl
theorem k4 : Tryz.prog.cellsOf 4 = 1 := by kernel_rfl
theorem k9 : Tryz.prog.cellsOf 9 = 1 := by kernel_rfl
theorem k23 : Tryz.prog.cellsOf 23 = 1 := by kernel_rfl
theorem k24 : Tryz.prog.cellsOf 24 = 1 := by kernel_rfl
theorem k25 : Tryz.prog.cellsOf 25 = 1 := by kernel_rfl
theorem k26 : Tryz.prog.cellsOf 26 = 1 := by kernel_rfl
theorem k27 : Tryz.prog.cellsOf 27 = 1 := by kernel_rfl
theorem k90 : Tryz.prog.cellsOf 90 = 1 := by kernel_rfl
theorem k91 : Tryz.prog.cellsOf 91 = 1 := by kernel_rfl
theorem k143 : Tryz.prog.cellsOf 143 = 1 := by kernel_rfl
theorem k144 : Tryz.prog.cellsOf 144 = 1 := by kernel_rfl
theorem k165 : Tryz.prog.cellsOf 165 = 1 := by kernel_rfl
theorem k136 : Tryz.prog.cellsOf 136 = 5 := by kernel_rfl
theorem k167 : Tryz.prog.cellsOf 167 = 4 := by kernel_rfl
theorem k169 : Tryz.prog.cellsOf 169 = 5 := by kernel_rfl
theorem k182 : Tryz.prog.cellsOf 182 = 6 := by kernel_rfl
theorem k186 : Tryz.prog.cellsOf 186 = 8 := by kernel_rfl
theorem k93 : Tryz.prog.cellsOf 93 = 6 := by kernel_rfl
theorem k146 : Tryz.prog.cellsOf 146 = 15 := by kernel_rfl
theorem k29 : Tryz.prog.cellsOf 29 = 7 := by kernel_rfl
theorem k131 : Tryz.prog.cellsOf 131 = 2 := by kernel_rfl
theorem k140 : Tryz.prog.cellsOf 140 = 2 := by kernel_rfl
section
variable {S : Res}
set_option maxRecDepth 100000 in
theorem each85_ct {kf : FuncId} (hE : Ck.Enters Tryz.prog kf) {n : Nat} {v : Value} (h : Gr Tryz.prog S n 90 [v]) (hF : ∀ m, m < n → Cp S kf 136 5 m) : CtN Tryz.prog 85 #[v, .func (.func kf) #[] #[]] [S] fun u T => ∃ a ln cap a' cap', v = .slice a ln cap ∧ u = .slice a' ln cap' ∧ Gr Tryz.prog T n 90 [u] := by
  have c136 : Tryz.prog.cellsOf 136 = 5 := by kernel_rfl
  have b136 : Tryz.prog.bytesOf 136 = 56 := by kernel_rfl
  have hml : maxLen = 9223372036854775807 := rfl
  have hrb : reachBytes = 140737488351232 := rfl
  rcases h.slice Tryz.underlying90 (by rw [c136]; decide) with h0 | ⟨a, ln, cap, m, hn, h1, hlc, hcm, hlb, hel⟩
  · cases h0
    refine ct_of (n := 28) Tryz.func85 rfl rfl (len rfl) fun hr w0 => ?_
    refine cd_seq (cd_region (st_v (v_assign rfl) (st_nil (nx_then (cd_seq (cd_seq (cd_region (st_v (v_move rfl) (st_v (v_eql_slice_nil rfl rfl Tryz.underlying90) (st_nil (nx_kp [0, 1, 4, 9] rfl (nx_then (cd_true rfl ?_)))))))))))))
    refine cd_seq (cd_region (st_v (v_assign rfl) (st_nil (nx_kp [4] rfl (nx_then (cd_ret (xt_ret_then (xt_vw (vw_unstar (L := [])) ?_))))))))
    exact xt_rt rfl ⟨Res.star [], rfl, none, 0, 0, none, 0, rfl, rfl, h.nil_slice Tryz.underlying90⟩ (by (repeat (refine Sub.sel (by repeat (first | exact Sel.here | apply Sel.there)) ?_)); (repeat apply Sub.cons); first | exact Sub.refl _ | exact Sub.nil _)
  · cases h1
    rw [b136] at hlb
    rw [c136] at hel
    refine ct_of (n := 28) Tryz.func85 rfl rfl (len rfl) fun hr w0 => ?_
    refine cd_seq (cd_region (st_v (v_assign rfl) (st_nil (nx_then (cd_seq (cd_seq (cd_region (st_v (v_move rfl) (st_v (v_eql_slice_nil rfl rfl Tryz.underlying90) (st_nil (nx_kp [0, 1, 4, 9] rfl (nx_then (cd_false rfl ?_)))))))))))))
    refine cd_skip (xt_then (cd_seq (cd_region (st_v (v_move rfl) (st_v (v_len rfl Tryz.underlying90) (st_vw (vw_unstar (L := [])) (st_makeP (n := ln) rfl rfl rfl Tryz.underlying90 inf136 rfl (by decide) (by omega) (by omega) (ltn rfl) fun b12 => ?_)))))))
    refine st_v (v_assign rfl) (st_nil (nx_kp [0, 1, 4, 5] rfl (nx_then (cd_seq (cd_seq (cd_region (st_v (v_move rfl) (st_v (v_len rfl Tryz.underlying90) (st_v (v_move rfl) (st_nil (nx_kp [1, 4, 5, 13, 14, 15] rfl (nx_then (cd_block (cd_lq (σ := List (List Value) × Res × Nat) (fun q => [(1, .func (.func kf) #[] #[]), (5, .slice (some ⟨b12, 0, none⟩) ln ln), (13, .slice (some a) ln cap), (14, .int .i64 ln), (15, .int .i64 (q.2.2 : Nat))]) (fun q => pt b12 (cl q.1.flatten 136) :: q.2.1 :: S :: hr) (fun q => q.2.2 ≤ ln ∧ q.1.length = ln ∧ (∀ r ∈ q.1, r.length = 5) ∧ ∀ (j : Nat) us, j < q.2.2 → q.1[j]? = some us → Gr Tryz.prog q.2.1 m 136 us) (fun q => ln - q.2.2) (List.replicate ln [.int .i64 0, sv [], .slice none 0 0, .bool false, .bool false], Res.star [], 0) ⟨Nat.zero_le _, by simp, fun r hr => by rw [List.eq_of_mem_replicate hr]; rfl, fun j us hj => absurd hj (Nat.not_lt_zero _)⟩ ?_))))))))))))))
    rintro ⟨rows, T, i⟩ ⟨hi, hrl, hr5, hpc⟩
    simp only at hi hrl hr5 hpc
    dsimp only
    refine cd_seq (cd_region (st_v (v_lss rfl rfl) (st_nil (nx_then (cd_seq (cd_cond rfl (fun hd => ?_) (fun hd => ?_)))))))
    · skip
      have hlt : i < ln := by simpa using hd
      obtain ⟨b, o, us, rfl, hus, hrd, hg⟩ := hel i hlt
      have hone : us.all Value.oneCell' = true := List.all_eq_true.2 (Gr.one (L := typL) typL_one m 136 us (by decide) hg)
      refine cd_skip (xt_then (cd_seq (cd_block (cd_seq (cd_region (st_v (v_move rfl) (st_v (v_indexAddr (k := i) rfl rfl sl90 rfl hlt rfl) (st_v (v_ldn rfl ld136 hus hrd) ?_))))))))
      refine st_alc al136 fun b7 => ?_
      refine st_v (v_assign rfl) (st_stoW (hl := by rw [hus]; rfl) rfl rfl sz136 hus hone ?_)
      refine st_nil (nx_kp [1, 5, 6, 7, 13, 14, 15] rfl (nx_then (cd_region (st_v (v_move rfl) (st_v (v_move rfl) (st_v (v_move rfl) (st_v (v_ldn rfl ld136 hus rds_pt) ?_)))))))
      refine st_cl rfl rfl hE rfl ((hF m (by omega) us hus hg)) ?_
      rintro u h' ⟨T2, rfl, us', rfl, h5, h1, hG⟩
      simp only [List.cons_append, List.nil_append]
      refine st_v (v_indexAddr (k := i) rfl rfl sl90 rfl hlt rfl) (st_storeN rfl rfl sz136 h5 (ones h1) (show Sel _ (pt b12 (cl rows.flatten 136)) _ from (by repeat (first | exact Sel.here | apply Sel.there))) (by rw [flat_len hr5, hrl, h5]; omega) ?_)
      rw [show 0 + i * 5 = i * 5 by omega, splice_rows h5 hr5 (by omega)]
      refine st_nil (nx_kp [1, 5, 13, 14, 15] rfl (nx_xt (xt_normal_block (xt_then (cd_region (st_v (v_add rfl rfl (by unfold I64 at *; omega)) (st_v (v_move rfl) (st_nil (nx_kp [1, 5, 13, 14, 15] rfl (nx_xt (xt_pv (pv_pack (L := [T, T2])) ?_)))))))))))
      simp only [List.cons_append, List.nil_append]
      refine xt_aq (rows.set i us', Res.star [T, T2], i + 1) ⟨hlt, by simp [hrl], fun r hr => ?_, fun j us3 hj g1 => ?_⟩ (Nat.sub_lt_sub_left hlt (Nat.lt_succ_self i))
      · rcases List.mem_or_eq_of_mem_set hr with h | h
        · exact hr5 r h
        · rw [h]; exact h5
      · by_cases hji : j = i
        · subst hji
          rw [List.getElem?_set_self (by omega)] at g1
          cases g1
          exact hG.mono (rd_in (by repeat (first | exact Sel.here | apply Sel.there)))
        · rw [List.getElem?_set_ne (Ne.symm hji)] at g1
          have hj : j < i + 1 := hj
          exact (hpc j us3 (by omega) g1).mono (rd_in (by repeat (first | exact Sel.here | apply Sel.there)))
    · skip
      have hie : i = ln := by have : ¬ i < ln := by simpa using hd
                              omega
      subst hie
      refine cd_exit (xt_exit_then (xt_exit_then (xt_exit_block (xt_then (cd_seq (cd_region (st_v (v_move rfl) (st_v (v_assign rfl) (st_nil (nx_kp [4] rfl (nx_then (cd_ret (xt_pv (pv_of (b := b12) (n := i) (sz := 5) (E := 136) rows rfl hr5 hrl (by omega)) ?_)))))))))))))
      simp only [List.cons_append, List.nil_append]
      refine xt_ok (r := VR (.slice (some ⟨b12, 0, none⟩) i i) 136 5 rows) (by repeat (first | exact Sel.here | apply Sel.there)) fun hok => ?_
      refine xt_pv (pv_pack (L := [VR (.slice (some ⟨b12, 0, none⟩) i i) 136 5 rows, T])) ?_
      simp only [List.cons_append, List.nil_append]
      have hin : ∀ us ∈ rows, Gr Tryz.prog (Res.star [VR (.slice (some ⟨b12, 0, none⟩) i i) 136 5 rows, T]) m 136 us := fun us hu => by
        obtain ⟨j, hj, rfl⟩ := List.getElem_of_mem hu
        exact (hpc j _ (by omega) (List.getElem?_eq_getElem hj)).mono (rd_in (by repeat (first | exact Sel.here | apply Sel.there)))
      exact xt_rt rfl ⟨Res.star [VR (.slice (some ⟨b12, 0, none⟩) i i) 136 5 rows, T], rfl, some a, i, cap, some ⟨b12, 0, none⟩, i, rfl, rfl, by rw [hn]; exact gr_row Tryz.underlying90 c136 hok (rd_in (by repeat (first | exact Sel.here | apply Sel.there))) hin (by rw [hrl, b136]; exact hlb)⟩ (by (repeat (refine Sub.sel (by repeat (first | exact Sel.here | apply Sel.there)) ?_)); (repeat apply Sub.cons); first | exact Sub.refl _ | exact Sub.nil _)
end
end Go.Hr
namespace Go.Hr
open Go Go.RowKit Go.Ck Go.Proofs Go.Proofs.YtjgiaohieadeiaaGreat Fx
attribute [local irreducible] Go.Ck.Sub St Cd Xt Nx DrL LsW
section
variable {S : Res}
set_option maxRecDepth 100000 in
theorem kind_ct : ∀ m, Cp S 86 136 5 m := by
  intro m
  induction m using Nat.strongRecOn with
  | ind m ih =>
    intro us hus hg
    have hone := Gr.one (L := typL) typL_one m 136 us (by decide) hg
    obtain ⟨n, hn, _, hf⟩ := hg.struct Tryz.underlying136
    have h2 : Gr Tryz.prog S n 90 ((us.drop 2).take (Tryz.prog.cellsOf 90)) := hf 2 _ rfl
    rw [show Tryz.prog.cellsOf 90 = 1 by kernel_rfl] at h2
    match us, hus with
    | [p, q, r, s, t], _ =>
    have o1 := hone p (by simp)
    have o2 := hone q (by simp)
    have o3 := hone r (by simp)
    have o4 := hone s (by simp)
    have o5 := hone t (by simp)
    have h2 : Gr Tryz.prog S n 90 [r] := h2
    refine ct_of (n := 8) Tryz.func86 rfl rfl (len rfl) fun hr w0 => ?_
    refine cd_seq (cd_region (st_bx rfl rfl fun b1 => ?_))
    refine st_alc al136 fun b2 => ?_
    refine st_nil (nx_kp [1, 2] rfl (nx_then (cd_seq (cd_region (st_v (v_fieldAddr rfl fa136_2 rfl) (st_v (v_ldy rfl ld90) ?_))))))
    refine st_cl rfl rfl en85 rfl (each85_ct en86 h2 (fun k hk => ih k (by omega))) ?_
    rintro u h' ⟨T, rfl, a, ln, cap, a', cap', rfl, rfl, hK⟩
    simp only [List.cons_append, List.nil_append]
    refine st_v (v_fieldAddr rfl fa136_2 rfl) (st_sto rfl rfl sz90 ?_)
    refine st_nil (nx_kp [1, 2] rfl (nx_then (cd_seq (cd_region (st_v (v_ldn rfl ld136 rfl rds_pt) ?_)))))
    have hone2 : [p, q, Value.slice a' ln cap', s, t].all Value.oneCell' = true := by simp only [List.all_cons, List.all_nil, o1, o2, o4, o5, Bool.and_true, Bool.true_and]; rfl
    refine st_stoW rfl rfl sz136 rfl hone2 ?_
    refine st_nil (nx_kp [2] rfl (nx_then (cd_ret ?_)))
    exact xt_retV (.cellN rfl ld136 rfl (by repeat (first | exact Sel.here | apply Sel.there)) .nil) ⟨T, rfl, _, rfl, rfl, hone2, by rw [hn]; exact Gr.mk Tryz.underlying136 k136 rfl (Gall.cons (Gr.keep flL_ok (hf 0 _ rfl) rfl k3 rfl) (Gall.cons (Gr.keep flL_ok (hf 1 _ rfl) rfl k9 rfl) (Gall.cons (Gr.cut hK k90 rfl) (Gall.cons (Gr.keep flL_ok (hf 3 _ rfl) rfl k4 rfl) (Gall.cons (Gr.keep flL_ok (hf 4 _ rfl) rfl k4 rfl) .nil)))))⟩ (by repeat (first | exact Sub.refl _ | exact Sub.nil _ | refine Sub.sel (by repeat (first | exact Sel.here | apply Sel.there)) ?_ | apply Sub.cons))
end
end Go.Hr
