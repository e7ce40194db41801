/-
  Package heir: Check. Conditions: what is read.
  The law's right. Conditions: what is read.
  Package heir: right, Above, Is. Conditions: what is read.
  Package heir: Above, Is, Way, Below, Touched. Conditions: what is read.
  Package heir: Touched; Go's library: Collect. Conditions: what is read.
  Package heir: CheckWay, CheckRing. Conditions: what is read.
  Package heir: Ways. Conditions: what is read.
  Package heir: Order. Conditions: what is read.
  Go's library: slices.Sort at names, by the kit's contract laid at this program. Conditions: no name twice.
  Package heir: filter, Least. Conditions: what is read.
-/
import Derived.Test.YtjgiaohieadeiaaGreatM6
import Derived.Test.YtjgiaohieadeiaaGreatM1
import Derived.Shelf.Lays
import Derived.Shelf.Sort.Plain
import Derived.Shelf.Slices.In.SortNone
set_option linter.unusedVariables false
set_option linter.unusedSimpArgs false
namespace Go.Hr
open Go Go.Ck Go.Proofs Go.Proofs.YtjgiaohieadeiaaGreat Fx
attribute [local irreducible] Go.Ck.Sub St Cd Xt Nx DrL LsW
section
variable {S : Res} {v : Value} {l : Sys}
set_option maxHeartbeats 2000000 in
set_option maxRecDepth 100000 in
theorem Check_ct (hv : sysR S v l) : Ct Tryz.prog 13 #[v] [S] fun u h' => u = .tuple #[.int .i64 (check l).1, sv (check l).2] ∧ h' = [S] := by
  obtain ⟨a, cap, rfl, _⟩ := id hv
  refine ct_of (n := 89) Tryz.func13 rfl rfl (len rfl) fun hr w0 => ?_
  refine cd_seq (cd_region (st_v (v_assign rfl) (st_v (v_assign rfl) (st_nil (nx_then (cd_seq (cd_seq (cd_region (st_v (v_move rfl) (st_v (v_len rfl Tryz.underlying22) (st_v (v_gtr rfl rfl) (st_nil (nx_kp [0, 2, 3, 17] rfl (nx_then (cd_cond rfl (fun h24 => ?_) (fun h24 => ?_))))))))))))))))
  · skip
    have h24 : 24 < l.length := by have : (24 : Int) < l.length := by simpa using h24
                                   omega
    refine cd_seq (cd_region (st_v (v_assign rfl) (st_v (v_assign rfl) (st_nil (nx_kp [2, 3] rfl (nx_then (cd_ret (xt_ret_then ?_))))))))
    rw [check_limit h24]
    exact xt_rt rfl ⟨rfl, rfl⟩ (by (repeat (refine Sub.sel (by repeat (first | exact Sel.here | apply Sel.there)) ?_)); (repeat apply Sub.cons); first | exact Sub.refl _ | exact Sub.nil _)
  · skip
    have h24 : l.length ≤ 24 := by have : ¬ (24 : Int) < l.length := by simpa using h24
                                   omega
    refine cd_skip (xt_then (cd_seq (cd_region (st_v (v_move rfl) (st_cl rfl rfl en41 rfl (kinds_ct hv (by omega)) ?_)))))
    rintro u h' ⟨mb, rfl, rfl⟩
    simp only [List.cons_append, List.nil_append]
    refine st_v (v_assign rfl) (st_nil (nx_kp [0, 2, 3, 4] rfl (nx_then (cd_seq (cd_seq (cd_region (st_v (v_move rfl) (st_v (v_len rfl Tryz.underlying22) (st_v (v_move rfl) (st_nil (nx_then (cd_block (cd_lq (σ := Nat) (fun i => [(0, .slice a l.length cap), (4, .map (some mb)), (20, .slice a l.length cap), (21, .int .i64 l.length), (22, .int .i64 (i : Nat))]) (fun _ => mps mb (kindsM l) :: S :: hr) (fun i => i ≤ l.length ∧ ∀ (j : Nat) (y : Cls), j < i → l[j]? = some y → alone l j y = 0) (fun i => l.length - i) 0 ⟨Nat.zero_le _, fun j y hj => by omega⟩ ?_)))))))))))))
    rintro i ⟨hi, hb⟩
    refine cd_seq (cd_region (st_v (v_lss rfl rfl) (st_nil (nx_then (cd_seq (cd_cond rfl (fun hd => ?_) (fun hd => ?_)))))))
    · skip
      have hlt : i < l.length := by simpa using hd
      have hxi := List.getElem?_eq_getElem hlt
      obtain ⟨b, o, cap2, d, f, pa, pc, c2, fa, fc, j2, hv2, hrd, hP, hone⟩ := sys_at hv hxi
      generalize l[i] = x at *
      refine cd_skip (xt_then (cd_seq (cd_block (cd_seq (cd_region (st_v (v_move rfl) (st_v (v_indexAddr (k := i) (congrArg some hv2) rfl sl22 rfl hlt rfl) (st_v (v_ldn rfl ld29 rfl hrd) ?_))))))))
      refine st_alc al29 fun b6 => ?_
      refine st_v (v_assign rfl) (st_stoW rfl rfl sz29 rfl hone ?_)
      refine st_nil (nx_kp [0, 4, 5, 6, 20, 21, 22] rfl (nx_then (cd_block (cd_seq (cd_region (st_v (v_fieldAddr rfl fa29_3 rfl) (st_v (v_ldy rfl ld24) ?_)))))))
      refine st_v (v_len rfl Tryz.underlying24) (st_v (v_gtr rfl rfl) (st_v (v_assign rfl) (st_nil (nx_kp [0, 4, 5, 6, 20, 21, 22, 27] rfl (nx_then (cd_cond rfl (fun h4 => ?_) (fun h4 => ?_)))))))
      · skip
        have h4 : 4 < x.parents.length := by have : (4 : Int) < x.parents.length := by simpa using h4
                                             omega
        have ha : alone l i x = 3 := by unfold alone; rw [if_pos h4]
        refine cd_seq (cd_drawh (ork [(0, 2), (1, 1), (2, 2), (3, 2)] .nil) (fun _ => true) mixed (by kernel_rfl) ?_)
        refine dp_v rfl (v_fieldAddr rfl fa29_0 rfl) (dr_v rfl (v_ldy rfl ld9) ?_)
        refine dp_v rfl (v_assign rfl) (dp_v rfl (v_assign rfl) (dr_nil (nx_kp [2, 3] rfl (nx_then (cd_ret (xt_ret_block (xt_ret_block (xt_ret_then (xt_ret_then (xt_ret_block (xt_ret_then ?_)))))))))))
        rw [check_alone h24 hxi hb (by rw [ha]; decide), ha]
        exact xt_rt rfl ⟨rfl, rfl⟩ (by (repeat (refine Sub.sel (by repeat (first | exact Sel.here | apply Sel.there)) ?_)); (repeat apply Sub.cons); first | exact Sub.refl _ | exact Sub.nil _)
      · skip
        have h4 : ¬ 4 < x.parents.length := by have : ¬ (4 : Int) < x.parents.length := by simpa using h4
                                               omega
        refine cd_seq (cd_region (st_v (v_fieldAddr rfl fa29_0 rfl) (st_v (v_ldy rfl ld9) ?_)))
        refine st_clr rfl rfl en42 rfl (named_ct x.name) ?_
        refine st_v (v_not rfl) (st_v (v_assign rfl) (st_nil (nx_kp [0, 4, 5, 6, 20, 21, 22, 34] rfl (nx_then (cd_cond rfl (fun hnn => ?_) (fun hnn => ?_))))))
        · skip
          have hnn : named x.name = false := by simpa using hnn
          have ha : alone l i x = 4 := by unfold alone; rw [if_neg h4, if_pos hnn]
          refine cd_seq (cd_drawh (ork [(0, 2), (1, 1), (2, 2), (3, 2)] .nil) (fun _ => true) mixed (by kernel_rfl) ?_)
          refine dp_v rfl (v_fieldAddr rfl fa29_0 rfl) (dr_v rfl (v_ldy rfl ld9) ?_)
          refine dp_v rfl (v_assign rfl) (dp_v rfl (v_assign rfl) (dr_nil (nx_kp [2, 3] rfl (nx_then (cd_ret (xt_ret_block (xt_ret_block (xt_ret_then (xt_ret_then (xt_ret_block (xt_ret_then ?_)))))))))))
          rw [check_alone h24 hxi hb (by rw [ha]; decide), ha]
          exact xt_rt rfl ⟨rfl, rfl⟩ (by (repeat (refine Sub.sel (by repeat (first | exact Sel.here | apply Sel.there)) ?_)); (repeat apply Sub.cons); first | exact Sub.refl _ | exact Sub.nil _)
        · skip
          have hnn : named x.name = true := by simpa using hnn
          obtain ⟨k, hk, hki⟩ : ∃ k, idx l x.name = some k ∧ k ≤ i := by
            cases hx : idx l x.name with
            | none =>
              unfold idx at hx
              rw [List.findIdx?_eq_none_iff] at hx
              have := hx x (List.mem_of_getElem? hxi)
              simp at this
            | some k =>
              refine ⟨k, rfl, ?_⟩
              obtain ⟨_, _, h3⟩ := List.findIdx?_eq_some_iff_getElem.1 hx
              rcases Nat.lt_or_ge i k with h | h
              · have := h3 i h
                obtain ⟨_, he⟩ := List.getElem?_eq_some_iff.1 hxi
                rw [he] at this; simp at this
              · exact h
          refine cd_seq (cd_seq (cd_region (st_v (v_move rfl) (st_v (v_fieldAddr rfl fa29_0 rfl) (st_v (v_ldy rfl ld9) ?_)))))
          refine st_v (v_is (show (slook (kindsM l) x.name).getD (.int .i64 0) = .int .i64 (k : Int) by rw [kinds_look, hk]; rfl) (v_slookup rfl rfl mp73 inf3 (by repeat (first | exact Sel.here | apply Sel.there)))) ?_
          refine st_v (v_move rfl) (st_v (v_lss rfl rfl) (st_v (v_assign rfl) (st_nil (nx_kp [0, 4, 6, 20, 21, 22, 41] rfl (nx_then (cd_cond rfl (fun hk1 => ?_) (fun hk1 => ?_)))))))
          · skip
            have hk1 : k < i := by have : (k : Int) < i := by simpa using hk1
                                   omega
            have ha : alone l i x = 6 := by
              unfold alone
              rw [if_neg h4, if_neg (by rw [hnn]; decide), if_pos (.inl (by rw [hk]; intro e; cases e; omega))]
            refine cd_skip (xt_then ?_)
            rw [show decide ((k : Int) < (i : Int)) = true from decide_eq_true (by omega)]
            refine cd_true rfl ?_
            refine cd_seq (cd_drawh (ork [(0, 2), (1, 1), (2, 2), (3, 2)] .nil) (fun _ => true) mixed (by kernel_rfl) ?_)
            refine dp_v rfl (v_fieldAddr rfl fa29_0 rfl) (dr_v rfl (v_ldy rfl ld9) ?_)
            refine dp_v rfl (v_assign rfl) (dp_v rfl (v_assign rfl) (dr_nil (nx_kp [2, 3] rfl (nx_then (cd_ret (xt_ret_block (xt_ret_block (xt_ret_then (xt_ret_then (xt_ret_block (xt_ret_then ?_)))))))))))
            rw [check_alone h24 hxi hb (by rw [ha]; decide), ha]
            exact xt_rt rfl ⟨rfl, rfl⟩ (by (repeat (refine Sub.sel (by repeat (first | exact Sel.here | apply Sel.there)) ?_)); (repeat apply Sub.cons); first | exact Sub.refl _ | exact Sub.nil _)
          · skip
            have hk1 : k = i := by have : ¬ (k : Int) < i := by simpa using hk1
                                   omega
            subst hk1
            refine cd_region (st_v (v_fieldAddr rfl fa29_3 rfl) (st_v (v_ldy rfl ld24) ?_))
            refine st_clr rfl rfl en43 rfl (twiceP_ct hP (by omega)) ?_
            refine st_v (v_assign rfl) (st_nil (nx_kp [0, 4, 6, 20, 21, 22, 41] rfl (nx_then (cd_cond rfl (fun htw => ?_) (fun htw => ?_)))))
            · skip
              have htw : ¬ x.parents.Nodup := by simpa using htw
              have ha : alone l k x = 6 := by
                unfold alone
                rw [if_neg h4, if_neg (by rw [hnn]; decide), if_pos (.inr htw)]
              refine cd_seq (cd_drawh (ork [(0, 2), (1, 1), (2, 2), (3, 2)] .nil) (fun _ => true) mixed (by kernel_rfl) ?_)
              refine dp_v rfl (v_fieldAddr rfl fa29_0 rfl) (dr_v rfl (v_ldy rfl ld9) ?_)
              refine dp_v rfl (v_assign rfl) (dp_v rfl (v_assign rfl) (dr_nil (nx_kp [2, 3] rfl (nx_then (cd_ret (xt_ret_block (xt_ret_block (xt_ret_then (xt_ret_then (xt_ret_block (xt_ret_then ?_)))))))))))
              rw [check_alone h24 hxi hb (by rw [ha]; decide), ha]
              exact xt_rt rfl ⟨rfl, rfl⟩ (by (repeat (refine Sub.sel (by repeat (first | exact Sel.here | apply Sel.there)) ?_)); (repeat apply Sub.cons); first | exact Sub.refl _ | exact Sub.nil _)
            · skip
              have htw : x.parents.Nodup := by simpa using htw
              have ha : alone l k x = 0 := alone_zero.2 ⟨by omega, hnn, hk, htw⟩
              refine cd_skip (xt_normal_block (xt_normal_block (xt_then (cd_region (st_v (v_add rfl rfl (by unfold I64 at *; omega)) (st_v (v_move rfl) (st_nil (nx_kp [0, 4, 20, 21, 22] rfl (nx_xt (xt_aq (k + 1) ⟨hlt, fun j y hj hy => ?_⟩ (by show _ - _ < _ - _; omega)))))))))))
              by_cases hji : j = k
              · subst hji; rw [hxi] at hy; cases hy; exact ha
              · exact hb j y (by omega) hy
    · skip
      have hil : i = l.length := by have : ¬ i < l.length := by simpa using hd
                                    omega
      have hball : ∀ (j : Nat) (y : Cls), l[j]? = some y → alone l j y = 0 := fun j y hj => hb j y (by rw [hil]; exact (List.getElem?_eq_some_iff.1 hj).1) hj
      refine cd_exit (xt_exit_then (xt_exit_then (xt_exit_block (xt_then (cd_seq (cd_seq (cd_region (st_v (v_move rfl) (st_v (v_len rfl Tryz.underlying22) (st_v (v_move rfl) (st_nil (nx_kp [0, 4, 54, 55, 56] rfl (nx_then (cd_block (cd_lq (σ := Nat) (fun i => [(0, .slice a l.length cap), (4, .map (some mb)), (54, .slice a l.length cap), (55, .int .i64 l.length), (56, .int .i64 (i : Nat))]) (fun _ => mps mb (kindsM l) :: S :: hr) (fun i => i ≤ l.length ∧ ∀ (j : Nat) (y : Cls), j < i → l[j]? = some y → lost l y = false) (fun i => l.length - i) 0 ⟨Nat.zero_le _, fun j y hj => by omega⟩ ?_)))))))))))))))
      rintro i2 ⟨hi2, hls⟩
      refine cd_seq (cd_region (st_v (v_lss rfl rfl) (st_nil (nx_then (cd_seq (cd_cond rfl (fun hd2 => ?_) (fun hd2 => ?_)))))))
      · skip
        have hlt : i2 < l.length := by simpa using hd2
        have hxi := List.getElem?_eq_getElem hlt
        obtain ⟨b, o, cap2, d, f, pa, pc, c2, fa, fc, j2, hv2, hrd, hP, hone⟩ := sys_at hv hxi
        have hpx := (alone_zero.1 (hball _ _ hxi)).1
        generalize l[i2] = x at *
        refine cd_skip (xt_then (cd_seq (cd_block (cd_seq (cd_region (st_v (v_indexAddr (k := i2) (congrArg some hv2) rfl sl22 rfl hlt rfl) (st_v (v_ldn rfl ld29 rfl hrd) ?_)))))))
        refine st_alc al29 fun b8 => ?_
        refine st_stoW rfl rfl sz29 rfl hone ?_
        refine st_nil (nx_kp [0, 4, 8, 54, 55, 56] rfl (nx_then (cd_seq (cd_region (st_v (v_fieldAddr rfl fa29_3 rfl) (st_v (v_ldy rfl ld24) ?_))))))
        refine st_v (v_len rfl Tryz.underlying24) (st_v (v_move rfl) (st_nil (nx_kp [0, 4, 8, 54, 55, 56, 61, 62, 63] rfl (nx_then (cd_block (cd_lq (σ := Nat) (fun k => [(0, .slice a l.length cap), (4, .map (some mb)), (8, .pointer (some ⟨b8, 0, none⟩)), (54, .slice a l.length cap), (55, .int .i64 l.length), (56, .int .i64 (i2 : Nat)), (61, .slice pa x.parents.length pc), (62, .int .i64 x.parents.length), (63, .int .i64 (k : Nat))]) (fun _ => pt b8 (cl [sv x.name, d, f, .slice pa x.parents.length pc, c2, .slice fa x.feats fc, j2] 29) :: mps mb (kindsM l) :: S :: hr) (fun k => k ≤ x.parents.length ∧ ∀ (m : Nat) (p : Nm), m < k → x.parents[m]? = some p → isC l p = true) (fun k => x.parents.length - k) 0 ⟨Nat.zero_le _, fun j y hj => by omega⟩ ?_))))))
        rintro k ⟨hk, hpk⟩
        refine cd_seq (cd_region (st_v (v_lss rfl rfl) (st_nil (nx_then (cd_seq (cd_cond rfl (fun hd3 => ?_) (fun hd3 => ?_)))))))
        · skip
          have hkl : k < x.parents.length := by simpa using hd3
          have hpi := List.getElem?_eq_getElem hkl
          obtain ⟨pb, po, pcap, q1, q2, q3, q4, q5, hpv, hprd, hpone⟩ := par_at hP hpi
          generalize x.parents[k] = p at *
          refine cd_skip (xt_then (cd_seq (cd_block (cd_seq (cd_region (st_v (v_indexAddr (k := k) (congrArg some hpv) rfl sl24 rfl hkl rfl) (st_v (v_ldn rfl ld93 rfl hprd) ?_)))))))
          refine st_alc al93 fun b10 => ?_
          refine st_stoW rfl rfl sz93 rfl hpone ?_
          refine st_nil (nx_kp [0, 4, 8, 10, 54, 55, 56, 61, 62, 63] rfl (nx_then (cd_seq (cd_region (st_v (v_move rfl) (st_v (v_fieldAddr rfl fa93_0 rfl) (st_v (v_ldy rfl ld9) ?_)))))))
          refine st_v (v_slookup_ok rfl rfl mp73 inf3 (by repeat (first | exact Sel.here | apply Sel.there))) ?_
          refine st_v (v_move rfl) (st_v (v_extract rfl rfl) (st_v (v_extract rfl rfl) (st_v (v_assign rfl) (st_v (v_assign rfl) (st_nil (nx_kp [0, 4, 8, 12, 54, 55, 56, 61, 62, 63] rfl (nx_then (cd_seq (cd_region (st_v (v_move rfl) (st_v (v_not rfl) (st_nil (nx_kp [0, 4, 8, 54, 55, 56, 61, 62, 63, 75] rfl (nx_then ?_))))))))))))))
          rw [look_isC]
          refine cd_cond rfl (fun hno => ?_) (fun hno => ?_)
          · skip
            have hno : isC l p = false := by simpa using hno
            have hlost : lost l x = true := List.any_eq_true.2 ⟨p, List.mem_of_getElem? hpi, by rw [hno]; rfl⟩
            refine cd_seq (cd_drawh (ork [(0, 2), (1, 1), (2, 2), (3, 2)] .nil) (fun _ => true) mixed (by kernel_rfl) ?_)
            refine dp_v rfl (v_fieldAddr rfl fa29_0 rfl) (dr_v rfl (v_ldy rfl ld9) ?_)
            refine dp_v rfl (v_assign rfl) (dp_v rfl (v_assign rfl) (dr_nil (nx_kp [2, 3] rfl (nx_then (cd_ret (xt_ret_block (xt_ret_then (xt_ret_then (xt_ret_block (xt_ret_block (xt_ret_then (xt_ret_then (xt_ret_block (xt_ret_then ?_))))))))))))))
            rw [check_lost h24 hball hxi hls hlost]
            exact xt_rt rfl ⟨rfl, rfl⟩ (by (repeat (refine Sub.sel (by repeat (first | exact Sel.here | apply Sel.there)) ?_)); (repeat apply Sub.cons); first | exact Sub.refl _ | exact Sub.nil _)
          · skip
            have hno : isC l p = true := by simpa using hno
            refine cd_skip (xt_normal_block (xt_then (cd_region (st_v (v_add rfl rfl (by unfold I64 at *; omega)) (st_v (v_move rfl) (st_nil (nx_kp [0, 4, 8, 54, 55, 56, 61, 62, 63] rfl (nx_xt (xt_aq (k + 1) ⟨hkl, fun m q hm hq => ?_⟩ (by show _ - _ < _ - _; omega))))))))))
            by_cases hmk : m = k
            · subst hmk; rw [hpi] at hq; cases hq; exact hno
            · exact hpk m q (by omega) hq
        · skip
          have hkl : k = x.parents.length := by have : ¬ k < x.parents.length := by simpa using hd3
                                                omega
          refine cd_exit (xt_exit_then (xt_exit_then (xt_exit_block (xt_normal_block (xt_then (cd_region (st_v (v_add rfl rfl (by unfold I64 at *; omega)) (st_v (v_move rfl) (st_nil (nx_kp [0, 4, 54, 55, 56] rfl (nx_xt (xt_aq (i2 + 1) ⟨hlt, fun j y hj hy => ?_⟩ (by show _ - _ < _ - _; omega)))))))))))))
          by_cases hji : j = i2
          · subst hji
            rw [hxi] at hy; cases hy
            unfold lost
            rw [List.any_eq_false]
            intro p hp
            obtain ⟨m, hm⟩ := List.getElem?_of_mem hp
            rw [hpk m p (by rw [hkl]; exact (List.getElem?_eq_some_iff.1 hm).1) hm]; decide
          · exact hls j y (by omega) hy
      · skip
        have hil2 : i2 = l.length := by have : ¬ i2 < l.length := by simpa using hd2
                                        omega
        have hlall : ∀ (j : Nat) (y : Cls), l[j]? = some y → lost l y = false := fun j y hj => hls j y (by rw [hil2]; exact (List.getElem?_eq_some_iff.1 hj).1) hj
        refine cd_exit (xt_exit_then (xt_exit_then (xt_exit_block (xt_then (cd_seq (cd_seq (cd_region (st_v (v_move rfl) ?_))))))))
        have hF : Fine l := ⟨by omega, fun x hx => by
          obtain ⟨j, hj⟩ := List.getElem?_of_mem hx
          have := (alone_zero.1 (hball j x hj)).1
          omega⟩
        refine st_cl rfl rfl en26 rfl (Ring_ct hv hF) ?_
        rintro u h' ⟨T, rfl, w, rfl, hw, rfl⟩
        simp only [List.cons_append, List.nil_append]
        refine st_v (v_move rfl) (st_v (v_extract rfl rfl) (st_v (v_extract rfl rfl) (st_v (v_assign rfl) (st_v (v_assign rfl) (st_nil (nx_kp [13, 14] rfl (nx_then (cd_seq (cd_region (st_v (v_move rfl) (st_nil (nx_kp [13, 85] rfl (nx_then ?_)))))))))))))
        cases hrg : ring l
        · skip
          rw [check_ok h24 hball hlall hrg]
          refine cd_false rfl ?_
          refine cd_skip (xt_then (cd_seq (cd_region (st_v (v_assign rfl) (st_v (v_assign rfl) (st_nil (nx_kp [2, 3] rfl (nx_then (cd_ret ?_)))))))))
          exact xt_rt rfl ⟨rfl, rfl⟩ (by (repeat (refine Sub.sel (by repeat (first | exact Sel.here | apply Sel.there)) ?_)); (repeat apply Sub.cons); first | exact Sub.refl _ | exact Sub.nil _)
        · skip
          rename_i r
          have hrk := (ring_ok hrg).1
          cases r with
          | nil => simp [ringOk] at hrk
          | cons r0 t =>
            rw [check_ring h24 hball hlall hrg]
            simp only [Option.getD_some]
            refine cd_ok (r := NR w (r0 :: t)) (by repeat (first | exact Sel.here | apply Sel.there)) fun hok => ?_
            obtain ⟨rb, ro, rcp, hrv, hrrd⟩ := nms_at (nms_own hok) (show (r0 :: t)[0]? = some r0 from rfl)
            refine cd_true rfl ?_
            refine cd_seq (cd_drawh (ork [(0, 2), (1, 2), (2, 1), (3, 2), (4, 2)] .nil) (fun _ => true) mixed (by kernel_rfl) ?_)
            refine dp_v rfl (v_move rfl) (dp_v rfl (v_indexAddr (k := 0) (congrArg some hrv) rfl sl25 rfl (by simp) rfl) ?_)
            refine dr_v rfl (v_ldy rfl ld9) ?_
            refine dp_v rfl (v_assign rfl) (dp_v rfl (v_assign rfl) (dr_nil (nx_kp [2, 3] rfl (nx_then (cd_ret (xt_ret_then ?_))))))
            exact xt_rt rfl ⟨rfl, rfl⟩ (by (repeat (refine Sub.sel (by repeat (first | exact Sel.here | apply Sel.there)) ?_)); (repeat apply Sub.cons); first | exact Sub.refl _ | exact Sub.nil _)
end
end Go.Hr
namespace Go.Hr
open Go Go.Ck Go.Proofs Go.Proofs.YtjgiaohieadeiaaGreat Fx
attribute [local irreducible] Go.Ck.Sub St Cd Xt Nx DrL LsW
def rightB (l : Sys) : Bool := ((check l).1 == 0) && decide (0 < (l.length : Int))
theorem rightB_iff {l : Sys} : rightB l = true ↔ Right l ∧ 0 < l.length := by
  unfold rightB
  rw [Bool.and_eq_true, beq_iff_eq, check_zero, decide_eq_true_eq]
  exact and_congr_right fun _ => by omega
section
variable {S : Res} {v : Value} {l : Sys}
set_option maxRecDepth 100000 in
theorem rightL_ct (hv : sysR S v l) : Ct Tryz.prog 12 #[v] [S] fun u h' => u = .bool (rightB l) ∧ h' = [S] := by
  obtain ⟨a, cap, rfl, _⟩ := id hv
  refine ct_of (n := 17) Tryz.func12 rfl rfl (len rfl) fun hr w0 => ?_
  refine cd_seq (cd_region (st_v (v_assign rfl) (st_nil (nx_then (cd_seq (cd_region (st_v (v_move rfl) (st_cl rfl rfl en13 rfl (Check_ct hv) ?_))))))))
  rintro u h' ⟨rfl, rfl⟩
  simp only [List.cons_append, List.nil_append]
  refine st_v (v_move rfl) (st_v (v_extract rfl rfl) (st_v (v_extract rfl rfl) (st_v (v_assign rfl) (st_v (v_assign rfl) (st_nil (nx_kp [0, 2, 3] rfl (nx_then (cd_seq (cd_region (st_v (v_move rfl) (st_v (v_eql rfl rfl) (st_v (v_move rfl) (st_cut (k := 7) (d := 16) (v := .bool (((check l).1 == 0) && decide (0 < (l.length : Int)))) (fun hcut => bool_want (b := ((check l).1 == 0)) true (fun hg => ?_) (fun hg => ?_)) ?_)))))))))))))
  · refine st_sk rfl rfl hg ?_
    refine st_sk rfl rfl hg ?_
    refine st_sk rfl rfl hg ?_
    refine st_v (v_pick_false (bool_ev rfl hg) rfl) ?_
    exact hcut _ (ssub_head (by first | rfl | (rw [hg]; rfl) | simp_all) (ssub_skip rfl (ssub_skip rfl (ssub_skip rfl (ssub_refl)))))
  · skip
    refine st_vg rfl (bool_get rfl hg) (v_move rfl) (st_vg rfl (bool_get rfl hg) (v_len rfl Tryz.underlying22) (st_vg rfl (bool_get rfl hg) (v_gtr rfl rfl) (st_v (v_pick_true (bool_ev rfl hg) rfl) ?_)))
    exact hcut _ (ssub_head (by first | rfl | (rw [hg]; rfl) | simp_all) (ssub_skip rfl (ssub_skip rfl (ssub_skip rfl (ssub_refl)))))
  refine st_v (v_assign rfl) (st_nil (nx_kp [2] rfl (nx_then (cd_ret ?_))))
  exact xt_rt rfl ⟨rfl, rfl⟩ (by (repeat (refine Sub.sel (by repeat (first | exact Sel.here | apply Sel.there)) ?_)); (repeat apply Sub.cons); first | exact Sub.refl _ | exact Sub.nil _)
end
end Go.Hr
namespace Go.Hr
open Go Go.Ck Go.Proofs Go.Proofs.YtjgiaohieadeiaaGreat Fx
attribute [local irreducible] Go.Ck.Sub St Cd Xt Nx DrL LsW
/-- The first error of a system and of names of classes. -/
def rightE (l : Sys) (ns : List Nm) : Int := if (check l).1 = 0 then (if ns.all (isC l) then 0 else 5) else (check l).1
theorem rightE_zero {l : Sys} {ns : List Nm} : rightE l ns = 0 ↔ Right l ∧ ∀ n ∈ ns, isC l n = true := by
  unfold rightE
  rw [← check_zero, ← List.all_eq_true]
  by_cases h : (check l).1 = 0
  · rw [if_pos h]
    by_cases h2 : ns.all (isC l) = true
    · simp [h, h2]
    · rw [if_neg h2]; simp [h, h2]
  · rw [if_neg h]; simp [h]
theorem all_take {f : Nm → Bool} {ns : List Nm} {i : Nat} (hi : i < ns.length) (h : ∀ x ∈ ns.take i, f x = true) (h2 : f ns[i] = true) : ∀ x ∈ ns.take (i + 1), f x = true := fun x hx => by
  rw [List.take_succ_eq_append_getElem hi] at hx
  rcases List.mem_append.1 hx with hx | hx
  · exact h x hx
  · simp at hx; rw [hx]; exact h2
def gr0 : Value := .agg #[.slice none 0 0, .map none]
section
variable {S N : Res} {v nv : Value} {l : Sys} {ns : List Nm}
set_option maxRecDepth 100000 in
theorem right_ct (hv : sysR S v l) (hn : nmsR N nv ns) (hnl : ns.length ≤ 1099511627776) : Ct Tryz.prog 32 #[v, nv] [S, N] fun u h' => (rightE l ns ≠ 0 ∧ u = .tuple #[gr0, .int .i64 (rightE l ns)] ∧ h' = [S, N]) ∨ (rightE l ns = 0 ∧ ∃ mb, u = .tuple #[.agg #[v, .map (some mb)], .int .i64 0] ∧ h' = [mps mb (kindsM l), S, N]) := by
  obtain ⟨a, cap, rfl, _⟩ := id hv
  obtain ⟨na, ncap, rfl, _⟩ := id hn
  refine ct_of (n := 42) Tryz.func32 rfl rfl (len rfl) fun hr w0 => ?_
  refine cd_seq (cd_region (st_alc al75 fun b4 => ?_))
  refine st_v (v_assign rfl) (st_nil (nx_then (cd_seq (cd_seq (cd_region (st_v (v_move rfl) (st_cl rfl rfl en13 rfl (Check_ct hv) ?_)))))))
  rintro u h' ⟨rfl, rfl⟩
  simp only [List.cons_append, List.nil_append]
  refine st_v (v_move rfl) (st_v (v_extract rfl rfl) (st_v (v_extract rfl rfl) (st_v (v_assign rfl) (st_v (v_assign rfl) (st_nil (nx_kp [0, 1, 4, 5, 6] rfl (nx_then (cd_seq (cd_region (st_v (v_move rfl) (st_v (v_neq rfl rfl) (st_nil (nx_kp [0, 1, 4, 5, 6, 19] rfl (nx_then (cd_cond rfl (fun hc => ?_) (fun hc => ?_))))))))))))))))
  · skip
    have hc : ¬ (check l).1 = 0 := by simpa using hc
    have he : rightE l ns = (check l).1 := by unfold rightE; rw [if_neg hc]
    rw [he]
    refine cd_seq (cd_region (st_v (v_build (cells := [.slice none 0 0, .map none]) rfl (fun _ => by kernel_rfl)) ?_))
    refine st_v (v_move rfl) (st_stoW rfl rfl sz75 rfl rfl ?_)
    refine st_v (v_assign rfl) (st_nil (nx_kp [4, 5] rfl (nx_then (cd_ret (xt_ret_then ?_)))))
    exact xt_retV (.cellN rfl ld75 rfl (by repeat (first | exact Sel.here | apply Sel.there)) (.tmp rfl .nil)) (.inl ⟨hc, rfl, rfl⟩) (by repeat (first | exact Sub.refl _ | exact Sub.nil _ | refine Sub.sel (by repeat (first | exact Sel.here | apply Sel.there)) ?_ | apply Sub.cons))
  · skip
    have hc : (check l).1 = 0 := by simpa using hc
    have hR := check_zero.1 hc
    refine cd_skip (xt_then (cd_seq (cd_region (st_v (v_move rfl) ?_))))
    have hFl := hR.len
    refine st_cl rfl rfl en51 rfl (of_ct hv (by omega)) ?_
    rintro u h' ⟨mb, rfl, rfl⟩
    simp only [List.cons_append, List.nil_append]
    refine st_alc al75 fun b8 => ?_
    refine st_stoW rfl rfl sz75 rfl rfl ?_
    refine st_nil (nx_kp [1, 4, 5, 8] rfl (nx_then (cd_seq (cd_seq (cd_region (st_v (v_move rfl) (st_v (v_len rfl Tryz.underlying25) (st_v (v_move rfl) (st_nil (nx_kp [4, 5, 8, 24, 25, 26] rfl (nx_then (cd_block (cd_lq (σ := Nat) (fun i => [(4, .pointer (some ⟨b4, 0, none⟩)), (8, .pointer (some ⟨b8, 0, none⟩)), (24, .slice na ns.length ncap), (25, .int .i64 ns.length), (26, .int .i64 (i : Nat))]) (fun _ => pt b4 (cl [.slice none 0 0, .map none] 75) :: pt b8 (cl [.slice a l.length cap, .map (some mb)] 75) :: mps mb (kindsM l) :: S :: N :: hr) (fun i => i ≤ ns.length ∧ ∀ x ∈ ns.take i, isC l x = true) (fun i => ns.length - i) 0 ⟨Nat.zero_le _, fun x hx => by simp at hx⟩ ?_)))))))))))))
    rintro i ⟨hi, hal⟩
    refine cd_seq (cd_region (st_v (v_lss rfl rfl) (st_nil (nx_then (cd_seq (cd_cond rfl (fun hd => ?_) (fun hd => ?_)))))))
    · skip
      have hlt : i < ns.length := by simpa using hd
      obtain ⟨b, o, cap2, hv2, hrd⟩ := nms_at hn (List.getElem?_eq_getElem hlt)
      refine cd_skip (xt_then (cd_seq (cd_block (cd_seq (cd_region (st_v (v_indexAddr (k := i) (congrArg some hv2) rfl sl25 rfl hlt rfl) (st_v (v_ldy rfl ld9) ?_)))))))
      refine st_v (v_assign rfl) (st_nil (nx_kp [4, 8, 10, 24, 25, 26] rfl (nx_then (cd_seq (cd_region (st_v (v_fieldAddr rfl fa75_1 rfl) (st_v (v_ldy rfl ld73) ?_)))))))
      refine st_v (v_move rfl) (st_v (v_slookup_ok rfl rfl mp73 inf3 (by repeat (first | exact Sel.here | apply Sel.there))) ?_)
      refine st_v (v_move rfl) (st_v (v_extract rfl rfl) (st_v (v_extract rfl rfl) (st_v (v_assign rfl) (st_v (v_assign rfl) (st_nil (nx_kp [4, 8, 12, 24, 25, 26] rfl (nx_then (cd_seq (cd_region (st_v (v_move rfl) (st_v (v_not rfl) (st_nil (nx_kp [4, 8, 24, 25, 26, 38] rfl (nx_then ?_))))))))))))))
      rw [look_isC]
      refine cd_cond rfl (fun hno => ?_) (fun hno => ?_)
      · skip
        have hno : isC l ns[i] = false := by simpa using hno
        have he : rightE l ns = 5 := by
          unfold rightE
          rw [if_pos hc, if_neg (by rw [List.all_eq_true]; intro h; rw [h _ (List.getElem_mem hlt)] at hno; cases hno)]
        rw [he]
        refine cd_seq (cd_region (st_v (v_build (cells := [.slice none 0 0, .map none]) rfl (fun _ => by kernel_rfl)) ?_))
        refine st_stoW rfl rfl sz75 rfl rfl ?_
        refine st_v (v_assign rfl) (st_nil (nx_kp [4, 5] rfl (nx_then (cd_ret (xt_ret_block (xt_ret_then (xt_ret_then (xt_ret_block (xt_ret_then ?_)))))))))
        exact xt_retV (.cellN rfl ld75 rfl (by repeat (first | exact Sel.here | apply Sel.there)) (.tmp rfl .nil)) (.inl ⟨by decide, rfl, rfl⟩) (by repeat (first | exact Sub.refl _ | exact Sub.nil _ | refine Sub.sel (by repeat (first | exact Sel.here | apply Sel.there)) ?_ | apply Sub.cons))
      · skip
        have hno : isC l ns[i] = true := by simpa using hno
        refine cd_skip (xt_normal_block (xt_then (cd_region (st_v (v_add rfl rfl (by unfold I64 at *; omega)) (st_v (v_move rfl) (st_nil (nx_kp [4, 8, 24, 25, 26] rfl (nx_xt ?_))))))))
        refine xt_aq (i + 1) ⟨hlt, all_take hlt hal hno⟩ (by show _ - _ < _ - _; omega)
    · skip
      have hil : i = ns.length := by have : ¬ i < ns.length := by simpa using hd
                                     omega
      subst hil
      rw [List.take_length] at hal
      have he : rightE l ns = 0 := rightE_zero.2 ⟨hR, hal⟩
      refine cd_exit (xt_exit_then (xt_exit_then (xt_exit_block (xt_then (cd_seq (cd_region (st_v (v_ldn rfl ld75 rfl rds_pt) ?_)))))))
      refine st_stoW rfl rfl sz75 rfl rfl ?_
      refine st_v (v_assign rfl) (st_nil (nx_kp [4, 5] rfl (nx_then (cd_ret ?_))))
      exact xt_retV (.cellN rfl ld75 rfl (by repeat (first | exact Sel.here | apply Sel.there)) (.tmp rfl .nil)) (.inr ⟨he, mb, rfl, rfl⟩) (by repeat (first | exact Sub.refl _ | exact Sub.nil _ | refine Sub.sel (by repeat (first | exact Sel.here | apply Sel.there)) ?_ | apply Sub.cons))
end
end Go.Hr
namespace Go.Hr
open Go Go.Ck Go.Proofs Go.Proofs.YtjgiaohieadeiaaGreat Fx
attribute [local irreducible] Go.Ck.Sub St Cd Xt Nx DrL LsW
/-- A result's list, if there is no error. -/
def okL {α : Type} (e : Int) (xs : List α) : List α := if e = 0 then xs else []
theorem okL_ne {α : Type} {e : Int} {xs : List α} (h : e ≠ 0) : okL e xs = [] := if_neg h
theorem okL_eq {α : Type} {e : Int} {xs : List α} (h : e = 0) : okL e xs = xs := if_pos h
theorem ne_true {e : Int} (h : e ≠ 0) : (e != 0) = true := by simpa using h
section
variable {S N : Res} {v nv : Value} {l : Sys} {ns : List Nm}
set_option maxRecDepth 100000 in
theorem Above_ct (hv : sysR S v l) (c : Nm) : CtN Tryz.prog 17 #[v, sv c] [S] fun u T => ∃ w, u = .tuple #[w, .int .i64 (rightE l [c])] ∧ w.oneCell' = true ∧ T = NR w (okL (rightE l [c]) (above l c)) := by
  obtain ⟨a, cap, rfl, _⟩ := id hv
  refine ct_of (n := 21) Tryz.func17 rfl rfl (len rfl) fun hr w0 => ?_
  refine cd_seq (cd_region (st_v (v_assign rfl) (st_v (v_assign rfl) (st_nil (nx_then (cd_seq (cd_region (st_v (v_move rfl) (st_v (v_move rfl) (st_buildSlice (cells := [sv c]) rfl Tryz.underlying25 inf9 rfl rfl (by kernel_rfl) (ltn rfl) fun b11 => ?_))))))))))
  refine st_pv (pv_of (b := b11) (n := 1) (sz := 1) (E := 9) [nC c] rfl (by simp [nC]) rfl (by decide)) ?_
  simp only [List.cons_append, List.nil_append]
  refine st_ok (r := NR (.slice (some ⟨b11, 0, none⟩) 1 1) [c]) (by repeat (first | exact Sel.here | apply Sel.there)) fun hok => ?_
  refine st_cl rfl rfl en32 rfl (right_ct hv (nms_own hok) (by simp)) ?_
  rintro u h' (⟨he, rfl, rfl⟩ | ⟨he, mb, rfl, rfl⟩)
  · skip
    simp only [List.cons_append, List.nil_append]
    unfold gr0
    refine st_v (v_move rfl) (st_v (v_extract rfl rfl) (st_v (v_extract rfl rfl) (st_alc al75 fun b6 => ?_)))
    refine st_stoW rfl rfl sz75 rfl rfl ?_
    refine st_v (v_assign rfl) (st_nil (nx_kp [1, 4, 5, 6, 7] rfl (nx_then (cd_seq (cd_seq (cd_region (st_v (v_move rfl) (st_v (v_neq rfl rfl) (st_nil (nx_kp [1, 4, 5, 6, 7, 16] rfl (nx_then ?_)))))))))))
    rw [ne_true he]
    refine cd_true rfl ?_
    refine cd_seq (cd_region (st_v (v_move rfl) (st_v (v_assign rfl) (st_v (v_assign rfl) (st_nil (nx_kp [4, 5] rfl (nx_then (cd_ret (xt_ret_then ?_)))))))))
    rw [okL_ne he]
    refine xt_vw (vw_nil 9 1) ?_
    exact xt_rt rfl ⟨NR (.slice none 0 0) [], rfl, _, rfl, rfl, rfl⟩ (by (repeat (refine Sub.sel (by repeat (first | exact Sel.here | apply Sel.there)) ?_)); (repeat apply Sub.cons); first | exact Sub.refl _ | exact Sub.nil _)
  · skip
    obtain ⟨hR, hm⟩ := rightE_zero.1 he
    rw [he, okL_eq rfl]
    simp only [List.cons_append, List.nil_append]
    refine st_v (v_move rfl) (st_v (v_extract rfl rfl) (st_v (v_extract rfl rfl) (st_alc al75 fun b6 => ?_)))
    refine st_stoW rfl rfl sz75 rfl rfl ?_
    refine st_v (v_assign rfl) (st_nil (nx_kp [1, 4, 5, 6, 7] rfl (nx_then (cd_seq (cd_seq (cd_region (st_v (v_move rfl) (st_v (v_neq rfl rfl) (st_nil (nx_kp [1, 4, 5, 6, 7, 16] rfl (nx_then (cd_false rfl ?_))))))))))))
    refine cd_skip (xt_then (cd_seq (cd_region (st_v (v_ldn rfl ld75 rfl rds_pt) ?_))))
    refine st_v (v_move rfl) (st_cl rfl rfl en46 rfl (above_ct hv hR.fine hR.acyc (hm c (by simp))) ?_)
    rintro u h' ⟨hu, rfl⟩
    simp only [List.cons_append, List.nil_append]
    refine st_v (v_assign rfl) (st_v (v_assign rfl) (st_nil (nx_kp [4, 5] rfl (nx_then (cd_ret ?_)))))
    exact xt_rt rfl ⟨_, rfl, _, rfl, hu, rfl⟩ (by (repeat (refine Sub.sel (by repeat (first | exact Sel.here | apply Sel.there)) ?_)); (repeat apply Sub.cons); first | exact Sub.refl _ | exact Sub.nil _)
set_option maxRecDepth 100000 in
theorem Is_ct (hv : sysR S v l) (c x : Nm) : Ct Tryz.prog 45 #[v, sv c, sv x] [S] fun u h' => u = .tuple #[.bool (decide (rightE l [c, x] = 0) && has l c x), .int .i64 (rightE l [c, x])] ∧ h' = [S] := by
  obtain ⟨a, cap, rfl, _⟩ := id hv
  refine ct_of (n := 25) Tryz.func45 rfl rfl (len rfl) fun hr w0 => ?_
  refine cd_seq (cd_region (st_v (v_assign rfl) (st_v (v_assign rfl) (st_nil (nx_then (cd_seq (cd_region (st_v (v_move rfl) (st_v (v_move rfl) (st_v (v_move rfl) (st_buildSlice (cells := [sv c, sv x]) rfl Tryz.underlying25 inf9 rfl rfl (by kernel_rfl) (ltn rfl) fun b14 => ?_)))))))))))
  refine st_pv (pv_of (b := b14) (n := 2) (sz := 1) (E := 9) [nC c, nC x] rfl (by simp [nC]) rfl (by decide)) ?_
  simp only [List.cons_append, List.nil_append]
  refine st_ok (r := NR (.slice (some ⟨b14, 0, none⟩) 2 2) [c, x]) (by repeat (first | exact Sel.here | apply Sel.there)) fun hok => ?_
  refine st_cl rfl rfl en32 rfl (right_ct hv (nms_own hok) (by simp)) ?_
  rintro u h' (⟨he, rfl, rfl⟩ | ⟨he, mb, rfl, rfl⟩)
  · skip
    simp only [List.cons_append, List.nil_append]
    unfold gr0
    refine st_v (v_move rfl) (st_v (v_extract rfl rfl) (st_v (v_extract rfl rfl) (st_alc al75 fun b8 => ?_)))
    refine st_stoW rfl rfl sz75 rfl rfl ?_
    refine st_v (v_assign rfl) (st_nil (nx_kp [1, 2, 6, 7, 8, 9] rfl (nx_then (cd_seq (cd_seq (cd_region (st_v (v_move rfl) (st_v (v_neq rfl rfl) (st_nil (nx_kp [1, 2, 6, 7, 8, 9, 19] rfl (nx_then ?_)))))))))))
    rw [ne_true he]
    refine cd_true rfl ?_
    refine cd_seq (cd_region (st_v (v_move rfl) (st_v (v_assign rfl) (st_v (v_assign rfl) (st_nil (nx_kp [6, 7] rfl (nx_then (cd_ret (xt_ret_then ?_)))))))))
    rw [show (decide (rightE l [c, x] = 0)) = false from decide_eq_false he, Bool.false_and]
    exact xt_rt rfl ⟨rfl, rfl⟩ (by (repeat (refine Sub.sel (by repeat (first | exact Sel.here | apply Sel.there)) ?_)); (repeat apply Sub.cons); first | exact Sub.refl _ | exact Sub.nil _)
  · skip
    obtain ⟨hR, hm⟩ := rightE_zero.1 he
    rw [he]
    simp only [List.cons_append, List.nil_append]
    refine st_v (v_move rfl) (st_v (v_extract rfl rfl) (st_v (v_extract rfl rfl) (st_alc al75 fun b8 => ?_)))
    refine st_stoW rfl rfl sz75 rfl rfl ?_
    refine st_v (v_assign rfl) (st_nil (nx_kp [1, 2, 6, 7, 8, 9] rfl (nx_then (cd_seq (cd_seq (cd_region (st_v (v_move rfl) (st_v (v_neq rfl rfl) (st_nil (nx_kp [1, 2, 6, 7, 8, 9, 19] rfl (nx_then (cd_false rfl ?_))))))))))))
    refine cd_skip (xt_then (cd_seq (cd_region (st_v (v_ldn rfl ld75 rfl rds_pt) ?_))))
    refine st_v (v_move rfl) (st_v (v_move rfl) (st_cl rfl rfl en55 rfl (has_ct hv hR.fine hR.acyc (hm c (by simp)) x) ?_))
    rintro u h' ⟨rfl, rfl⟩
    simp only [List.cons_append, List.nil_append]
    refine st_v (v_assign rfl) (st_v (v_assign rfl) (st_nil (nx_kp [6, 7] rfl (nx_then (cd_ret ?_)))))
    exact xt_rt rfl ⟨rfl, rfl⟩ (by (repeat (refine Sub.sel (by repeat (first | exact Sel.here | apply Sel.there)) ?_)); (repeat apply Sub.cons); first | exact Sub.refl _ | exact Sub.nil _)
def wayE (l : Sys) (c x : Nm) : Int := if rightE l [c, x] = 0 then (if has l c x then 0 else 5) else rightE l [c, x]
set_option maxRecDepth 100000 in
theorem Way_ct (hv : sysR S v l) (c x : Nm) : CtN Tryz.prog 19 #[v, sv c, sv x] [S] fun u T => ∃ w, u = .tuple #[w, .int .i64 (wayE l c x)] ∧ w.oneCell' = true ∧ T = NR w (okL (rightE l [c, x]) (shortR l x c)) := by
  obtain ⟨a, cap, rfl, _⟩ := id hv
  refine ct_of (n := 29) Tryz.func19 rfl rfl (len rfl) fun hr w0 => ?_
  refine cd_seq (cd_region (st_v (v_assign rfl) (st_v (v_assign rfl) (st_nil (nx_then (cd_seq (cd_region (st_v (v_move rfl) (st_v (v_move rfl) (st_v (v_move rfl) (st_buildSlice (cells := [sv c, sv x]) rfl Tryz.underlying25 inf9 rfl rfl (by kernel_rfl) (ltn rfl) fun b15 => ?_)))))))))))
  refine st_pv (pv_of (b := b15) (n := 2) (sz := 1) (E := 9) [nC c, nC x] rfl (by simp [nC]) rfl (by decide)) ?_
  simp only [List.cons_append, List.nil_append]
  refine st_ok (r := NR (.slice (some ⟨b15, 0, none⟩) 2 2) [c, x]) (by repeat (first | exact Sel.here | apply Sel.there)) fun hok => ?_
  refine st_cl rfl rfl en32 rfl (right_ct hv (nms_own hok) (by simp)) ?_
  rintro u h' (⟨he, rfl, rfl⟩ | ⟨he, mb, rfl, rfl⟩)
  · skip
    have hw : wayE l c x = rightE l [c, x] := if_neg he
    rw [hw]
    simp only [List.cons_append, List.nil_append]
    unfold gr0
    refine st_v (v_move rfl) (st_v (v_extract rfl rfl) (st_v (v_extract rfl rfl) (st_alc al75 fun b8 => ?_)))
    refine st_stoW rfl rfl sz75 rfl rfl ?_
    refine st_v (v_assign rfl) (st_nil (nx_kp [1, 2, 6, 7, 8, 9] rfl (nx_then (cd_seq (cd_seq (cd_region (st_v (v_move rfl) (st_v (v_neq rfl rfl) (st_nil (nx_kp [1, 2, 6, 7, 8, 9, 20] rfl (nx_then ?_)))))))))))
    rw [ne_true he]
    refine cd_true rfl ?_
    refine cd_seq (cd_region (st_v (v_move rfl) (st_v (v_assign rfl) (st_v (v_assign rfl) (st_nil (nx_kp [6, 7] rfl (nx_then (cd_ret (xt_ret_then ?_)))))))))
    rw [okL_ne he]
    refine xt_vw (vw_nil 9 1) ?_
    exact xt_rt rfl ⟨NR (.slice none 0 0) [], rfl, _, rfl, rfl, rfl⟩ (by (repeat (refine Sub.sel (by repeat (first | exact Sel.here | apply Sel.there)) ?_)); (repeat apply Sub.cons); first | exact Sub.refl _ | exact Sub.nil _)
  · skip
    obtain ⟨hR, hm⟩ := rightE_zero.1 he
    have hw : wayE l c x = if has l c x then 0 else 5 := if_pos he
    rw [hw, he, okL_eq rfl]
    simp only [List.cons_append, List.nil_append]
    refine st_v (v_move rfl) (st_v (v_extract rfl rfl) (st_v (v_extract rfl rfl) (st_alc al75 fun b8 => ?_)))
    refine st_stoW rfl rfl sz75 rfl rfl ?_
    refine st_v (v_assign rfl) (st_nil (nx_kp [1, 2, 6, 7, 8, 9] rfl (nx_then (cd_seq (cd_seq (cd_region (st_v (v_move rfl) (st_v (v_neq rfl rfl) (st_nil (nx_kp [1, 2, 6, 7, 8, 9, 20] rfl (nx_then (cd_false rfl ?_))))))))))))
    refine cd_skip (xt_then (cd_seq (cd_region (st_v (v_ldn rfl ld75 rfl rds_pt) ?_))))
    refine st_v (v_move rfl) (st_v (v_move rfl) (st_cl rfl rfl en47 rfl (shortest_ct hv hR.fine c x) ?_))
    rintro u h' ⟨T, rfl, wa, cp, rfl, hwa, rfl⟩
    unfold has
    simp only [List.cons_append, List.nil_append]
    cases hd : dist l x c
    · skip
      rw [hd] at hwa
      have hwa : wa = none := by simpa using hwa
      subst hwa
      have hsr : shortR l x c = [] := by unfold shortR; rw [hd]
      rw [hsr]
      refine st_v (v_assign rfl) (st_nil (nx_kp [6, 7, 10] rfl (nx_then (cd_seq (cd_seq (cd_region (st_v (v_move rfl) (st_v (v_eql_slice_nil rfl rfl Tryz.underlying25) (st_nil (nx_kp [6, 7, 10, 27] rfl (nx_then (cd_true rfl ?_))))))))))))
      refine cd_seq (cd_region (st_v (v_assign rfl) (st_v (v_assign rfl) (st_nil (nx_kp [6, 7] rfl (nx_then (cd_ret (xt_ret_then (xt_vw (vw_nil 9 1) ?_)))))))))
      exact xt_rt rfl ⟨NR (.slice none 0 0) [], rfl, _, rfl, rfl, rfl⟩ (by (repeat (refine Sub.sel (by repeat (first | exact Sel.here | apply Sel.there)) ?_)); (repeat apply Sub.cons); first | exact Sub.refl _ | exact Sub.nil _)
    · skip
      rw [hd] at hwa
      obtain ⟨wb, rfl⟩ : ∃ wb, wa = some wb := by
        cases wa with
        | none => cases hwa
        | some wb => exact ⟨wb, rfl⟩
      refine st_v (v_assign rfl) (st_nil (nx_kp [6, 7, 10] rfl (nx_then (cd_seq (cd_seq (cd_region (st_v (v_move rfl) (st_v (v_eql_slice_nil rfl rfl Tryz.underlying25) (st_nil (nx_kp [6, 7, 10, 27] rfl (nx_then (cd_false rfl ?_))))))))))))
      refine cd_skip (xt_then (cd_seq (cd_region (st_v (v_move rfl) (st_v (v_assign rfl) (st_v (v_assign rfl) (st_nil (nx_kp [6, 7] rfl (nx_then (cd_ret ?_))))))))))
      exact xt_rt rfl ⟨_, rfl, _, rfl, rfl, rfl⟩ (by (repeat (refine Sub.sel (by repeat (first | exact Sel.here | apply Sel.there)) ?_)); (repeat apply Sub.cons); first | exact Sub.refl _ | exact Sub.nil _)
end
end Go.Hr
namespace Go.Hr
open Go Go.Ck Go.Proofs Go.Proofs.YtjgiaohieadeiaaGreat Fx
attribute [local irreducible] Go.Ck.Sub St Cd Xt Nx DrL LsW
section
variable {S N T : Res} {v nv : Value} {l : Sys} {ns : List Nm}
set_option maxRecDepth 100000 in
theorem touched2_ct {b3 : Nat} (hn : nmsR N nv ns) (hnl : ns.length ≤ 1099511627776) (x : Nm) : Reads Tryz.prog 60 #[sv x, .pointer (some ⟨b3, 0, none⟩)] [T, pt b3 (cl [nv] 25), N] (.bool (ns.contains x)) := by
  obtain ⟨na, ncap, rfl, _⟩ := id hn
  refine ct_of (n := 7) Tryz.func60 rfl rfl (len rfl) fun hr w0 => ?_
  refine cd_seq (cd_region (st_v (v_assign rfl) (st_nil (nx_then (cd_seq (cd_region (st_v (v_ldy rfl ld25) ?_)))))))
  refine st_v (v_move rfl) (st_clr rfl rfl en35 rfl (Contains_ct hn x hnl) ?_)
  refine st_v (v_assign rfl) (st_nil (nx_kp [3] rfl (nx_then (cd_ret ?_))))
  exact xt_rt rfl ⟨rfl, rfl⟩ (by (repeat (refine Sub.sel (by repeat (first | exact Sel.here | apply Sel.there)) ?_)); (repeat apply Sub.cons); first | exact Sub.refl _ | exact Sub.nil _)
theorem any_above (hR : Right l) (d : Nm) (ns : List Nm) : ((above l d).any fun x => ns.contains x) = ns.any fun x => has l d x := by
  rw [Bool.eq_iff_iff, List.any_eq_true, List.any_eq_true]
  simp only [List.contains_iff_mem, (above_spec hR.acyc d).2]
  exact ⟨fun ⟨x, h1, h2⟩ => ⟨x, h2, h1⟩, fun ⟨x, h1, h2⟩ => ⟨x, h2, h1⟩⟩
set_option maxRecDepth 100000 in
theorem touched1_ct {b6 b3 mb : Nat} (hv : sysR S v l) (hR : Right l) (hn : nmsR N nv ns) (hnl : ns.length ≤ 1099511627776) {d : Nm} (hd : isC l d = true) : Reads Tryz.prog 59 #[sv d, .pointer (some ⟨b6, 0, none⟩), .pointer (some ⟨b3, 0, none⟩)] [pt b6 (cl [v, .map (some mb)] 75), pt b3 (cl [nv] 25), N, S, mps mb (kindsM l)] (.bool (ns.any fun x => has l d x)) := by
  obtain ⟨a, cap, rfl, _⟩ := id hv
  have hlen := above_len hR.acyc hd
  have hFl := hR.len
  refine ct_of (n := 10) Tryz.func59 rfl rfl (len rfl) fun hr w0 => ?_
  refine cd_seq (cd_region (st_v (v_assign rfl) (st_nil (nx_then (cd_seq (cd_region (st_v (v_ldn rfl ld75 rfl rds_pt) ?_)))))))
  refine st_v (v_move rfl) (st_cl rfl rfl en46 rfl (above_ct hv hR.fine hR.acyc hd) ?_)
  rintro u h' ⟨hu, rfl⟩
  simp only [List.cons_append, List.nil_append]
  refine st_ok (r := NR u (above l d)) (by repeat (first | exact Sel.here | apply Sel.there)) fun hok => ?_
  refine st_v (v_makeFunc rfl rfl) (st_cl rfl rfl en57 rfl (reads_star (ContainsFuncN_ct (S := Res.star [NR u (above l d), pt b3 (cl [nv] 25), N]) (kf := 60) (cp := #[.pointer (some ⟨b3, 0, none⟩)]) (g := fun x => ns.contains x) ((nms_own hok).mono (rd_in Sel.here)) (by omega) en60 fun x _ => reads_one (touched2_ct hn hnl x))) ?_)
  rintro u2 h' ⟨rfl, rfl⟩
  simp only [List.cons_append, List.nil_append]
  refine st_v (v_assign rfl) (st_nil (nx_kp [4] rfl (nx_then (cd_ret ?_))))
  rw [any_above hR]
  exact xt_rt rfl ⟨rfl, rfl⟩ (by (repeat (refine Sub.sel (by repeat (first | exact Sel.here | apply Sel.there)) ?_)); (repeat apply Sub.cons); first | exact Sub.refl _ | exact Sub.nil _)
def touchE (l : Sys) (ns : List Nm) : Int := if 48 < ns.length then 3 else rightE l []
theorem touch_ne {l : Sys} {ns : List Nm} (h : rightE l [] ≠ 0) : touchE l ns ≠ 0 := by
  unfold touchE
  split
  · decide
  · exact h
set_option maxRecDepth 100000 in
theorem Touched_ct (hv : sysR S v l) (hn : nmsR N nv ns) : CtN Tryz.prog 24 #[v, nv] [S, N] fun u T => ∃ w, u = .tuple #[w, .int .i64 (touchE l ns)] ∧ w.oneCell' = true ∧ T = NR w (okL (touchE l ns) (touched l ns)) := by
  obtain ⟨a, cap, rfl, _⟩ := id hv
  obtain ⟨na, ncap, rfl, _⟩ := id hn
  refine ct_of (n := 22) Tryz.func24 rfl rfl (len rfl) fun hr w0 => ?_
  refine cd_seq (cd_region (st_bx rfl rfl fun b3 => ?_))
  refine st_v (v_assign rfl) (st_v (v_assign rfl) (st_nil (nx_kp [0, 3, 4, 5] rfl (nx_then (cd_seq (cd_seq (cd_region (st_v (v_ldy rfl ld25) ?_))))))))
  refine st_v (v_len rfl Tryz.underlying25) (st_v (v_gtr rfl rfl) (st_nil (nx_kp [0, 3, 4, 5, 10] rfl (nx_then (cd_cond rfl (fun h48 => ?_) (fun h48 => ?_))))))
  · skip
    have h48 : 48 < ns.length := by have : (48 : Int) < ns.length := by simpa using h48
                                    omega
    have hw : touchE l ns = 3 := if_pos h48
    rw [hw, okL_ne (by decide)]
    refine cd_seq (cd_region (st_v (v_assign rfl) (st_v (v_assign rfl) (st_nil (nx_kp [4, 5] rfl (nx_then (cd_ret (xt_ret_then (xt_vw (vw_nil 9 1) ?_)))))))))
    exact xt_rt rfl ⟨NR (.slice none 0 0) [], rfl, _, rfl, rfl, rfl⟩ (by (repeat (refine Sub.sel (by repeat (first | exact Sel.here | apply Sel.there)) ?_)); (repeat apply Sub.cons); first | exact Sub.refl _ | exact Sub.nil _)
  · skip
    have h48 : ¬ 48 < ns.length := by have : ¬ (48 : Int) < ns.length := by simpa using h48
                                      omega
    have hw : touchE l ns = rightE l [] := if_neg h48
    rw [hw]
    refine cd_skip (xt_then (cd_seq (cd_region (st_v (v_move rfl) (st_vw (vw_unstar (L := [])) (st_cl rfl rfl en32 rfl (right_ct hv (N := Res.star []) (ns := []) Row.nil (by simp)) ?_))))))
    rintro u h' (⟨he, rfl, rfl⟩ | ⟨he, mb, rfl, rfl⟩)
    · skip
      simp only [List.cons_append, List.nil_append]
      unfold gr0
      refine st_v (v_move rfl) (st_v (v_extract rfl rfl) (st_v (v_extract rfl rfl) (st_alc al75 fun b6 => ?_)))
      refine st_stoW rfl rfl sz75 rfl rfl ?_
      refine st_v (v_assign rfl) (st_nil (nx_kp [3, 4, 5, 6, 7] rfl (nx_then (cd_seq (cd_seq (cd_region (st_v (v_move rfl) (st_v (v_neq rfl rfl) (st_nil (nx_kp [3, 4, 5, 6, 7, 17] rfl (nx_then ?_)))))))))))
      rw [ne_true he]
      refine cd_true rfl ?_
      refine cd_seq (cd_region (st_v (v_move rfl) (st_v (v_assign rfl) (st_v (v_assign rfl) (st_nil (nx_kp [4, 5] rfl (nx_then (cd_ret (xt_ret_then ?_)))))))))
      rw [okL_ne he]
      refine xt_vw (vw_nil 9 1) ?_
      exact xt_rt rfl ⟨NR (.slice none 0 0) [], rfl, _, rfl, rfl, rfl⟩ (by (repeat (refine Sub.sel (by repeat (first | exact Sel.here | apply Sel.there)) ?_)); (repeat apply Sub.cons); first | exact Sub.refl _ | exact Sub.nil _)
    · skip
      obtain ⟨hR, _⟩ := rightE_zero.1 he
      rw [he, okL_eq rfl]
      simp only [List.cons_append, List.nil_append]
      refine st_v (v_move rfl) (st_v (v_extract rfl rfl) (st_v (v_extract rfl rfl) (st_alc al75 fun b6 => ?_)))
      refine st_stoW rfl rfl sz75 rfl rfl ?_
      refine st_v (v_assign rfl) (st_nil (nx_kp [3, 4, 5, 6, 7] rfl (nx_then (cd_seq (cd_seq (cd_region (st_v (v_move rfl) (st_v (v_neq rfl rfl) (st_nil (nx_kp [3, 4, 5, 6, 7, 17] rfl (nx_then (cd_false rfl ?_))))))))))))
      refine cd_skip (xt_then (cd_seq (cd_region (st_v (v_ldn rfl ld75 rfl rds_pt) ?_))))
      refine st_v (v_makeFunc rfl rfl) (st_cl rfl rfl en50 rfl (ctn_star (names_ct (S := Res.star [pt b6 (cl [.slice a l.length cap, .map (some mb)] 75), pt b3 (cl [.slice na ns.length ncap] 25), N, S, mps mb (kindsM l)]) (kf := 59) (cp := #[.pointer (some ⟨b6, 0, none⟩), .pointer (some ⟨b3, 0, none⟩)]) (g := fun d => ns.any fun x => has l d x) (mb := mb) (hv.mono (rd_in (by repeat (first | exact Sel.here | apply Sel.there)))) hR.fine en59 fun d hd => reads_one (touched1_ct hv hR hn (by omega) (isC_iff.2 hd)))) ?_)
      rintro u h' ⟨T, rfl, hu, rfl⟩
      simp only [List.cons_append, List.nil_append]
      refine st_v (v_assign rfl) (st_v (v_assign rfl) (st_nil (nx_kp [4, 5] rfl (nx_then (cd_ret ?_)))))
      exact xt_rt rfl ⟨_, rfl, _, rfl, hu, rfl⟩ (by (repeat (refine Sub.sel (by repeat (first | exact Sel.here | apply Sel.there)) ?_)); (repeat apply Sub.cons); first | exact Sub.refl _ | exact Sub.nil _)
set_option maxRecDepth 100000 in
theorem AppendSeq_ct {c1 c2 mb : Nat} (hv : sysR S v l) (hF : Fine l) (c : Nm) : Ct Tryz.prog 70 #[.slice none 0 0, seqv c1 c2] [pt c1 (cl [v, .map (some mb)] 75), pt c2 (cl [sv c] 9), S, mps mb (kindsM l)] fun u h' => u.oneCell' = true ∧ h' = [NR u (par l c), pt c1 (cl [v, .map (some mb)] 75), pt c2 (cl [sv c] 9), S, mps mb (kindsM l)] := by
  obtain ⟨a, cap, rfl, _⟩ := id hv
  have hpl := par_len hF c
  refine ct_ofM (n := 13) Tryz.func70 rfl rfl (len rfl) fun hr w0 => ?_
  refine cd_seq (cd_region (st_bx rfl rfl fun b2 => ?_))
  refine st_v (v_assign rfl) (st_nil (nx_kp [1, 2, 4] rfl (nx_then (cd_seq (cd_seq (cd_region (st_v (v_move rfl) (st_nil (nx_kp [2, 4, 6] rfl (nx_then (cd_block (cd_vw (vw_nil 9 1) ?_))))))))))))
  unfold seqv
  simp only [List.cons_append, List.nil_append]
  refine cd_range' rfl en71 fun yl db rec hst hpe hps hasg hbo hkn2 => ?_
  refine ⟨_, Ct.perm (it_ct (σ := Value × List Nm) (b1 := c1) (b2 := c2) (mb := mb) (yl := yl) (c := c) (fun q => pt yl (.loop rec) :: pt db (.deferred (some [])) :: NR q.1 q.2 :: pt b2 (cl [q.1] 25) :: hr)
    (fun k q => q.1.oneCell' = true ∧ q.2 = (par l c).take k) (fun _ _ => False) (.slice none 0 0, []) ⟨rfl, rfl⟩ hv hF.few ?_) ?_, ?_⟩
  · rintro k ⟨w2, o2⟩ p hk ⟨hw2, ho2⟩
    simp only at hw2 ho2
    obtain ⟨hkl, hke⟩ := List.getElem?_eq_some_iff.1 hk
    have ho3 : o2 ++ [p] = (par l c).take (k + 1) := by rw [List.take_succ_eq_append_getElem hkl, hke, ← ho2]
    have hol : o2.length = k := by rw [ho2, List.length_take]; omega
    refine Yc.perm (yc_of (n := 13) (rec := rec) (args := [sv p]) (hf := pt db (.deferred (some [])) :: NR w2 o2 :: pt b2 (cl [w2] 25) :: S :: mps mb (kindsM l) :: hr) (by rw [hps]; rfl) hkn2 (by rw [hps]; decide) ?_) (by exact (by repeat (first | exact Pm.refl | refine Pm.cons (by repeat (first | exact Sel.here | apply Sel.there)) ?_) : Pm _ _).perm)
    intro hr2 w1
    rw [hasg, hps, hbo]
    simp only [List.cons_append, List.nil_append]
    refine cd_region (st_v (v_assign rfl) (st_nil (nx_kp [2, 4, 5] rfl (nx_xt (xt_mid rfl (by repeat (first | exact Sel.here | apply Sel.there)) (by first | rfl | assumption) ?_)))))
    refine cd_block (cd_region (st_v (v_ldy rfl ld25) ?_))
    refine st_v (v_move rfl) (st_buildSlice (cells := [sv p]) rfl Tryz.underlying25 inf9 rfl rfl (by kernel_rfl) (ltn rfl) fun b10 => ?_)
    refine st_app [nC p] rfl rfl Tryz.underlying25 inf9 rfl (by decide) (show Sel _ (NR w2 o2) _ from (by repeat (first | exact Sel.here | apply Sel.there))) (by simp [nC]) rfl (fun j u2 hu2 => at_here (rd_cl (by simpa [nC] using hu2))) (by simp [nC, Value.oneCell']) (by simp; omega) (by simp; omega) (ltn rfl) fun w3 hw3 _ => ?_
    rw [show o2.map nC ++ [nC p] = (o2 ++ [p]).map nC by simp]
    refine st_sto rfl rfl sz25 ?_
    refine st_nil (nx_kp [4] rfl (nx_xt (xt_normal_block (xt_round (by repeat (first | exact Sel.here | apply Sel.there)) (.inl ⟨rfl, (w3, o2 ++ [p]), ⟨hw3, ho3⟩, rfl⟩) ?_))))
    rw [rec_back hst hpe]
    exact (by repeat (first | exact Sub.refl _ | exact Sub.nil _ | refine Sub.sel (by repeat (first | exact Sel.here | apply Sel.there)) ?_ | apply Sub.cons))
  · exact (by repeat (first | exact Pm.refl | refine Pm.cons (by repeat (first | exact Sel.here | apply Sel.there)) ?_) : Pm _ _).perm
  · rintro u h' ⟨rfl, (⟨⟨w2, o2⟩, ⟨hw2, ho2⟩, rfl⟩ | ⟨_, _, hfalse, _⟩)⟩
    · simp only at hw2 ho2
      refine ⟨rec, _, (by repeat (first | exact Sel.here | apply Sel.there)), (by rw [hst]; simp), ?_⟩
      rw [hpe]
      dsimp only
      rw [List.take_length] at ho2
      subst ho2
      refine xt_normal_block (xt_then (cd_seq (cd_region (st_v (v_ldy rfl ld25) ?_))))
      refine st_v (v_assign rfl) (st_nil (nx_kp [4] rfl (nx_then (cd_ret ?_))))
      exact xt_retM (bs := [db]) rfl rfl ⟨hw2, rfl⟩ (by repeat (first | exact Sub.refl _ | exact Sub.nil _ | refine Sub.sel (by repeat (first | exact Sel.here | apply Sel.there)) ?_ | apply Sub.cons))
    · exact hfalse.elim
set_option maxRecDepth 100000 in
theorem Collect_ct {c1 c2 mb : Nat} (hv : sysR S v l) (hF : Fine l) (c : Nm) : Ct Tryz.prog 36 #[seqv c1 c2] [pt c1 (cl [v, .map (some mb)] 75), pt c2 (cl [sv c] 9), S, mps mb (kindsM l)] fun u h' => u.oneCell' = true ∧ h' = [NR u (par l c), pt c1 (cl [v, .map (some mb)] 75), pt c2 (cl [sv c] 9), S, mps mb (kindsM l)] := by
  obtain ⟨a, cap, rfl, _⟩ := id hv
  refine ct_of (n := 5) Tryz.func36 rfl rfl (len rfl) fun hr w0 => ?_
  refine cd_seq (cd_region (st_v (v_assign rfl) (st_nil (nx_then (cd_seq (cd_region (st_v (v_move rfl) (st_cl rfl rfl en70 rfl (AppendSeq_ct hv hF c) ?_))))))))
  rintro u h' ⟨hu, rfl⟩
  simp only [List.cons_append, List.nil_append]
  refine st_v (v_assign rfl) (st_nil (nx_kp [2] rfl (nx_then (cd_ret ?_))))
  exact xt_rt rfl ⟨hu, rfl⟩ (by (repeat (refine Sub.sel (by repeat (first | exact Sel.here | apply Sel.there)) ?_)); (repeat apply Sub.cons); first | exact Sub.refl _ | exact Sub.nil _)
end
end Go.Hr
namespace Go.Hr
open Go Go.RowKit Go.Ck Go.Proofs Go.Proofs.YtjgiaohieadeiaaGreat Fx
attribute [local irreducible] Go.Ck.Sub St Cd Xt Nx DrL LsW
theorem nms_tail {N : Res} {b o n cap : Nat} {x : Nm} {t : List Nm} (h : nmsR N (.slice (some ⟨b, o, none⟩) n cap) (x :: t)) : nmsR N (.slice (some ⟨b, if cap = 1 then o else o + 1 * 1, none⟩) t.length (cap - 1)) t := by
  obtain ⟨a, cap2, he, h2, h3, _, h5⟩ := h
  cases he
  refine ⟨_, _, rfl, by simp at h2; omega, by omega, (fun h => by cases h), fun i y hi => ?_⟩
  obtain ⟨b2, o2, us, e, h6, h7, h8⟩ := h5 (i + 1) y (by simpa using hi)
  cases e
  have hc : cap ≠ 1 := by
    have := (List.getElem?_eq_some_iff.1 hi).1
    simp at h2; omega
  refine ⟨_, _, us, rfl, h6, ?_, h8⟩
  rw [if_neg hc]
  rw [show o + 1 * 1 + i * 1 = o + (i + 1) * 1 by omega]
  exact h7
def wayC (l : Sys) (c x : Nm) (ns : List Nm) : Int := if rightE l [c, x] = 0 then (if wayOk l c x ns then 0 else 11) else rightE l [c, x]
theorem wayOk_cons {l : Sys} {c x c0 : Nm} {t : List Nm} : wayOk l c x (c0 :: t) = (!(((c0 != c)) || ((c0 :: t).getLast (by simp) != x)) && (List.range t.length).all fun i => (par l ((c0 :: t).getD i [])).contains (t.getD i [])) := by
  unfold wayOk
  rw [List.getLast?_eq_some_getLast (List.cons_ne_nil c0 t)]
  simp [bne]
section
variable {S N : Res} {v nv : Value} {l : Sys} {ns : List Nm}
theorem v_rem {P : Program} {e : Env} {h : SH} {ty : TypeId} {t t' : TypeId} {x y : Operand} {k : IntKind} {a b : Int} (hx : e.ev? x = some (.int k a)) (hy : e.ev? y = some (.int k b)) (hb : b ≠ 0) (hw : k.wrap (a.tmod b) = a.tmod b) : Vop P e h (.binOp .rem t x y t') ty (.int k (a.tmod b)) :=
  ⟨by simp, by simp, fun ρ w d pos after g hρ _ => by
    simp [execOp, hρ x _ hx, hρ y _ hy, eqGuard_rem, binOp_rem, Op.intDiv, hb, hw]⟩
def ringC (l : Sys) (ns : List Nm) : Int := if 24 < l.length ∨ 24 < ns.length then 3 else if ringOk l ns then 0 else 11
theorem ringOk_false1 {l : Sys} {ns : List Nm} (h : ns = [] ∨ ¬ ns.Nodup) : ringOk l ns = false := by
  unfold ringOk
  rcases h with rfl | h
  · rfl
  · simp [h]
theorem ringOk_all {l : Sys} {ns : List Nm} (h : ¬ (ns = [] ∨ ¬ ns.Nodup)) : ringOk l ns = (List.range ns.length).all fun i => (par l (ns.getD i [])).contains (ns.getD ((i + 1) % ns.length) []) := by
  unfold ringOk
  have h1 : ns ≠ [] := fun e => h (.inl e)
  have h2 : ns.Nodup := Classical.byContradiction fun e => h (.inr e)
  have h3 : ns.isEmpty = false := by cases ns <;> simp at h1 ⊢
  rw [h3, decide_eq_true h2]; rfl
end
end Go.Hr
namespace Go.Hr
open Go Go.RowKit Go.Ck Go.Proofs Go.Proofs.YtjgiaohieadeiaaGreat Fx
attribute [local irreducible] Go.Ck.Sub St Cd Xt Nx DrL LsW
def iV (n : Nat) : Value := .int .i64 (n : Int)
theorem nval_look (F : List (Nm × Nat)) (x : Nm) : (slook (mvG iV F) x).getD (.int .i64 0) = .int .i64 (nval F x : Int) := by
  rw [slook_mvG]
  unfold nval
  cases alook F x <;> rfl
/-- How many ways there are, if there is no error. -/
def okN (e : Int) (n : Nat) : Int := if e = 0 then (n : Int) else 0
section
variable {S N : Res} {v nv : Value} {l : Sys} {ns : List Nm}
set_option maxHeartbeats 1000000 in
set_option maxRecDepth 100000 in
theorem Ways_ct (hv : sysR S v l) (c x : Nm) : Ct Tryz.prog 18 #[v, sv c, sv x] [S] fun u h' => u = .tuple #[.int .i64 (okN (rightE l [c, x]) (ways l c x)), .int .i64 (rightE l [c, x])] ∧ h' = [S] := by
  obtain ⟨a, cap, rfl, _⟩ := id hv
  refine ct_ofM (n := 51) Tryz.func18 rfl rfl (len rfl) fun hr w0 => ?_
  refine cd_seq (cd_region (st_v (v_assign rfl) (st_v (v_assign rfl) (st_nil (nx_then (cd_seq (cd_region (st_v (v_move rfl) (st_v (v_move rfl) (st_v (v_move rfl) (st_buildSlice (cells := [sv c, sv x]) rfl Tryz.underlying25 inf9 rfl rfl (by kernel_rfl) (ltn rfl) fun b18 => ?_)))))))))))
  refine st_pv (pv_of (b := b18) (n := 2) (sz := 1) (E := 9) [nC c, nC x] rfl (by simp [nC]) rfl (by decide)) ?_
  simp only [List.cons_append, List.nil_append]
  refine st_ok (r := NR (.slice (some ⟨b18, 0, none⟩) 2 2) [c, x]) (by repeat (first | exact Sel.here | apply Sel.there)) fun hok => ?_
  refine st_cl rfl rfl en32 rfl (right_ct hv (nms_own hok) (by simp)) ?_
  rintro u h' (⟨he, rfl, rfl⟩ | ⟨he, mb, rfl, rfl⟩)
  · skip
    have hw : okN (rightE l [c, x]) (ways l c x) = 0 := if_neg he
    rw [hw]
    simp only [List.cons_append, List.nil_append]
    unfold gr0
    refine st_v (v_move rfl) (st_v (v_extract rfl rfl) (st_v (v_extract rfl rfl) (st_alc al75 fun b8 => ?_)))
    refine st_stoW rfl rfl sz75 rfl rfl ?_
    refine st_v (v_assign rfl) (st_nil (nx_kp [1, 2, 6, 7, 8, 9] rfl (nx_then (cd_seq (cd_seq (cd_region (st_v (v_move rfl) (st_v (v_neq rfl rfl) (st_nil (nx_kp [1, 2, 6, 7, 8, 9, 23] rfl (nx_then ?_)))))))))))
    rw [ne_true he]
    refine cd_true rfl ?_
    refine cd_seq (cd_region (st_v (v_move rfl) (st_v (v_assign rfl) (st_v (v_assign rfl) (st_nil (nx_kp [6, 7] rfl (nx_then (cd_ret (xt_ret_then ?_)))))))))
    exact xt_retM (bs := []) rfl rfl ⟨rfl, rfl⟩ (by repeat (first | exact Sub.refl _ | exact Sub.nil _ | refine Sub.sel (by repeat (first | exact Sel.here | apply Sel.there)) ?_ | apply Sub.cons))
  · skip
    obtain ⟨hR, hm⟩ := rightE_zero.1 he
    have hw : okN (rightE l [c, x]) (ways l c x) = (ways l c x : Int) := if_pos he
    rw [hw, he]
    have hcC := hm c (by simp)
    have hFl := hR.len
    obtain ⟨hT, hmem⟩ := above_spec hR.acyc c
    have hlen := above_len hR.acyc hcC
    simp only [List.cons_append, List.nil_append]
    refine st_v (v_move rfl) (st_v (v_extract rfl rfl) (st_v (v_extract rfl rfl) (st_alc al75 fun b8 => ?_)))
    refine st_stoW rfl rfl sz75 rfl rfl ?_
    refine st_v (v_assign rfl) (st_nil (nx_kp [1, 2, 6, 7, 8, 9] rfl (nx_then (cd_seq (cd_seq (cd_region (st_v (v_move rfl) (st_v (v_neq rfl rfl) (st_nil (nx_kp [1, 2, 6, 7, 8, 9, 23] rfl (nx_then (cd_false rfl ?_))))))))))))
    refine cd_skip (xt_then (cd_seq (cd_region (st_smakeMap (ltn rfl) fun b25 => ?_))))
    refine st_v (v_move rfl) (st_sinsert rfl rfl rfl mp73 (by repeat (first | exact Sel.here | apply Sel.there)) ?_)
    refine st_v (v_move rfl) (st_alc al73 fun b10 => ?_)
    refine st_sto rfl rfl sz73 ?_
    refine st_nil (nx_kp [1, 6, 7, 8, 10] rfl (nx_then (cd_seq (cd_seq (cd_region (st_v (v_ldn rfl ld75 rfl rds_pt) ?_))))))
    refine st_v (v_move rfl) (st_cl rfl rfl en46 rfl (above_ct hv hR.fine hR.acyc hcC) ?_)
    rintro u h' ⟨hu, rfl⟩
    simp only [List.cons_append, List.nil_append]
    generalize hO : above l c = o at *
    refine st_ok (r := NR u o) (by repeat (first | exact Sel.here | apply Sel.there)) fun hok2 => ?_
    have hno := nms_own hok2
    obtain ⟨ua, ucap, rfl, _⟩ := id hno
    refine st_v (v_len rfl Tryz.underlying25) (st_v (v_move rfl) (st_nil (nx_kp [1, 6, 7, 8, 10, 30, 31, 32] rfl (nx_then (cd_block ?_)))))
    rw [show supd [] x (Value.int .i64 1) = mvG iV [(x, 1)] from rfl]
    refine cd_marks0 (cd_loopD (σ := Nat × List (Nm × Nat) × List Nat) (fun q => q.2.2.map mk) (fun q => [(1, sv c), (8, .pointer (some ⟨b8, 0, none⟩)), (10, .pointer (some ⟨b10, 0, none⟩)), (30, .slice ua o.length ucap), (31, .int .i64 o.length), (32, .int .i64 (q.1 : Nat))]) (fun q => Res.star (marks q.2.2) :: pt b8 (cl [.slice a l.length cap, .map (some mb)] 75) :: pt b10 (cl [.map (some b25)] 73) :: mps b25 (mvG iV q.2.1) :: NR (.slice ua o.length ucap) o :: mps mb (kindsM l) :: S :: hr) (fun q => q.1 ≤ o.length ∧ WaysI l x (o.take q.1) q.2.1) (fun q => o.length - q.1) (0, [(x, 1)], []) ⟨Nat.zero_le _, WaysI.init l x⟩ rfl ⟨rfl, rfl, rfl, rfl, rfl, rfl, trivial⟩ (by (repeat (refine Sub.sel (by repeat (first | exact Sel.here | apply Sel.there)) ?_)); (repeat apply Sub.cons); first | exact Sub.refl _ | exact Sub.nil _) ?_)
    rintro ⟨i, F, bs⟩ ⟨hi, hI⟩
    simp only at hi hI
    dsimp only
    refine cd_seq (cd_region (st_v (v_lss rfl rfl) (st_nil (nx_then (cd_seq (cd_cond rfl (fun hd => ?_) (fun hd => ?_)))))))
    · skip
      have hlt : i < o.length := by simpa using hd
      obtain ⟨tb, to, tcap, htv, htrd⟩ := nms_at hno (List.getElem?_eq_getElem hlt)
      obtain ⟨hx0, hp0⟩ := tp_at hR.acyc hT hlt
      have hsucc := List.take_succ_eq_append_getElem hlt
      generalize o[i] = z at *
      refine cd_skip (xt_then (cd_seq (cd_block (cd_seq (cd_region (st_v (v_indexAddr (k := i) (congrArg some htv) rfl sl25 rfl hlt rfl) (st_v (v_ldy rfl ld9) ?_)))))))
      refine st_alc al9 fun b12 => ?_
      refine st_sto rfl rfl sz9 ?_
      refine st_nil (nx_kp [1, 8, 10, 12, 30, 31, 32] rfl (nx_then (cd_seq (cd_region (st_v (v_ldn rfl ld75 rfl rds_pt) ?_)))))
      refine st_v (v_ldy rfl ld9) ?_
      refine st_cl rfl rfl en37 rfl (parents0_ct rfl) ?_
      rintro u h' ⟨n1, n2, rfl, rfl⟩
      refine st_nil (nx_kp [1, 8, 10, 12, 30, 31, 32, 38] rfl (nx_then (cd_block ?_)))
      simp only [List.cons_append, List.nil_append]
      unfold seqv
      refine cd_range' rfl en71 fun yl db rec hst hpe hps hasg hbo hkn2 => ?_
      refine ⟨_, Ct.perm (it_ct (σ := List (Nm × Nat)) (b1 := n1) (b2 := n2) (mb := mb) (yl := yl) (c := z) (fun q => pt yl (.loop rec) :: pt db (.deferred (some [])) :: pt b12 (cl [sv z] 9) :: Res.star (marks bs) :: pt b8 (cl [.slice a l.length cap, .map (some mb)] 75) :: pt b10 (cl [.map (some b25)] 73) :: mps b25 (mvG iV q) :: NR (.slice ua o.length ucap) o :: hr)
        (fun k q => WaysK l x (o.take i) z ((par l z).take k) q) (fun _ _ => False) F (hI.start hx0) hv hR.fine.few ?_) ?_, ?_⟩
      · rintro k F2 p hk hK
        obtain ⟨hkl, hke⟩ := List.getElem?_eq_some_iff.1 hk
        have hpm := List.mem_of_getElem? hk
        have hle := hK.le hR.acyc (fun q hq => List.mem_of_mem_take hq) (by have := hR.par_few z; rw [List.length_take]; omega) hR.par_few hFl
        have h1 := hle z
        have h2 := hle p
        have hK2 := hK.next (hp0 p hpm) hx0
        rw [show (par l z).take k ++ [p] = (par l z).take (k + 1) by rw [List.take_succ_eq_append_getElem hkl, hke]] at hK2
        refine Yc.perm (yc_of (n := 51) (rec := rec) (args := [sv p]) (hf := pt db (.deferred (some [])) :: pt b12 (cl [sv z] 9) :: Res.star (marks bs) :: pt b8 (cl [.slice a l.length cap, .map (some mb)] 75) :: pt b10 (cl [.map (some b25)] 73) :: mps b25 (mvG iV F2) :: NR (.slice ua o.length ucap) o :: S :: mps mb (kindsM l) :: hr) (by rw [hps]; rfl) hkn2 (by rw [hps]; decide) ?_) (by exact (by repeat (first | exact Pm.refl | refine Pm.cons (by repeat (first | exact Sel.here | apply Sel.there)) ?_) : Pm _ _).perm)
        intro hr2 w1
        rw [hasg, hps, hbo]
        simp only [List.cons_append, List.nil_append]
        refine cd_region (st_v (v_assign rfl) (st_nil (nx_kp [10, 12, 13] rfl (nx_xt (xt_mid rfl (by repeat (first | exact Sel.here | apply Sel.there)) (by first | rfl | assumption) ?_)))))
        refine cd_block (cd_region (st_v (v_ldy rfl ld73) ?_))
        refine st_v (v_ldy rfl ld9) ?_
        refine st_v (v_is (nval_look F2 z) (v_slookup rfl rfl mp73 inf3 (by repeat (first | exact Sel.here | apply Sel.there)))) ?_
        refine st_v (v_ldy rfl ld73) ?_
        refine st_v (v_move rfl) (st_v (v_is (nval_look F2 p) (v_slookup rfl rfl mp73 inf3 (by repeat (first | exact Sel.here | apply Sel.there)))) ?_)
        refine st_v (v_add rfl rfl (by unfold I64 at *; omega)) (st_smapUpdate rfl rfl rfl mp73 (by repeat (first | exact Sel.here | apply Sel.there)) ?_)
        refine st_nil (nx_kp [] rfl (nx_xt (xt_normal_block ?_)))
        rw [show supd (mvG iV F2) z (.int .i64 ((nval F2 z : Int) + (nval F2 p : Int))) = mvG iV (aupd F2 z (nval F2 z + nval F2 p)) from supd_mvG iV F2 z (nval F2 z + nval F2 p)]
        refine xt_round (by repeat (first | exact Sel.here | apply Sel.there)) (.inl ⟨rfl, aupd F2 z (nval F2 z + nval F2 p), hK2, rfl⟩) ?_
        rw [rec_back hst hpe]
        exact (by repeat (first | exact Sub.refl _ | exact Sub.nil _ | refine Sub.sel (by repeat (first | exact Sel.here | apply Sel.there)) ?_ | apply Sub.cons))
      · exact (by repeat (first | exact Pm.refl | refine Pm.cons (by repeat (first | exact Sel.here | apply Sel.there)) ?_) : Pm _ _).perm
      · rintro u h' ⟨rfl, (⟨F2, hK, rfl⟩ | ⟨_, _, hfalse, _⟩)⟩
        · rw [List.take_length] at hK
          refine ⟨rec, _, (by repeat (first | exact Sel.here | apply Sel.there)), (by rw [hst]; simp), ?_⟩
          rw [hpe]
          dsimp only
          refine xt_normal_block (xt_normal_block (xt_then (cd_region (st_v (v_add rfl rfl (by unfold I64 at *; omega)) (st_v (v_move rfl) (st_nil (nx_kp [1, 8, 10, 30, 31, 32] rfl (nx_xt (xt_mark (by repeat (first | exact Sel.here | apply Sel.there)) (by repeat (first | exact Sel.here | apply Sel.there)) ?_)))))))))
          refine xt_againD (i + 1, F2, db :: bs) ⟨hlt, by show WaysI l x (o.take (i + 1)) F2; rw [hsucc]; exact hK.done hR.acyc⟩ (by show _ - _ < _ - _; omega) rfl ⟨rfl, rfl, rfl, rfl, rfl, rfl, trivial⟩ (by (repeat (refine Sub.sel (by repeat (first | exact Sel.here | apply Sel.there)) ?_)); (repeat apply Sub.cons); first | exact Sub.refl _ | exact Sub.nil _)
        · exact hfalse.elim
    · skip
      have hil : i = o.length := by have : ¬ i < o.length := by simpa using hd
                                    omega
      subst hil
      rw [List.take_length] at hI
      refine cd_exit (xt_exit_then (xt_exit_then (xt_exit_block (xt_then (cd_seq (cd_region (st_v (v_ldy rfl ld73) ?_)))))))
      refine st_v (v_move rfl) (st_v (v_is (nval_look F c) (v_slookup rfl rfl mp73 inf3 (by repeat (first | exact Sel.here | apply Sel.there)))) ?_)
      refine st_v (v_assign rfl) (st_v (v_assign rfl) (st_nil (nx_kp [6, 7] rfl (nx_then (cd_ret ?_)))))
      rw [hI c, if_pos ((hmem c).2 (has_refl l c))]
      refine xt_retS (bs := bs) rfl rfl ⟨rfl, rfl⟩ (by (repeat (refine Sub.sel (by repeat (first | exact Sel.here | apply Sel.there)) ?_)); (repeat apply Sub.cons); first | exact Sub.refl _ | exact Sub.nil _)
end
end Go.Hr
namespace Go.Ck
open Go
section
variable {P : Program} {r : Option Nat} {n : Nat} {w0 : World} {hr : SH} {R : Value → SH → Prop} {fn : Func} {e : Env} {h h' k : SH} {vs : List Value} {bs : List Nat} {ds : List Deferred}
theorem xt_retMV (hds : ds = bs.map mk) (hv : ResV P k e fn.results.toList vs) (hR : R (outOf vs) h') (hk : Sub (h' ++ hr) k) (hp : Sub (marks bs ++ k) h) : Xt ⟨P, r, n, ds, w0⟩ .ret (bodyPostM (Fw none) 0 P fn (Post w0 hr R)) e h :=
  fun a w hk' hh hw => by
    show LeavesInM (Fw none) 0 P fn a.tmps _ a.defers .returning w
    rw [hk'.defers, hds]
    exact leavesM bs w (hh.sub hp) hw fun w' h1 h2 => ⟨_, run_resultsV hk' hv h1, _, h', rfl, hR, h1.sub hk, h2⟩
end
end Go.Ck
namespace Go.Hr
open Go Go.RowKit Go.Ck Go.Proofs Go.Proofs.YtjgiaohieadeiaaGreat Fx
attribute [local irreducible] Go.Ck.Sub St Cd Xt Nx DrL LsW
/-- The table of the classes that are done. -/
def DoneI (o : List Nm) (D : List (Nm × Unit)) : Prop := ∀ x, (alook D x).isSome = o.contains x
theorem DoneI.look {o : List Nm} {D : List (Nm × Unit)} (h : DoneI o D) (x : Nm) : (slook (mvG tV D) x).getD (.bool false) = .bool (o.contains x) := by
  rw [slook_mvG, ← h x]
  cases alook D x <;> rfl
theorem DoneI.next {o : List Nm} {D : List (Nm × Unit)} (h : DoneI o D) (c : Nm) : DoneI (o ++ [c]) (aupd D c ()) := fun x => by
  rw [alook_upd]
  by_cases hx : x = c
  · subst hx; simp
  · rw [if_neg hx, h x]; simp [hx]
section
variable {S N : Res} {v nv : Value} {l : Sys} {ns : List Nm}
set_option maxHeartbeats 1000000 in
set_option maxRecDepth 100000 in
theorem open_ct {c7 c4 mb bd : Nat} {o : List Nm} {D : List (Nm × Unit)} (hv : sysR S v l) (hF : Fine l) (hD : DoneI o D) (c : Nm) : Reads Tryz.prog 48 #[sv c, .pointer (some ⟨c7, 0, none⟩), .pointer (some ⟨c4, 0, none⟩)] [pt c7 (cl [.map (some bd)] 100), pt c4 (cl [v, .map (some mb)] 75), mps bd (mvG tV D), S, mps mb (kindsM l)] (.bool (opn l o c)) := by
  obtain ⟨a, cap, rfl, _⟩ := id hv
  refine ct_ofM (n := 17) Tryz.func48 rfl rfl (len rfl) fun hr w0 => ?_
  refine cd_seq (cd_region (st_alc al4 fun b4 => ?_))
  refine st_nil (nx_then (cd_seq (cd_seq (cd_region (st_v (v_ldy rfl ld100) ?_)))))
  refine st_v (v_move rfl) (st_v (v_is (hD.look c) (v_slookup rfl rfl mp100 inf4 (by repeat (first | exact Sel.here | apply Sel.there)))) ?_)
  refine st_nil (nx_kp [0, 1, 2, 4, 8] rfl (nx_then ?_))
  unfold opn
  refine cd_cond rfl (fun ho => ?_) (fun ho => ?_)
  · skip
    rw [ho]
    refine cd_seq (cd_region (st_sto rfl rfl sz4 ?_))
    refine st_nil (nx_kp [4] rfl (nx_then (cd_ret (xt_ret_then (xt_retMV (bs := []) (k := pt b4 (cl [.bool false] 4) :: ([pt c7 (cl [.map (some bd)] 100), pt c4 (cl [.slice a l.length cap, .map (some mb)] 75), mps bd (mvG tV D), S, mps mb (kindsM l)] ++ hr)) rfl (.cell1 rfl ld4 (at_here (rd_cl rfl)) .nil) ⟨rfl, rfl⟩ ?_ ?_)))))
    · exact Sub.cons (Sub.refl _)
    · unfold marks
      simp only [List.cons_append, List.nil_append, List.map_nil]
      exact (by repeat (first | exact Sub.refl _ | exact Sub.nil _ | refine Sub.sel (by repeat (first | exact Sel.here | apply Sel.there)) ?_ | apply Sub.cons))
  · skip
    rw [ho, Bool.not_false, Bool.true_and]
    refine cd_skip (xt_then (cd_seq (cd_seq (cd_region (st_v (v_ldn rfl ld75 rfl rds_pt) ?_)))))
    refine st_v (v_move rfl) (st_cl rfl rfl en37 rfl (parents0_ct rfl) ?_)
    rintro u h' ⟨n1, n2, rfl, rfl⟩
    refine st_nil (nx_kp [1, 4, 11] rfl (nx_then (cd_block ?_)))
    simp only [List.cons_append, List.nil_append]
    unfold seqv
    refine cd_range' rfl en71 fun yl db rec hst hpe hps hasg hbo hkn2 => ?_
    refine ⟨_, Ct.perm (it_ct (σ := Unit) (b1 := n1) (b2 := n2) (mb := mb) (yl := yl) (c := c) (fun _ => pt yl (.loop rec) :: pt db (.deferred (some [])) :: pt b4 (cl [.bool false] 4) :: pt c7 (cl [.map (some bd)] 100) :: pt c4 (cl [.slice a l.length cap, .map (some mb)] 75) :: mps bd (mvG tV D) :: hr)
      (fun k _ => ∀ p ∈ (par l c).take k, o.contains p = true) (fun _ t => (∃ p ∈ par l c, o.contains p = false) ∧ ∃ rec', t = pt yl (.loop rec') :: pt db (.deferred (some [])) :: pt b4 (cl [.bool false] 4) :: pt c7 (cl [.map (some bd)] 100) :: pt c4 (cl [.slice a l.length cap, .map (some mb)] 75) :: mps bd (mvG tV D) :: hr ∧ rec'.state ≠ .busy ∧ rec'.pending = some .ret) () (fun p hp => by simp at hp) hv hF.few ?_) ?_, ?_⟩
    · rintro k _ p hk hal
      obtain ⟨hkl, hke⟩ := List.getElem?_eq_some_iff.1 hk
      refine Yc.perm (yc_of (n := 17) (rec := rec) (args := [sv p]) (hf := pt db (.deferred (some [])) :: pt b4 (cl [.bool false] 4) :: pt c7 (cl [.map (some bd)] 100) :: pt c4 (cl [.slice a l.length cap, .map (some mb)] 75) :: mps bd (mvG tV D) :: S :: mps mb (kindsM l) :: hr) (by rw [hps]; rfl) hkn2 (by rw [hps]; decide) ?_) (by exact (by repeat (first | exact Pm.refl | refine Pm.cons (by repeat (first | exact Sel.here | apply Sel.there)) ?_) : Pm _ _).perm)
      intro hr2 w1
      rw [hasg, hps, hbo]
      simp only [List.cons_append, List.nil_append]
      refine cd_region (st_v (v_assign rfl) (st_nil (nx_kp [1, 4, 5] rfl (nx_xt (xt_mid rfl (by repeat (first | exact Sel.here | apply Sel.there)) (by first | rfl | assumption) ?_)))))
      refine cd_block (cd_seq (cd_region (st_v (v_ldy rfl ld100) ?_)))
      refine st_v (v_move rfl) (st_v (v_is (hD.look p) (v_slookup rfl rfl mp100 inf4 (by repeat (first | exact Sel.here | apply Sel.there)))) ?_)
      refine st_v (v_not rfl) (st_nil (nx_kp [4, 16] rfl (nx_then (cd_cond rfl (fun hno => ?_) (fun hno => ?_)))))
      · skip
        have hno : o.contains p = false := by simpa using hno
        refine cd_seq (cd_region (st_sto rfl rfl sz4 ?_))
        refine st_nil (nx_kp [4] rfl (nx_then (cd_ret (xt_ret_block (xt_round_ret (by repeat (first | exact Sel.here | apply Sel.there)) (.inr ⟨rfl, _, rfl, ⟨p, List.mem_of_getElem? hk, hno⟩, { ({ rec with state := .busy } : Loop) with state := .done, pending := some .ret }, rfl, by simp, rfl⟩) ?_)))))
        exact (by repeat (first | exact Sub.refl _ | exact Sub.nil _ | refine Sub.sel (by repeat (first | exact Sel.here | apply Sel.there)) ?_ | apply Sub.cons))
      · skip
        have hno : o.contains p = true := by simpa using hno
        refine cd_skip (xt_normal_block (xt_round (by repeat (first | exact Sel.here | apply Sel.there)) (.inl ⟨rfl, (), fun q hq => ?_, rfl⟩) ?_))
        · rw [List.take_succ_eq_append_getElem hkl, hke] at hq
          rcases List.mem_append.1 hq with hq | hq
          · exact hal q hq
          · simp at hq; rw [hq]; exact hno
        · rw [rec_back hst hpe]
          exact (by repeat (first | exact Sub.refl _ | exact Sub.nil _ | refine Sub.sel (by repeat (first | exact Sel.here | apply Sel.there)) ?_ | apply Sub.cons))
    · exact (by repeat (first | exact Pm.refl | refine Pm.cons (by repeat (first | exact Sel.here | apply Sel.there)) ?_) : Pm _ _).perm
    · rintro u h' ⟨rfl, (⟨_, hal, rfl⟩ | ⟨_, _, ⟨⟨p, hp, hno⟩, rec', rfl, h2, h3⟩, rfl⟩)⟩
      · rw [List.take_length] at hal
        rw [show (par l c).all o.contains = true from List.all_eq_true.2 hal]
        refine ⟨rec, _, (by repeat (first | exact Sel.here | apply Sel.there)), (by rw [hst]; simp), ?_⟩
        rw [hpe]
        dsimp only
        refine xt_normal_block (xt_then (cd_seq (cd_region (st_sto rfl rfl sz4 ?_))))
        refine st_nil (nx_kp [4] rfl (nx_then (cd_ret (xt_retMV (bs := [db]) (k := pt b4 (cl [.bool true] 4) :: ([pt c7 (cl [.map (some bd)] 100), pt c4 (cl [.slice a l.length cap, .map (some mb)] 75), mps bd (mvG tV D), S, mps mb (kindsM l)] ++ hr)) rfl (.cell1 rfl ld4 (at_here (rd_cl rfl)) .nil) ⟨rfl, rfl⟩ ?_ ?_))))
        · exact Sub.cons (Sub.refl _)
        · unfold marks
          simp only [List.cons_append, List.nil_append, List.map_cons, List.map_nil]
          exact (by repeat (first | exact Sub.refl _ | exact Sub.nil _ | refine Sub.sel (by repeat (first | exact Sel.here | apply Sel.there)) ?_ | apply Sub.cons))
      · rw [show (par l c).all o.contains = false from List.all_eq_false.2 ⟨p, hp, by rw [hno]; decide⟩]
        refine ⟨rec', _, (by repeat (first | exact Sel.here | apply Sel.there)), h2, ?_⟩
        rw [h3]
        dsimp only
        refine cd_ret (xt_ret_block (xt_ret_then (xt_retMV (bs := [db]) (k := pt b4 (cl [.bool false] 4) :: ([pt c7 (cl [.map (some bd)] 100), pt c4 (cl [.slice a l.length cap, .map (some mb)] 75), mps bd (mvG tV D), S, mps mb (kindsM l)] ++ hr)) rfl (.cell1 rfl ld4 (at_here (rd_cl rfl)) .nil) ⟨rfl, rfl⟩ ?_ ?_)))
        · exact Sub.cons (Sub.refl _)
        · unfold marks
          simp only [List.cons_append, List.nil_append, List.map_cons, List.map_nil]
          exact (by repeat (first | exact Sub.refl _ | exact Sub.nil _ | refine Sub.sel (by repeat (first | exact Sel.here | apply Sel.there)) ?_ | apply Sub.cons))
set_option maxRecDepth 100000 in
theorem Order_ct (hv : sysR S v l) : CtN Tryz.prog 20 #[v] [S] fun u T => ∃ w, u = .tuple #[w, .int .i64 (rightE l [])] ∧ w.oneCell' = true ∧ T = NR w (okL (rightE l []) (order l)) := by
  obtain ⟨a, cap, rfl, _⟩ := id hv
  refine ct_of (n := 36) Tryz.func20 rfl rfl (len rfl) fun hr w0 => ?_
  refine cd_seq (cd_region (st_v (v_assign rfl) (st_v (v_assign rfl) (st_nil (nx_then (cd_seq (cd_region (st_v (v_move rfl) (st_vw (vw_unstar (L := [])) (st_cl rfl rfl en32 rfl (right_ct hv (N := Res.star []) (ns := []) Row.nil (by simp)) ?_))))))))))
  rintro u h' (⟨he, rfl, rfl⟩ | ⟨he, mb, rfl, rfl⟩)
  · skip
    simp only [List.cons_append, List.nil_append]
    unfold gr0
    refine st_v (v_move rfl) (st_v (v_extract rfl rfl) (st_v (v_extract rfl rfl) (st_alc al75 fun b4 => ?_)))
    refine st_stoW rfl rfl sz75 rfl rfl ?_
    refine st_v (v_assign rfl) (st_nil (nx_kp [0, 2, 3, 4, 5] rfl (nx_then (cd_seq (cd_seq (cd_region (st_v (v_move rfl) (st_v (v_neq rfl rfl) (st_nil (nx_kp [0, 2, 3, 4, 5, 16] rfl (nx_then ?_)))))))))))
    rw [ne_true he]
    refine cd_true rfl ?_
    refine cd_seq (cd_region (st_v (v_move rfl) (st_v (v_assign rfl) (st_v (v_assign rfl) (st_nil (nx_kp [2, 3] rfl (nx_then (cd_ret (xt_ret_then ?_)))))))))
    rw [okL_ne he]
    refine xt_vw (vw_nil 9 1) ?_
    exact xt_rt rfl ⟨NR (.slice none 0 0) [], rfl, _, rfl, rfl, rfl⟩ (by (repeat (refine Sub.sel (by repeat (first | exact Sel.here | apply Sel.there)) ?_)); (repeat apply Sub.cons); first | exact Sub.refl _ | exact Sub.nil _)
  · skip
    obtain ⟨hR, _⟩ := rightE_zero.1 he
    have hFl := hR.len
    rw [he, okL_eq rfl]
    simp only [List.cons_append, List.nil_append]
    refine st_v (v_move rfl) (st_v (v_extract rfl rfl) (st_v (v_extract rfl rfl) (st_alc al75 fun b4 => ?_)))
    refine st_stoW rfl rfl sz75 rfl rfl ?_
    refine st_v (v_assign rfl) (st_nil (nx_kp [0, 2, 3, 4, 5] rfl (nx_then (cd_seq (cd_seq (cd_region (st_v (v_move rfl) (st_v (v_neq rfl rfl) (st_nil (nx_kp [0, 2, 3, 4, 5, 16] rfl (nx_then (cd_false rfl ?_))))))))))))
    refine cd_skip (xt_then (cd_seq (cd_region (st_v (v_assign rfl) (st_nil (nx_kp [0, 2, 3, 4, 6] rfl (nx_then (cd_seq (cd_region (st_smakeMap (ltn rfl) fun b18 => ?_))))))))))
    refine st_alc al100 fun b7 => ?_
    refine st_sto rfl rfl sz100 ?_
    refine st_nil (nx_kp [0, 2, 3, 4, 6, 7] rfl (nx_then (cd_seq (cd_region (st_v (v_makeFunc rfl rfl) (st_v (v_assign rfl) (st_nil (nx_kp [0, 2, 3, 4, 6, 7, 8] rfl (nx_then (cd_seq (cd_seq (cd_region (st_v (v_move rfl) (st_v (v_len rfl Tryz.underlying22) (st_v (v_move rfl) (st_nil (nx_kp [2, 3, 4, 6, 7, 8, 21, 22] rfl (nx_then (cd_block ?_)))))))))))))))))))
    refine cd_vw (vw_nil 9 1) ?_
    rw [show ([] : List (Bs × Value)) = mvG tV [] from rfl]
    refine cd_lq (σ := Nat × Value × List (Nm × Unit)) (fun q => [(4, .pointer (some ⟨b4, 0, none⟩)), (6, q.2.1), (7, .pointer (some ⟨b7, 0, none⟩)), (8, .func (.func 48) #[] #[.pointer (some ⟨b7, 0, none⟩), .pointer (some ⟨b4, 0, none⟩)]), (21, .int .i64 l.length), (22, .int .i64 (q.1 : Nat))]) (fun q => NR q.2.1 (ordN l q.1) :: pt b4 (cl [.slice a l.length cap, .map (some mb)] 75) :: pt b7 (cl [.map (some b18)] 100) :: mps b18 (mvG tV q.2.2) :: mps mb (kindsM l) :: S :: hr) (fun q => q.1 ≤ l.length ∧ q.2.1.oneCell' = true ∧ DoneI (ordN l q.1) q.2.2) (fun q => l.length - q.1) (0, .slice none 0 0, []) ⟨Nat.zero_le _, rfl, fun x => rfl⟩ ?_
    rintro ⟨i, w, D⟩ ⟨hi, hw, hD⟩
    simp only at hi hw hD
    dsimp only
    have holen := ordN_len l i
    refine cd_seq (cd_region (st_v (v_lss rfl rfl) (st_nil (nx_then (cd_seq (cd_cond rfl (fun hd => ?_) (fun hd => ?_)))))))
    · skip
      refine cd_skip (xt_then (cd_seq (cd_block (cd_seq (cd_region ?_)))))
      have hlt : i < l.length := by simpa using hd
      have hne := ordN_some hR.acyc hR.uniq hlt
      have hsl : ((nms l).filter (opn l (ordN l i))).length ≤ 24 := Nat.le_trans (List.length_filter_le _ _) (by simp [nms]; omega)
      refine st_v (v_ldn rfl ld75 rfl rds_pt) ?_
      refine st_v (v_move rfl) (st_cl rfl rfl en50 rfl (ctn_star (names_ct (S := Res.star [pt b7 (cl [.map (some b18)] 100), pt b4 (cl [.slice a l.length cap, .map (some mb)] 75), mps b18 (mvG tV D), S, mps mb (kindsM l)]) (kf := 48) (cp := #[.pointer (some ⟨b7, 0, none⟩), .pointer (some ⟨b4, 0, none⟩)]) (g := opn l (ordN l i)) (mb := mb) (hv.mono (rd_in (by repeat (first | exact Sel.here | apply Sel.there)))) hR.fine en48 fun d _ => reads_one (open_ct hv hR.fine hD d))) ?_)
      rintro u h' ⟨T, rfl, hu, rfl⟩
      simp only [List.cons_append, List.nil_append]
      refine st_ok (r := NR u ((nms l).filter (opn l (ordN l i)))) (by repeat (first | exact Sel.here | apply Sel.there)) fun hok => ?_
      refine st_cl rfl rfl en49 rfl (Min_ct (nms_own hok) (by omega) hne) ?_
      rintro u2 h' ⟨rfl, rfl⟩
      simp only [List.cons_append, List.nil_append]
      generalize hmn : minN ((nms l).filter (opn l (ordN l i))) = z at *
      have hord : ordN l (i + 1) = ordN l i ++ [z] := by rw [ordN, hmn]
      refine st_v (v_assign rfl) (st_nil (nx_kp [4, 6, 7, 8, 9, 21, 22] rfl (nx_then (cd_seq (cd_region (st_v (v_ldy rfl ld100) ?_))))))
      refine st_v (v_move rfl) (st_smapUpdate rfl rfl rfl mp100 (by repeat (first | exact Sel.here | apply Sel.there)) ?_)
      refine st_nil (nx_kp [4, 6, 7, 8, 9, 21, 22] rfl (nx_then (cd_region (st_v (v_move rfl) (st_v (v_move rfl) ?_)))))
      rw [show supd (mvG tV D) z (.bool true) = mvG tV (aupd D z ()) from supd_mvG tV D z ()]
      refine st_buildSlice (cells := [sv z]) rfl Tryz.underlying25 inf9 rfl rfl (by kernel_rfl) (ltn rfl) fun b32 => ?_
      refine st_app [nC z] rfl rfl Tryz.underlying25 inf9 rfl (by decide) (show Sel _ (NR w (ordN l i)) _ from (by repeat (first | exact Sel.here | apply Sel.there))) (by simp [nC]) rfl (fun j u2 hu2 => at_here (rd_cl (by simpa [nC] using hu2))) (by simp [nC, Value.oneCell']) (by rw [List.length_map]; omega) (by rw [List.length_map]; omega) (ltn rfl) fun w3 hw3 _ => ?_
      rw [show (ordN l i).map nC ++ [nC z] = (ordN l (i + 1)).map nC by rw [hord]; simp]
      refine st_v (v_assign rfl) (st_nil (nx_kp [4, 6, 7, 8, 21, 22] rfl (nx_xt (xt_normal_block (xt_then (cd_region (st_v (v_add rfl rfl (by unfold I64 at *; omega)) (st_v (v_move rfl) (st_nil (nx_kp [4, 6, 7, 8, 21, 22] rfl (nx_xt ?_)))))))))))
      refine xt_aq (i + 1, w3, aupd D z ()) ⟨hlt, hw3, by show DoneI (ordN l (i + 1)) (aupd D z ()); rw [hord]; exact hD.next z⟩ (by show _ - _ < _ - _; omega)
    · skip
      have hil : i = l.length := by have : ¬ i < l.length := by simpa using hd
                                    omega
      subst hil
      refine cd_exit (xt_exit_then (xt_exit_then (xt_exit_block (xt_then (cd_seq (cd_region (st_v (v_move rfl) (st_v (v_assign rfl) (st_v (v_assign rfl) (st_nil (nx_kp [2, 3] rfl (nx_then (cd_ret ?_)))))))))))))
      exact xt_rt rfl ⟨_, rfl, _, rfl, hw, rfl⟩ (by (repeat (refine Sub.sel (by repeat (first | exact Sel.here | apply Sel.there)) ?_)); (repeat apply Sub.cons); first | exact Sub.refl _ | exact Sub.nil _)
end
end Go.Hr
namespace Go.Hr
open Go Go.RowKit Go.Ck Go.Proofs Go.Proofs.YtjgiaohieadeiaaGreat Fx
def lays190_ren : Go.Shelf.Ren := {
  f := fun | 190 => 52 | 125 => 77 | 258 => 76 | 128 => 104 | 129 => 105 | 302 => 95 | 303 => 96 | 304 => 97 | 305 => 98 | 306 => 99 | 307 => 100 | 308 => 101 | 309 => 102 | 310 => 103 | 333 => 115 | 329 => 116 | 330 => 117 | 334 => 118 | 335 => 119 | 336 => 106 | 344 => 125 | n => n
  t := fun | 31 => 25 | 9 => 9 | 3 => 3 | 46 => 124 | 0 => 0 | 51 => 159 | 53 => 161 | 4 => 4 | 183 => 153 | 182 => 152 | 131 => 95 | 5 => 5 | 218 => 174 | 222 => 178 | 228 => 189 | 229 => 190 | n => n
  g := fun n => n }
theorem lays190 : Go.Proofs.Lays.n190 Tryz.prog lays190_ren := {
  mixed := rfl
  f125 := Tryz.func77.trans (congrArg some (by kernel_rfl))
  f128 := Tryz.func104.trans (congrArg some (by kernel_rfl))
  f129 := Tryz.func105.trans (congrArg some (by kernel_rfl))
  f190 := Tryz.func52.trans (congrArg some (by kernel_rfl))
  f258 := Tryz.func76.trans (congrArg some (by kernel_rfl))
  f302 := Tryz.func95.trans (congrArg some (by kernel_rfl))
  f303 := Tryz.func96.trans (congrArg some (by kernel_rfl))
  f304 := Tryz.func97.trans (congrArg some (by kernel_rfl))
  f305 := Tryz.func98.trans (congrArg some (by kernel_rfl))
  f306 := Tryz.func99.trans (congrArg some (by kernel_rfl))
  f307 := Tryz.func100.trans (congrArg some (by kernel_rfl))
  f308 := Tryz.func101.trans (congrArg some (by kernel_rfl))
  f309 := Tryz.func102.trans (congrArg some (by kernel_rfl))
  f310 := Tryz.func103.trans (congrArg some (by kernel_rfl))
  f329 := Tryz.func116.trans (congrArg some (by kernel_rfl))
  f330 := Tryz.func117.trans (congrArg some (by kernel_rfl))
  f333 := Tryz.func115.trans (congrArg some (by kernel_rfl))
  f334 := Tryz.func118.trans (congrArg some (by kernel_rfl))
  f335 := Tryz.func119.trans (congrArg some (by kernel_rfl))
  f336 := Tryz.func106.trans (congrArg some (by kernel_rfl))
  f344 := Tryz.func125.trans (congrArg some (by kernel_rfl))
  t0 := Tryz.underlying0
  a0 := Tryz.isAgg0
  z0 := Tryz.sizeOf0
  v0 := Tryz.zeroValue0
  t3 := Tryz.underlying3
  a3 := Tryz.isAgg3
  z3 := Tryz.sizeOf3
  v3 := Tryz.zeroValue3
  t4 := Tryz.underlying4
  a4 := Tryz.isAgg4
  z4 := Tryz.sizeOf4
  v4 := Tryz.zeroValue4
  t5 := Tryz.underlying5
  a5 := Tryz.isAgg5
  z5 := Tryz.sizeOf5
  v5 := Tryz.zeroValue5
  t9 := Tryz.underlying9
  a9 := Tryz.isAgg9
  z9 := Tryz.sizeOf9
  v9 := Tryz.zeroValue9
  t31 := Tryz.underlying25
  a31 := Tryz.isAgg25
  z31 := Tryz.sizeOf25
  v31 := Tryz.zeroValue25
  t46 := Tryz.underlying124
  a46 := Tryz.isAgg124
  z46 := Tryz.sizeOf124
  v46 := Tryz.zeroValue124
  t51 := Tryz.underlying159
  a51 := Tryz.isAgg159
  z51 := Tryz.sizeOf159
  v51 := Tryz.zeroValue159
  t53 := Tryz.underlying161
  a53 := Tryz.isAgg161
  z53 := Tryz.sizeOf161
  v53 := Tryz.zeroValue161
  t131 := Tryz.underlying95
  a131 := Tryz.isAgg95
  z131 := Tryz.sizeOf95
  v131 := Tryz.zeroValue95
  t182 := Tryz.underlying152
  a182 := Tryz.isAgg152
  z182 := Tryz.sizeOf152
  v182 := Tryz.zeroValue152
  t183 := Tryz.underlying153
  a183 := Tryz.isAgg153
  z183 := Tryz.sizeOf153
  v183 := Tryz.zeroValue153
  t218 := Tryz.underlying174
  a218 := Tryz.isAgg174
  z218 := Tryz.sizeOf174
  v218 := Tryz.zeroValue174
  t222 := Tryz.underlying178
  a222 := Tryz.isAgg178
  z222 := Tryz.sizeOf178
  v222 := Tryz.zeroValue178
  t228 := Tryz.underlying189
  a228 := Tryz.isAgg189
  z228 := Tryz.sizeOf189
  v228 := Tryz.zeroValue189
  t229 := Tryz.underlying190
  a229 := Tryz.isAgg190
  z229 := Tryz.sizeOf190
  v229 := Tryz.zeroValue190 }
theorem bytes_lt : ∀ a b : Nm, lt a b = decide (a < b)
  | [], [] => by simp [lt, Op.bytesLess]
  | [], _ :: _ => by simp [lt, Op.bytesLess]
  | _ :: _, [] => by simp [lt, Op.bytesLess]
  | a :: x, b :: y => by
    have ih := bytes_lt x y
    unfold lt at ih ⊢
    rw [Op.bytesLess, ih, Bool.eq_iff_iff]
    simp only [Bool.or_eq_true, Bool.and_eq_true, decide_eq_true_eq, beq_iff_eq, List.cons_lt_cons_iff, UInt8.lt_iff_toNat_lt]
def leB (x y : Nm) : Bool := decide (x ≤ y)
theorem leB_lt (x y : Nm) : leB x y = !lt y x := by
  unfold leB
  rw [bytes_lt, ← decide_not]
  rfl
theorem sort_srt {xs : List Nm} (hn : xs.Nodup) : (xs.mergeSort fun x y => decide (x ≤ y)) = srt xs := by
  have hp := List.mergeSort_perm xs leB
  refine srt_eq (hp.nodup_iff.2 hn) ?_ fun x => hp.mem_iff
  have := List.pairwise_mergeSort (le := leB) (fun a b c h1 h2 => ?_) (fun a b => ?_) xs
  · exact this.imp fun {a b} h => by rw [leB_lt] at h; simpa using h
  · rw [leB_lt] at h1 h2 ⊢
    simp only [Bool.not_eq_true'] at h1 h2 ⊢
    cases h : lt c a with
    | false => rfl
    | true =>
      rcases lt_total a b with h3 | h3 | h3
      · rw [lt_trans h h3] at h2; cases h2
      · rw [h3, h2] at h; cases h
      · rw [h1] at h3; cases h3
  · rw [leB_lt, leB_lt]
    cases h : lt b a with
    | false => simp
    | true => rw [lt_asymm h]; simp
theorem put_cells {ys xs : List Nm} {pre j : List Value} (hl : ys.length = xs.length) : Sort.putCells encStr pre.length ys.toArray (pre ++ (xs.map sv ++ j)).toArray = (pre ++ (ys.map sv ++ j)).toArray := by
  apply Array.ext
  · simp [Sort.putCells, hl]
  · intro k h1 h2
    simp only [Sort.putCells, Array.getElem_mapIdx, List.size_toArray, List.getElem_toArray, List.getElem_append, List.length_map, List.getElem_map]
    by_cases hk : k < pre.length
    · have h3 : ¬ (pre.length ≤ k ∧ k < pre.length + ys.length) := by omega
      simp only [hk, h3, dite_true, if_false]
    · by_cases hk2 : k - pre.length < ys.length
      · have h3 : pre.length ≤ k ∧ k < pre.length + ys.length := by omega
        simp only [hk, h3, hk2, dite_true, dite_false, if_true, and_self]
        rw [getElem!_pos ys.toArray _ (by simpa using hk2)]
        simp [encStr]
      · have h3 : ¬ (pre.length ≤ k ∧ k < pre.length + ys.length) := by omega
        have h4 : ¬ k - pre.length < xs.length := by omega
        simp only [hk, hk2, h4, dite_false, hl]
        rw [hl] at h3
        rw [if_neg h3]
section
variable {v : Value}
theorem Sort_ct {xs : List Nm} (hn : xs.Nodup) (hl : xs.length ≤ 1099511627776) : Ct Tryz.prog 52 #[v] [NR v xs] fun u h' => u = .tuple #[] ∧ h' = [NR v (srt xs)] := by
  intro hr w hh
  have hv := hh.1
  rcases hv.2 with ⟨rfl, h0⟩ | ⟨b, o, cp, pre, j, rfl, hb, hpre, hc1, hc2, hc3⟩
  · have hx : xs = [] := List.map_eq_nil_iff.1 h0
    subst hx
    exact (Any.slices_Sort_string_none lays190 none 0 w).mono fun e w' ⟨h1, h2⟩ => ⟨.tuple #[], _, h1, ⟨rfl, rfl⟩, by rw [h2]; exact hh, by rw [h2]; exact Same.refl w⟩
  · rw [flat_nC] at hb
    have hb : w.heap[b]? = some (cl (pre ++ (xs.map sv ++ j)) 9) := hb
    have hlt : b < w.heap.size := (Array.getElem?_eq_some_iff.1 hb).1
    have hH : Sort.Holds encStr w b o xs.toArray := fun i hi => by
      have hi : i < xs.length := by simpa using hi
      refine ⟨?_, by simp [World.frozen?, hb, cl]⟩
      rw [getElem!_pos xs.toArray i (by simpa using hi)]
      simp only [World.cell?, hb, cl, Option.isSome_none, Bool.false_eq_true, if_false, List.getElem?_toArray]
      rw [← hpre, List.getElem?_append_right (by omega), Nat.add_sub_cancel_left, List.getElem?_append_left (by simpa using hi), List.getElem?_map, List.getElem?_eq_getElem hi]
      rfl
    have hc := Any.slices_Sort_string lays190 b o cp xs w hH hlt (by omega)
    rw [show (xs.map nC).length = xs.length by simp] at *
    refine Calls.mono hc fun e w' ⟨h1, n, os, h2⟩ => ⟨.tuple #[], _, h1, ⟨rfl, rfl⟩, ?_, ?_⟩
    all_goals rw [sort_srt hn] at h2
    · have hsl : (srt xs).length = xs.length := by
        rw [← sort_srt hn]; exact List.length_mergeSort xs
      have hb' : w'.heap[b]? = some (cl (pre ++ ((srt xs).map sv ++ j)) 9) := by
        rw [h2]
        show ((w.heap.modify b (Sort.onCells (Sort.putCells encStr o (srt xs).toArray))) ++ os)[b]? = _
        rw [Array.getElem?_append_left (by simpa using hlt), Array.getElem?_modify, if_pos rfl, hb]
        simp only [Option.map_some, Sort.onCells, cl]
        rw [← hpre, put_cells hsl]
      have ho : ∀ c, c ≠ b → c < w.heap.size → w'.heap[c]? = w.heap[c]? := fun c hc hlt2 => by
        rw [h2]
        show ((w.heap.modify b (Sort.onCells (Sort.putCells encStr o (srt xs).toArray))) ++ os)[c]? = _
        rw [Array.getElem?_append_left (by simpa using hlt2), Array.getElem?_modify, if_neg (fun e => hc e.symm)]
      refine ⟨⟨by simp [nC], .inr ⟨b, o, cp, pre, j, by simp [hsl], by rw [flat_nC]; exact hb', hpre, by simpa [hsl] using hc1, hc2, ?_⟩⟩, fun c ⟨o', m', cp', he⟩ => ?_, HoldsF.loc hh.2.2 fun c hc => ?_⟩
      · rw [flat_nC]
        rw [flat_nC] at hc3
        simpa [hsl] using hc3
      · cases he
        exact hh.2.1 b ⟨o, _, cp, rfl⟩
      · exact (ho c (fun e => hh.2.1 b ⟨o, _, cp, rfl⟩ (e ▸ hc)) (Holds.lt (h := hr) hh.2.2 hc)).symm
    · refine ⟨by rw [h2]; rfl, by rw [h2]; rfl, by rw [h2]; rfl, ?_, fun a ha => ?_⟩
      · rw [h2]
        show w.heap.size ≤ ((w.heap.modify b (Sort.onCells (Sort.putCells encStr o (srt xs).toArray))) ++ os).size
        simp
      · rw [h2]
        unfold World.frozen?
        have : (Sort.grow (Sort.putRow encStr (Sort.ahead w n) b o (srt xs).toArray) os).heap[a.block]? = (w.heap[a.block]?).map fun q => if b = a.block then Sort.onCells (Sort.putCells encStr o (srt xs).toArray) q else q := by
          show ((w.heap.modify b (Sort.onCells (Sort.putCells encStr o (srt xs).toArray))) ++ os)[a.block]? = _
          rw [Array.getElem?_append_left (by simpa using ha), Array.getElem?_modify]
          split
          · rename_i e; subst e; simp
          · simp [*]
        rw [this]
        by_cases e : b = a.block
        · simp only [e, if_true]
          rw [← e, hb]
          rfl
        · simp [e]
end
end Go.Hr
namespace Go.Hr
open Go Go.RowKit Go.Ck Go.Proofs Go.Proofs.YtjgiaohieadeiaaGreat Fx
attribute [local irreducible] Go.Ck.Sub St Cd Xt Nx DrL LsW
section
variable {S N T : Res} {v nv : Value} {l : Sys} {ns : List Nm} {kf : FuncId} {cp : Array Value} {g : Nm → Bool}
set_option maxRecDepth 100000 in
theorem filter_ct {xs : List Nm} (hv : nmsR S v xs) (hl : xs.length ≤ 1099511627776) (hE : Ck.Enters Tryz.prog kf) (hf : ∀ x ∈ xs, Reads Tryz.prog kf (#[] ++ [sv x].toArray ++ cp) [S] (.bool (g x))) : CtN Tryz.prog 53 #[v, .func (.func kf) #[] cp] [S] fun u T => u.oneCell' = true ∧ T = NR u (xs.filter g) := by
  obtain ⟨a, cap, rfl, _⟩ := id hv
  refine ct_of (n := 23) Tryz.func53 rfl rfl (len rfl) fun hr w0 => ?_
  refine cd_seq (cd_region (st_v (v_assign rfl) (st_nil (nx_then (cd_seq (cd_region (st_v (v_assign rfl) (st_nil (nx_then (cd_seq (cd_seq (cd_region (st_v (v_move rfl) (st_v (v_len rfl Tryz.underlying25) (st_v (v_move rfl) ?_)))))))))))))))
  refine st_nil (nx_kp [1, 4, 5, 8, 9, 10] rfl (nx_then (cd_block (cd_vw (vw_nil 9 1) (cd_lq (σ := Value × Nat) (fun q => [(1, .func (.func kf) #[] cp), (5, q.1), (8, .slice a xs.length cap), (9, .int .i64 xs.length), (10, .int .i64 (q.2 : Nat))]) (fun q => NR q.1 ((xs.take q.2).filter g) :: S :: hr) (fun q => q.1.oneCell' = true ∧ q.2 ≤ xs.length) (fun q => xs.length - q.2) (.slice none 0 0, 0) ⟨rfl, Nat.zero_le _⟩ ?_)))))
  rintro ⟨w, i⟩ ⟨hw, hi⟩
  simp only at hw hi
  dsimp only
  refine cd_seq (cd_region (st_v (v_lss rfl rfl) (st_nil (nx_then (cd_seq (cd_cond rfl (fun hd => ?_) (fun hd => ?_)))))))
  · skip
    have hlt : i < xs.length := by simpa using hd
    obtain ⟨b, o, cap2, hv2, hrd⟩ := nms_at hv (List.getElem?_eq_getElem hlt)
    have hmem : xs[i] ∈ xs := List.getElem_mem hlt
    have hll : ((xs.take i).filter g).length ≤ i := Nat.le_trans (List.length_filter_le _ _) (by rw [List.length_take]; omega)
    have ht : (xs.take (i + 1)).filter g = (xs.take i).filter g ++ (if g xs[i] = true then [xs[i]] else []) := by
      rw [List.take_succ_eq_append_getElem hlt, List.filter_append]
      congr 1
      by_cases hg : g xs[i] = true <;> simp [hg]
    refine cd_skip (xt_then (cd_seq (cd_block (cd_seq (cd_region (st_v (v_indexAddr (k := i) (congrArg some hv2) rfl sl25 rfl hlt rfl) (st_v (v_ldy rfl ld9) ?_)))))))
    refine st_v (v_assign rfl) (st_nil (nx_kp [1, 5, 7, 8, 9, 10] rfl (nx_then (cd_seq (cd_region (st_v (v_move rfl) (st_v (v_move rfl) (st_clr rfl rfl hE rfl ((hf xs[i] hmem)) ?_))))))))
    refine st_nil (nx_kp [1, 5, 7, 8, 9, 10, 16] rfl (nx_then (cd_cond rfl (fun he => ?_) (fun he => ?_))))
    · skip
      rw [if_pos he] at ht
      refine cd_region (st_v (v_move rfl) (st_v (v_move rfl) (st_buildSlice (cells := [sv xs[i]]) rfl Tryz.underlying25 inf9 rfl rfl (by kernel_rfl) (ltn rfl) fun b19 => ?_)))
      refine st_app [nC xs[i]] rfl rfl Tryz.underlying25 inf9 rfl (by decide) (show Sel _ (NR w ((xs.take i).filter g)) _ from (by repeat (first | exact Sel.here | apply Sel.there))) (by simp [nC]) rfl (fun j u2 hu2 => at_here (rd_cl (by simpa [nC] using hu2))) (by simp [nC, Value.oneCell']) (by rw [List.length_map]; omega) (by rw [List.length_map]; omega) (ltn rfl) fun w3 hw3 _ => ?_
      rw [show ((xs.take i).filter g).map nC ++ [nC xs[i]] = ((xs.take (i + 1)).filter g).map nC by rw [ht]; simp]
      refine st_v (v_assign rfl) (st_nil (nx_kp [1, 5, 8, 9, 10] rfl (nx_xt (xt_normal_block (xt_then (cd_region (st_v (v_add rfl rfl (by unfold I64 at *; omega)) (st_v (v_move rfl) (st_nil (nx_kp [1, 5, 8, 9, 10] rfl (nx_xt ?_)))))))))))
      refine xt_aq (w3, i + 1) ⟨hw3, hlt⟩ (by show _ - _ < _ - _; omega)
    · skip
      rw [if_neg (by rw [he]; decide), List.append_nil] at ht
      refine cd_skip (xt_normal_block (xt_then (cd_region (st_v (v_add rfl rfl (by unfold I64 at *; omega)) (st_v (v_move rfl) (st_nil (nx_kp [1, 5, 8, 9, 10] rfl (nx_xt ?_))))))))
      rw [← ht]
      refine xt_aq (w, i + 1) ⟨hw, hlt⟩ (by show _ - _ < _ - _; omega)
  · skip
    have hil : i = xs.length := by have : ¬ i < xs.length := by simpa using hd
                                   omega
    subst hil
    rw [List.take_length]
    refine cd_exit (xt_exit_then (xt_exit_then (xt_exit_block (xt_then (cd_seq (cd_region (st_v (v_move rfl) (st_v (v_assign rfl) (st_nil (nx_kp [4] rfl (nx_then (cd_ret ?_))))))))))))
    exact xt_rt rfl ⟨_, rfl, hw, rfl⟩ (by (repeat (refine Sub.sel (by repeat (first | exact Sel.here | apply Sel.there)) ?_)); (repeat apply Sub.cons); first | exact Sub.refl _ | exact Sub.nil _)
set_option maxRecDepth 100000 in
theorem least1_ct {b8 b5 mb : Nat} (hv : sysR S v l) (hR : Right l) {b : Nm} (hb : isC l b = true) (x : Nm) : Reads Tryz.prog 54 #[sv x, .pointer (some ⟨b8, 0, none⟩), .pointer (some ⟨b5, 0, none⟩)] [T, pt b8 (cl [v, .map (some mb)] 75), pt b5 (cl [sv b] 9), S, mps mb (kindsM l)] (.bool (has l b x)) := by
  obtain ⟨a, cap, rfl, _⟩ := id hv
  refine ct_of (n := 9) Tryz.func54 rfl rfl (len rfl) fun hr w0 => ?_
  refine cd_seq (cd_region (st_v (v_assign rfl) (st_nil (nx_then (cd_seq (cd_region (st_v (v_ldn rfl ld75 rfl rds_pt) ?_)))))))
  refine st_v (v_ldy rfl ld9) ?_
  refine st_v (v_move rfl) (st_cl rfl rfl en55 rfl (has_ct hv hR.fine hR.acyc hb x) ?_)
  rintro u h' ⟨rfl, rfl⟩
  simp only [List.cons_append, List.nil_append]
  refine st_v (v_assign rfl) (st_nil (nx_kp [4] rfl (nx_then (cd_ret ?_))))
  exact xt_rt rfl ⟨rfl, rfl⟩ (by (repeat (refine Sub.sel (by repeat (first | exact Sel.here | apply Sel.there)) ?_)); (repeat apply Sub.cons); first | exact Sub.refl _ | exact Sub.nil _)
theorem hasR {mb : Nat} (hv : sysR S v l) (hR : Right l) {c : Nm} (hc : isC l c = true) (x : Nm) : Reads Tryz.prog 55 #[.agg #[v, .map (some mb)], sv c, sv x] [S, mps mb (kindsM l)] (.bool (has l c x)) := has_ct hv hR.fine hR.acyc hc x
set_option maxRecDepth 100000 in
theorem least3_ct {c3 b8 mb : Nat} (hv : sysR S v l) (hR : Right l) {d : Nm} (hd : isC l d = true) (c : Nm) : Reads Tryz.prog 58 #[sv d, .pointer (some ⟨c3, 0, none⟩), .pointer (some ⟨b8, 0, none⟩)] [T, pt c3 (cl [sv c] 9), pt b8 (cl [v, .map (some mb)] 75), S, mps mb (kindsM l)] (.bool (d != c && has l d c)) := by
  obtain ⟨a, cap, rfl, _⟩ := id hv
  refine ct_of (n := 14) Tryz.func58 rfl rfl (len rfl) fun hr w0 => ?_
  refine cd_seq (cd_region (st_v (v_assign rfl) (st_nil (nx_then (cd_seq (cd_region (st_v (v_move rfl) (st_v (v_ldy rfl ld9) ?_))))))))
  refine st_v (v_sneq rfl rfl) (st_v (v_move rfl) (st_cut (k := 9) (d := 13) (v := .bool (d != c && has l d c)) (fun hcut => bool_want (b := (d != c)) true (fun hg => ?_) (fun hg => ?_)) ?_))
  · refine st_sk rfl rfl hg ?_
    refine st_sk rfl rfl hg ?_
    refine st_sk rfl rfl hg ?_
    refine st_sk rfl rfl hg ?_
    refine st_v (v_pick_false (bool_ev rfl hg) rfl) ?_
    exact hcut _ (ssub_head (by first | rfl | (rw [hg]; rfl) | simp_all) (ssub_skip rfl (ssub_skip rfl (ssub_skip rfl (ssub_skip rfl (ssub_refl))))))
  · skip
    refine st_vg rfl (bool_get rfl hg) (v_ldn rfl ld75 rfl rds_pt) ?_
    refine st_vg rfl (bool_get rfl hg) (v_move rfl) (st_vg rfl (bool_get rfl hg) (v_ldy rfl ld9) ?_)
    refine st_clrg rfl (bool_get rfl hg) rfl rfl en55 rfl (hasR hv hR hd c) ?_
    refine st_v (v_pick_true (bool_ev rfl hg) rfl) ?_
    exact hcut _ (ssub_head (by first | rfl | (rw [hg]; rfl) | simp_all) (ssub_skip rfl (ssub_skip rfl (ssub_skip rfl (ssub_skip rfl (ssub_refl))))))
  refine st_v (v_assign rfl) (st_nil (nx_kp [4] rfl (nx_then (cd_ret ?_))))
  exact xt_rt rfl ⟨rfl, rfl⟩ (by (repeat (refine Sub.sel (by repeat (first | exact Sel.here | apply Sel.there)) ?_)); (repeat apply Sub.cons); first | exact Sub.refl _ | exact Sub.nil _)
set_option maxRecDepth 100000 in
theorem least2_ct {b10 b8 mb : Nat} {cs : List Nm} {cv : Value} (hv : sysR S v l) (hR : Right l) (hc : nmsR T cv cs) (hl : cs.length ≤ 1099511627776) (hcs : ∀ x ∈ cs, isC l x = true) (c : Nm) : Reads Tryz.prog 56 #[sv c, .pointer (some ⟨b10, 0, none⟩), .pointer (some ⟨b8, 0, none⟩)] [T, pt b10 (cl [cv] 25), pt b8 (cl [v, .map (some mb)] 75), S, mps mb (kindsM l)] (.bool (lowest l cs c)) := by
  obtain ⟨ca, ccap, rfl, _⟩ := id hc
  refine ct_of (n := 9) Tryz.func56 rfl rfl (len rfl) fun hr w0 => ?_
  refine cd_seq (cd_region (st_bx rfl rfl fun b3 => ?_))
  refine st_v (v_assign rfl) (st_nil (nx_kp [1, 2, 3, 4] rfl (nx_then (cd_seq (cd_region (st_v (v_ldy rfl ld25) ?_))))))
  refine st_v (v_makeFunc rfl rfl) (st_cl rfl rfl en57 rfl (reads_star (ContainsFuncN_ct (S := Res.star [T, pt b3 (cl [sv c] 9), pt b8 (cl [v, .map (some mb)] 75), S, mps mb (kindsM l)]) (kf := 58) (cp := #[.pointer (some ⟨b3, 0, none⟩), .pointer (some ⟨b8, 0, none⟩)]) (g := fun d => d != c && has l d c) (hc.mono (rd_in Sel.here)) hl en58 fun d hd => reads_one (least3_ct hv hR (hcs d hd) c))) ?_)
  rintro u2 h' ⟨rfl, rfl⟩
  simp only [List.cons_append, List.nil_append]
  refine st_v (v_not rfl) (st_v (v_assign rfl) (st_nil (nx_kp [4] rfl (nx_then (cd_ret ?_)))))
  exact xt_rt rfl ⟨rfl, rfl⟩ (by (repeat (refine Sub.sel (by repeat (first | exact Sel.here | apply Sel.there)) ?_)); (repeat apply Sub.cons); first | exact Sub.refl _ | exact Sub.nil _)
set_option maxRecDepth 100000 in
theorem Least_ct (hv : sysR S v l) (x y : Nm) : CtN Tryz.prog 22 #[v, sv x, sv y] [S] fun u T => ∃ w, u = .tuple #[w, .int .i64 (rightE l [x, y])] ∧ w.oneCell' = true ∧ T = NR w (okL (rightE l [x, y]) (least l x y)) := by
  obtain ⟨a, cap, rfl, _⟩ := id hv
  refine ct_of (n := 34) Tryz.func22 rfl rfl (len rfl) fun hr w0 => ?_
  refine cd_seq (cd_region (st_bx rfl rfl fun b5 => ?_))
  refine st_v (v_assign rfl) (st_v (v_assign rfl) (st_nil (nx_kp [0, 1, 5, 6, 7] rfl (nx_then (cd_seq (cd_region (st_v (v_move rfl) (st_v (v_move rfl) (st_v (v_ldy rfl ld9) ?_)))))))))
  refine st_buildSlice (cells := [sv x, sv y]) rfl Tryz.underlying25 inf9 rfl rfl (by kernel_rfl) (ltn rfl) fun b16 => ?_
  refine st_pv (pv_of (b := b16) (n := 2) (sz := 1) (E := 9) [nC x, nC y] rfl (by simp [nC]) rfl (by decide)) ?_
  simp only [List.cons_append, List.nil_append]
  refine st_ok (r := NR (.slice (some ⟨b16, 0, none⟩) 2 2) [x, y]) (by repeat (first | exact Sel.here | apply Sel.there)) fun hok => ?_
  refine st_cl rfl rfl en32 rfl (right_ct hv (nms_own hok) (by simp)) ?_
  rintro u h' (⟨he, rfl, rfl⟩ | ⟨he, mb, rfl, rfl⟩)
  · skip
    simp only [List.cons_append, List.nil_append]
    unfold gr0
    refine st_v (v_move rfl) (st_v (v_extract rfl rfl) (st_v (v_extract rfl rfl) (st_alc al75 fun b8 => ?_)))
    refine st_stoW rfl rfl sz75 rfl rfl ?_
    refine st_v (v_assign rfl) (st_nil (nx_kp [1, 5, 6, 7, 8, 9] rfl (nx_then (cd_seq (cd_seq (cd_region (st_v (v_move rfl) (st_v (v_neq rfl rfl) (st_nil (nx_kp [1, 5, 6, 7, 8, 9, 21] rfl (nx_then ?_)))))))))))
    rw [ne_true he]
    refine cd_true rfl ?_
    refine cd_seq (cd_region (st_v (v_move rfl) (st_v (v_assign rfl) (st_v (v_assign rfl) (st_nil (nx_kp [6, 7] rfl (nx_then (cd_ret (xt_ret_then ?_)))))))))
    rw [okL_ne he]
    refine xt_vw (vw_nil 9 1) ?_
    exact xt_rt rfl ⟨NR (.slice none 0 0) [], rfl, _, rfl, rfl, rfl⟩ (by (repeat (refine Sub.sel (by repeat (first | exact Sel.here | apply Sel.there)) ?_)); (repeat apply Sub.cons); first | exact Sub.refl _ | exact Sub.nil _)
  · skip
    obtain ⟨hR, hm⟩ := rightE_zero.1 he
    have hFl := hR.len
    have hxC := hm x (by simp)
    have hyC := hm y (by simp)
    have hlen := above_len hR.acyc hxC
    have hcC : ∀ z ∈ common l x y, isC l z = true := fun z hz => has_isC hxC ((common_iff hR.acyc).1 hz).1
    have hcl : (common l x y).length ≤ 24 := Nat.le_trans (List.length_filter_le _ _) (by omega)
    have hcn : (common l x y).Nodup := ((above_spec hR.acyc x).1.nodup).filter _
    have hln : ((common l x y).filter (lowest l (common l x y))).Nodup := hcn.filter _
    have hll : ((common l x y).filter (lowest l (common l x y))).length ≤ 24 := Nat.le_trans (List.length_filter_le _ _) hcl
    rw [he, okL_eq rfl]
    simp only [List.cons_append, List.nil_append]
    refine st_v (v_move rfl) (st_v (v_extract rfl rfl) (st_v (v_extract rfl rfl) (st_alc al75 fun b8 => ?_)))
    refine st_stoW rfl rfl sz75 rfl rfl ?_
    refine st_v (v_assign rfl) (st_nil (nx_kp [1, 5, 6, 7, 8, 9] rfl (nx_then (cd_seq (cd_seq (cd_region (st_v (v_move rfl) (st_v (v_neq rfl rfl) (st_nil (nx_kp [1, 5, 6, 7, 8, 9, 21] rfl (nx_then (cd_false rfl ?_))))))))))))
    refine cd_skip (xt_then (cd_seq (cd_region (st_v (v_ldn rfl ld75 rfl rds_pt) ?_))))
    refine st_v (v_move rfl) (st_cl rfl rfl en46 rfl (above_ct hv hR.fine hR.acyc hxC) ?_)
    rintro u1 h' ⟨hu1, rfl⟩
    simp only [List.cons_append, List.nil_append]
    refine st_ok (r := NR u1 (above l x)) (by repeat (first | exact Sel.here | apply Sel.there)) fun hok1 => ?_
    refine st_v (v_makeFunc rfl rfl) (st_cl rfl rfl en53 rfl (ctn_star (filter_ct (S := Res.star [NR u1 (above l x), pt b8 (cl [.slice a l.length cap, .map (some mb)] 75), pt b5 (cl [sv y] 9), S, mps mb (kindsM l)]) (kf := 54) (cp := #[.pointer (some ⟨b8, 0, none⟩), .pointer (some ⟨b5, 0, none⟩)]) (g := fun c => has l y c) ((nms_own hok1).mono (rd_in Sel.here)) (by omega) en54 fun d _ => reads_one (least1_ct hv hR hyC d))) ?_)
    rintro u2 h' ⟨T2, rfl, hu2, rfl⟩
    simp only [List.cons_append, List.nil_append]
    rw [show (above l x).filter (fun c => has l y c) = common l x y from rfl]
    refine st_ok (r := NR u2 (common l x y)) (by repeat (first | exact Sel.here | apply Sel.there)) fun hok2 => ?_
    have hno2 := nms_own hok2
    refine st_alc al25 fun b10 => ?_
    refine st_sto rfl rfl sz25 ?_
    refine st_nil (nx_kp [6, 7, 8, 10] rfl (nx_then (cd_seq (cd_region (st_v (v_ldy rfl ld25) ?_)))))
    refine st_v (v_makeFunc rfl rfl) (st_cl rfl rfl en53 rfl (ctn_star (filter_ct (S := Res.star [NR u2 (common l x y), pt b10 (cl [u2] 25), pt b8 (cl [.slice a l.length cap, .map (some mb)] 75), S, mps mb (kindsM l)]) (kf := 56) (cp := #[.pointer (some ⟨b10, 0, none⟩), .pointer (some ⟨b8, 0, none⟩)]) (g := lowest l (common l x y)) (hno2.mono (rd_in Sel.here)) (by omega) en56 fun d _ => reads_one (least2_ct hv hR hno2 (by omega) hcC d))) ?_)
    rintro u3 h' ⟨T3, rfl, hu3, rfl⟩
    simp only [List.cons_append, List.nil_append]
    refine st_v (v_assign rfl) (st_nil (nx_kp [6, 7, 11] rfl (nx_then (cd_seq (cd_region (st_v (v_move rfl) (st_cl rfl rfl en52 rfl (Sort_ct hln (by omega)) ?_)))))))
    rintro u4 h' ⟨rfl, rfl⟩
    simp only [List.cons_append, List.nil_append]
    refine st_nil (nx_kp [6, 7, 11] rfl (nx_then (cd_seq (cd_region (st_v (v_move rfl) (st_v (v_assign rfl) (st_v (v_assign rfl) (st_nil (nx_kp [6, 7] rfl (nx_then (cd_ret ?_)))))))))))
    exact xt_rt rfl ⟨_, rfl, _, rfl, hu3, rfl⟩ (by (repeat (refine Sub.sel (by repeat (first | exact Sel.here | apply Sel.there)) ?_)); (repeat apply Sub.cons); first | exact Sub.refl _ | exact Sub.nil _)
end
end Go.Hr
