/-
  Package heir: each, for whatever is copied (printed by mkeach.py). Conditions: what is read to its end, what the function does.
  Package heir: expr. Conditions: what is read to its end.
  Package heir: clauses. Conditions: what is read to its end.
  Package heir: vars. Conditions: what is read to its end.
  Package heir: stmts. Conditions: what is read to its end.
  Go's library: slices.Clone. Conditions: what is read to its end.
  Package heir: the copy of a parent. Conditions: what is read to its end.
  Package heir: the copy of a feature. Conditions: what is read to its end.
  Package heir: the copies of parents keep their names. Conditions: what is read to its end.
  Package heir: the copy of a class keeps its name, its parents' names, its number of features. Conditions: what is read to its end.
  Package heir: the copy of a system. Conditions: what is read to its end.
  append to a slice that is full and only read: a new row. Generic. No condition.
  append to a full slice that is only read, as a step; l[:n:n]. Generic. No condition.
  Package heir: Add. Conditions: what is read to its end.
-/
import Derived.Test.YtjgiaohieadeiaaGreatM10
import Derived.Test.YtjgiaohieadeiaaGreatM9
import Derived.Test.YtjgiaohieadeiaaGreatM5
import Derived.Test.YtjgiaohieadeiaaGreatM7
import Derived.Test.YtjgiaohieadeiaaGreatM1
set_option linter.unusedVariables false
set_option linter.unusedSimpArgs false
namespace Go.Hr
open Go Go.RowKit Go.Ck Go.Proofs Go.Proofs.YtjgiaohieadeiaaGreat Fx
attribute [local irreducible] Go.Ck.Sub St Cd Xt Nx DrL LsW
def typA : List TypeId := [3, 4, 9, 25, 23, 24, 26, 27, 90, 91, 136, 143, 144, 146, 165, 167, 169, 182, 186, 68]
theorem typA_one : oneB Tryz.prog typA = true := by kernel_rfl
section
variable {S : Res}
set_option maxRecDepth 100000 in
theorem each124_ct {kf : FuncId} (hE : Ck.Enters Tryz.prog kf) {n : Nat} {v : Value} (h : Gr Tryz.prog S n 165 [v]) (hF : ∀ m, m < n → Cp S kf 167 4 m) : CtN Tryz.prog 124 #[v, .func (.func kf) #[] #[]] [S] fun u T => ∃ a ln cap a' cap', v = .slice a ln cap ∧ u = .slice a' ln cap' ∧ Gr Tryz.prog T n 165 [u] := by
  have c167 : Tryz.prog.cellsOf 167 = 4 := by kernel_rfl
  have b167 : Tryz.prog.bytesOf 167 = 56 := by kernel_rfl
  have hml : maxLen = 9223372036854775807 := rfl
  have hrb : reachBytes = 140737488351232 := rfl
  rcases h.slice Tryz.underlying165 (by rw [c167]; decide) with h0 | ⟨a, ln, cap, m, hn, h1, hlc, hcm, hlb, hel⟩
  · cases h0
    refine ct_of (n := 28) Tryz.func124 rfl rfl (len rfl) fun hr w0 => ?_
    refine cd_seq (cd_region (st_v (v_assign rfl) (st_nil (nx_then (cd_seq (cd_seq (cd_region (st_v (v_move rfl) (st_v (v_eql_slice_nil rfl rfl Tryz.underlying165) (st_nil (nx_kp [0, 1, 4, 9] rfl (nx_then (cd_true rfl ?_)))))))))))))
    refine cd_seq (cd_region (st_v (v_assign rfl) (st_nil (nx_kp [4] rfl (nx_then (cd_ret (xt_ret_then (xt_vw (vw_unstar (L := [])) ?_))))))))
    exact xt_rt rfl ⟨Res.star [], rfl, none, 0, 0, none, 0, rfl, rfl, h.nil_slice Tryz.underlying165⟩ (by (repeat (refine Sub.sel (by repeat (first | exact Sel.here | apply Sel.there)) ?_)); (repeat apply Sub.cons); first | exact Sub.refl _ | exact Sub.nil _)
  · cases h1
    rw [b167] at hlb
    rw [c167] at hel
    refine ct_of (n := 28) Tryz.func124 rfl rfl (len rfl) fun hr w0 => ?_
    refine cd_seq (cd_region (st_v (v_assign rfl) (st_nil (nx_then (cd_seq (cd_seq (cd_region (st_v (v_move rfl) (st_v (v_eql_slice_nil rfl rfl Tryz.underlying165) (st_nil (nx_kp [0, 1, 4, 9] rfl (nx_then (cd_false rfl ?_)))))))))))))
    refine cd_skip (xt_then (cd_seq (cd_region (st_v (v_move rfl) (st_v (v_len rfl Tryz.underlying165) (st_vw (vw_unstar (L := [])) (st_makeP (n := ln) rfl rfl rfl Tryz.underlying165 inf167 rfl (by decide) (by omega) (by omega) (ltn rfl) fun b12 => ?_)))))))
    refine st_v (v_assign rfl) (st_nil (nx_kp [0, 1, 4, 5] rfl (nx_then (cd_seq (cd_seq (cd_region (st_v (v_move rfl) (st_v (v_len rfl Tryz.underlying165) (st_v (v_move rfl) (st_nil (nx_kp [1, 4, 5, 13, 14, 15] rfl (nx_then (cd_block (cd_lq (σ := List (List Value) × Res × Nat) (fun q => [(1, .func (.func kf) #[] #[]), (5, .slice (some ⟨b12, 0, none⟩) ln ln), (13, .slice (some a) ln cap), (14, .int .i64 ln), (15, .int .i64 (q.2.2 : Nat))]) (fun q => pt b12 (cl q.1.flatten 167) :: q.2.1 :: S :: hr) (fun q => q.2.2 ≤ ln ∧ q.1.length = ln ∧ (∀ r ∈ q.1, r.length = 4) ∧ ∀ (j : Nat) us, j < q.2.2 → q.1[j]? = some us → Gr Tryz.prog q.2.1 m 167 us) (fun q => ln - q.2.2) (List.replicate ln [.int .i64 0, sv [], .int .i64 0, .slice none 0 0], Res.star [], 0) ⟨Nat.zero_le _, by simp, fun r hr => by rw [List.eq_of_mem_replicate hr]; rfl, fun j us hj => absurd hj (Nat.not_lt_zero _)⟩ ?_))))))))))))))
    rintro ⟨rows, T, i⟩ ⟨hi, hrl, hr5, hpc⟩
    simp only at hi hrl hr5 hpc
    dsimp only
    refine cd_seq (cd_region (st_v (v_lss rfl rfl) (st_nil (nx_then (cd_seq (cd_cond rfl (fun hd => ?_) (fun hd => ?_)))))))
    · skip
      have hlt : i < ln := by simpa using hd
      obtain ⟨b, o, us, rfl, hus, hrd, hg⟩ := hel i hlt
      have hone : us.all Value.oneCell' = true := List.all_eq_true.2 (Gr.one (L := typA) typA_one m 167 us (by decide) hg)
      refine cd_skip (xt_then (cd_seq (cd_block (cd_seq (cd_region (st_v (v_move rfl) (st_v (v_indexAddr (k := i) rfl rfl sl165 rfl hlt rfl) (st_v (v_ldn rfl ld167 hus hrd) ?_))))))))
      refine st_alc al167 fun b7 => ?_
      refine st_v (v_assign rfl) (st_stoW (hl := by rw [hus]; rfl) rfl rfl sz167 hus hone ?_)
      refine st_nil (nx_kp [1, 5, 6, 7, 13, 14, 15] rfl (nx_then (cd_region (st_v (v_move rfl) (st_v (v_move rfl) (st_v (v_move rfl) (st_v (v_ldn rfl ld167 hus rds_pt) ?_)))))))
      refine st_cl rfl rfl hE rfl ((hF m (by omega) us hus hg)) ?_
      rintro u h' ⟨T2, rfl, us', rfl, h5, h1, hG⟩
      simp only [List.cons_append, List.nil_append]
      refine st_v (v_indexAddr (k := i) rfl rfl sl165 rfl hlt rfl) (st_storeN rfl rfl sz167 h5 (ones h1) (show Sel _ (pt b12 (cl rows.flatten 167)) _ from (by repeat (first | exact Sel.here | apply Sel.there))) (by rw [flat_len hr5, hrl, h5]; omega) ?_)
      rw [show 0 + i * 4 = i * 4 by omega, splice_rows h5 hr5 (by omega)]
      refine st_nil (nx_kp [1, 5, 13, 14, 15] rfl (nx_xt (xt_normal_block (xt_then (cd_region (st_v (v_add rfl rfl (by unfold I64 at *; omega)) (st_v (v_move rfl) (st_nil (nx_kp [1, 5, 13, 14, 15] rfl (nx_xt (xt_pv (pv_pack (L := [T, T2])) ?_)))))))))))
      simp only [List.cons_append, List.nil_append]
      refine xt_aq (rows.set i us', Res.star [T, T2], i + 1) ⟨hlt, by simp [hrl], fun r hr => ?_, fun j us3 hj g1 => ?_⟩ (Nat.sub_lt_sub_left hlt (Nat.lt_succ_self i))
      · rcases List.mem_or_eq_of_mem_set hr with h | h
        · exact hr5 r h
        · rw [h]; exact h5
      · by_cases hji : j = i
        · subst hji
          rw [List.getElem?_set_self (by omega)] at g1
          cases g1
          exact hG.mono (rd_in (by repeat (first | exact Sel.here | apply Sel.there)))
        · rw [List.getElem?_set_ne (Ne.symm hji)] at g1
          have hj : j < i + 1 := hj
          exact (hpc j us3 (by omega) g1).mono (rd_in (by repeat (first | exact Sel.here | apply Sel.there)))
    · skip
      have hie : i = ln := by have : ¬ i < ln := by simpa using hd
                              omega
      subst hie
      refine cd_exit (xt_exit_then (xt_exit_then (xt_exit_block (xt_then (cd_seq (cd_region (st_v (v_move rfl) (st_v (v_assign rfl) (st_nil (nx_kp [4] rfl (nx_then (cd_ret (xt_pv (pv_of (b := b12) (n := i) (sz := 4) (E := 167) rows rfl hr5 hrl (by omega)) ?_)))))))))))))
      simp only [List.cons_append, List.nil_append]
      refine xt_ok (r := VR (.slice (some ⟨b12, 0, none⟩) i i) 167 4 rows) (by repeat (first | exact Sel.here | apply Sel.there)) fun hok => ?_
      refine xt_pv (pv_pack (L := [VR (.slice (some ⟨b12, 0, none⟩) i i) 167 4 rows, T])) ?_
      simp only [List.cons_append, List.nil_append]
      have hin : ∀ us ∈ rows, Gr Tryz.prog (Res.star [VR (.slice (some ⟨b12, 0, none⟩) i i) 167 4 rows, T]) m 167 us := fun us hu => by
        obtain ⟨j, hj, rfl⟩ := List.getElem_of_mem hu
        exact (hpc j _ (by omega) (List.getElem?_eq_getElem hj)).mono (rd_in (by repeat (first | exact Sel.here | apply Sel.there)))
      exact xt_rt rfl ⟨Res.star [VR (.slice (some ⟨b12, 0, none⟩) i i) 167 4 rows, T], rfl, some a, i, cap, some ⟨b12, 0, none⟩, i, rfl, rfl, by rw [hn]; exact gr_row Tryz.underlying165 c167 hok (rd_in (by repeat (first | exact Sel.here | apply Sel.there))) hin (by rw [hrl, b167]; exact hlb)⟩ (by (repeat (refine Sub.sel (by repeat (first | exact Sel.here | apply Sel.there)) ?_)); (repeat apply Sub.cons); first | exact Sub.refl _ | exact Sub.nil _)
set_option maxRecDepth 100000 in
theorem each109_ct {kf : FuncId} (hE : Ck.Enters Tryz.prog kf) {n : Nat} {v : Value} (h : Gr Tryz.prog S n 27 [v]) (hF : ∀ m, m < n → Cp S kf 169 5 m) : CtN Tryz.prog 109 #[v, .func (.func kf) #[] #[]] [S] fun u T => ∃ a ln cap a' cap', v = .slice a ln cap ∧ u = .slice a' ln cap' ∧ Gr Tryz.prog T n 27 [u] := by
  have c169 : Tryz.prog.cellsOf 169 = 5 := by kernel_rfl
  have b169 : Tryz.prog.bytesOf 169 = 72 := by kernel_rfl
  have hml : maxLen = 9223372036854775807 := rfl
  have hrb : reachBytes = 140737488351232 := rfl
  rcases h.slice Tryz.underlying27 (by rw [c169]; decide) with h0 | ⟨a, ln, cap, m, hn, h1, hlc, hcm, hlb, hel⟩
  · cases h0
    refine ct_of (n := 28) Tryz.func109 rfl rfl (len rfl) fun hr w0 => ?_
    refine cd_seq (cd_region (st_v (v_assign rfl) (st_nil (nx_then (cd_seq (cd_seq (cd_region (st_v (v_move rfl) (st_v (v_eql_slice_nil rfl rfl Tryz.underlying27) (st_nil (nx_kp [0, 1, 4, 9] rfl (nx_then (cd_true rfl ?_)))))))))))))
    refine cd_seq (cd_region (st_v (v_assign rfl) (st_nil (nx_kp [4] rfl (nx_then (cd_ret (xt_ret_then (xt_vw (vw_unstar (L := [])) ?_))))))))
    exact xt_rt rfl ⟨Res.star [], rfl, none, 0, 0, none, 0, rfl, rfl, h.nil_slice Tryz.underlying27⟩ (by (repeat (refine Sub.sel (by repeat (first | exact Sel.here | apply Sel.there)) ?_)); (repeat apply Sub.cons); first | exact Sub.refl _ | exact Sub.nil _)
  · cases h1
    rw [b169] at hlb
    rw [c169] at hel
    refine ct_of (n := 28) Tryz.func109 rfl rfl (len rfl) fun hr w0 => ?_
    refine cd_seq (cd_region (st_v (v_assign rfl) (st_nil (nx_then (cd_seq (cd_seq (cd_region (st_v (v_move rfl) (st_v (v_eql_slice_nil rfl rfl Tryz.underlying27) (st_nil (nx_kp [0, 1, 4, 9] rfl (nx_then (cd_false rfl ?_)))))))))))))
    refine cd_skip (xt_then (cd_seq (cd_region (st_v (v_move rfl) (st_v (v_len rfl Tryz.underlying27) (st_vw (vw_unstar (L := [])) (st_makeP (n := ln) rfl rfl rfl Tryz.underlying27 inf169 rfl (by decide) (by omega) (by omega) (ltn rfl) fun b12 => ?_)))))))
    refine st_v (v_assign rfl) (st_nil (nx_kp [0, 1, 4, 5] rfl (nx_then (cd_seq (cd_seq (cd_region (st_v (v_move rfl) (st_v (v_len rfl Tryz.underlying27) (st_v (v_move rfl) (st_nil (nx_kp [1, 4, 5, 13, 14, 15] rfl (nx_then (cd_block (cd_lq (σ := List (List Value) × Res × Nat) (fun q => [(1, .func (.func kf) #[] #[]), (5, .slice (some ⟨b12, 0, none⟩) ln ln), (13, .slice (some a) ln cap), (14, .int .i64 ln), (15, .int .i64 (q.2.2 : Nat))]) (fun q => pt b12 (cl q.1.flatten 169) :: q.2.1 :: S :: hr) (fun q => q.2.2 ≤ ln ∧ q.1.length = ln ∧ (∀ r ∈ q.1, r.length = 5) ∧ ∀ (j : Nat) us, j < q.2.2 → q.1[j]? = some us → Gr Tryz.prog q.2.1 m 169 us) (fun q => ln - q.2.2) (List.replicate ln [sv [], .int .i64 0, sv [], .int .i64 0, .slice none 0 0], Res.star [], 0) ⟨Nat.zero_le _, by simp, fun r hr => by rw [List.eq_of_mem_replicate hr]; rfl, fun j us hj => absurd hj (Nat.not_lt_zero _)⟩ ?_))))))))))))))
    rintro ⟨rows, T, i⟩ ⟨hi, hrl, hr5, hpc⟩
    simp only at hi hrl hr5 hpc
    dsimp only
    refine cd_seq (cd_region (st_v (v_lss rfl rfl) (st_nil (nx_then (cd_seq (cd_cond rfl (fun hd => ?_) (fun hd => ?_)))))))
    · skip
      have hlt : i < ln := by simpa using hd
      obtain ⟨b, o, us, rfl, hus, hrd, hg⟩ := hel i hlt
      have hone : us.all Value.oneCell' = true := List.all_eq_true.2 (Gr.one (L := typA) typA_one m 169 us (by decide) hg)
      refine cd_skip (xt_then (cd_seq (cd_block (cd_seq (cd_region (st_v (v_move rfl) (st_v (v_indexAddr (k := i) rfl rfl sl27 rfl hlt rfl) (st_v (v_ldn rfl ld169 hus hrd) ?_))))))))
      refine st_alc al169 fun b7 => ?_
      refine st_v (v_assign rfl) (st_stoW (hl := by rw [hus]; rfl) rfl rfl sz169 hus hone ?_)
      refine st_nil (nx_kp [1, 5, 6, 7, 13, 14, 15] rfl (nx_then (cd_region (st_v (v_move rfl) (st_v (v_move rfl) (st_v (v_move rfl) (st_v (v_ldn rfl ld169 hus rds_pt) ?_)))))))
      refine st_cl rfl rfl hE rfl ((hF m (by omega) us hus hg)) ?_
      rintro u h' ⟨T2, rfl, us', rfl, h5, h1, hG⟩
      simp only [List.cons_append, List.nil_append]
      refine st_v (v_indexAddr (k := i) rfl rfl sl27 rfl hlt rfl) (st_storeN rfl rfl sz169 h5 (ones h1) (show Sel _ (pt b12 (cl rows.flatten 169)) _ from (by repeat (first | exact Sel.here | apply Sel.there))) (by rw [flat_len hr5, hrl, h5]; omega) ?_)
      rw [show 0 + i * 5 = i * 5 by omega, splice_rows h5 hr5 (by omega)]
      refine st_nil (nx_kp [1, 5, 13, 14, 15] rfl (nx_xt (xt_normal_block (xt_then (cd_region (st_v (v_add rfl rfl (by unfold I64 at *; omega)) (st_v (v_move rfl) (st_nil (nx_kp [1, 5, 13, 14, 15] rfl (nx_xt (xt_pv (pv_pack (L := [T, T2])) ?_)))))))))))
      simp only [List.cons_append, List.nil_append]
      refine xt_aq (rows.set i us', Res.star [T, T2], i + 1) ⟨hlt, by simp [hrl], fun r hr => ?_, fun j us3 hj g1 => ?_⟩ (Nat.sub_lt_sub_left hlt (Nat.lt_succ_self i))
      · rcases List.mem_or_eq_of_mem_set hr with h | h
        · exact hr5 r h
        · rw [h]; exact h5
      · by_cases hji : j = i
        · subst hji
          rw [List.getElem?_set_self (by omega)] at g1
          cases g1
          exact hG.mono (rd_in (by repeat (first | exact Sel.here | apply Sel.there)))
        · rw [List.getElem?_set_ne (Ne.symm hji)] at g1
          have hj : j < i + 1 := hj
          exact (hpc j us3 (by omega) g1).mono (rd_in (by repeat (first | exact Sel.here | apply Sel.there)))
    · skip
      have hie : i = ln := by have : ¬ i < ln := by simpa using hd
                              omega
      subst hie
      refine cd_exit (xt_exit_then (xt_exit_then (xt_exit_block (xt_then (cd_seq (cd_region (st_v (v_move rfl) (st_v (v_assign rfl) (st_nil (nx_kp [4] rfl (nx_then (cd_ret (xt_pv (pv_of (b := b12) (n := i) (sz := 5) (E := 169) rows rfl hr5 hrl (by omega)) ?_)))))))))))))
      simp only [List.cons_append, List.nil_append]
      refine xt_ok (r := VR (.slice (some ⟨b12, 0, none⟩) i i) 169 5 rows) (by repeat (first | exact Sel.here | apply Sel.there)) fun hok => ?_
      refine xt_pv (pv_pack (L := [VR (.slice (some ⟨b12, 0, none⟩) i i) 169 5 rows, T])) ?_
      simp only [List.cons_append, List.nil_append]
      have hin : ∀ us ∈ rows, Gr Tryz.prog (Res.star [VR (.slice (some ⟨b12, 0, none⟩) i i) 169 5 rows, T]) m 169 us := fun us hu => by
        obtain ⟨j, hj, rfl⟩ := List.getElem_of_mem hu
        exact (hpc j _ (by omega) (List.getElem?_eq_getElem hj)).mono (rd_in (by repeat (first | exact Sel.here | apply Sel.there)))
      exact xt_rt rfl ⟨Res.star [VR (.slice (some ⟨b12, 0, none⟩) i i) 169 5 rows, T], rfl, some a, i, cap, some ⟨b12, 0, none⟩, i, rfl, rfl, by rw [hn]; exact gr_row Tryz.underlying27 c169 hok (rd_in (by repeat (first | exact Sel.here | apply Sel.there))) hin (by rw [hrl, b169]; exact hlb)⟩ (by (repeat (refine Sub.sel (by repeat (first | exact Sel.here | apply Sel.there)) ?_)); (repeat apply Sub.cons); first | exact Sub.refl _ | exact Sub.nil _)
set_option maxRecDepth 100000 in
theorem each120_ct {kf : FuncId} (hE : Ck.Enters Tryz.prog kf) {n : Nat} {v : Value} (h : Gr Tryz.prog S n 143 [v]) (hF : ∀ m, m < n → Cp S kf 182 6 m) : CtN Tryz.prog 120 #[v, .func (.func kf) #[] #[]] [S] fun u T => ∃ a ln cap a' cap', v = .slice a ln cap ∧ u = .slice a' ln cap' ∧ Gr Tryz.prog T n 143 [u] := by
  have c182 : Tryz.prog.cellsOf 182 = 6 := by kernel_rfl
  have b182 : Tryz.prog.bytesOf 182 = 72 := by kernel_rfl
  have hml : maxLen = 9223372036854775807 := rfl
  have hrb : reachBytes = 140737488351232 := rfl
  rcases h.slice Tryz.underlying143 (by rw [c182]; decide) with h0 | ⟨a, ln, cap, m, hn, h1, hlc, hcm, hlb, hel⟩
  · cases h0
    refine ct_of (n := 28) Tryz.func120 rfl rfl (len rfl) fun hr w0 => ?_
    refine cd_seq (cd_region (st_v (v_assign rfl) (st_nil (nx_then (cd_seq (cd_seq (cd_region (st_v (v_move rfl) (st_v (v_eql_slice_nil rfl rfl Tryz.underlying143) (st_nil (nx_kp [0, 1, 4, 9] rfl (nx_then (cd_true rfl ?_)))))))))))))
    refine cd_seq (cd_region (st_v (v_assign rfl) (st_nil (nx_kp [4] rfl (nx_then (cd_ret (xt_ret_then (xt_vw (vw_unstar (L := [])) ?_))))))))
    exact xt_rt rfl ⟨Res.star [], rfl, none, 0, 0, none, 0, rfl, rfl, h.nil_slice Tryz.underlying143⟩ (by (repeat (refine Sub.sel (by repeat (first | exact Sel.here | apply Sel.there)) ?_)); (repeat apply Sub.cons); first | exact Sub.refl _ | exact Sub.nil _)
  · cases h1
    rw [b182] at hlb
    rw [c182] at hel
    refine ct_of (n := 28) Tryz.func120 rfl rfl (len rfl) fun hr w0 => ?_
    refine cd_seq (cd_region (st_v (v_assign rfl) (st_nil (nx_then (cd_seq (cd_seq (cd_region (st_v (v_move rfl) (st_v (v_eql_slice_nil rfl rfl Tryz.underlying143) (st_nil (nx_kp [0, 1, 4, 9] rfl (nx_then (cd_false rfl ?_)))))))))))))
    refine cd_skip (xt_then (cd_seq (cd_region (st_v (v_move rfl) (st_v (v_len rfl Tryz.underlying143) (st_vw (vw_unstar (L := [])) (st_makeP (n := ln) rfl rfl rfl Tryz.underlying143 inf182 rfl (by decide) (by omega) (by omega) (ltn rfl) fun b12 => ?_)))))))
    refine st_v (v_assign rfl) (st_nil (nx_kp [0, 1, 4, 5] rfl (nx_then (cd_seq (cd_seq (cd_region (st_v (v_move rfl) (st_v (v_len rfl Tryz.underlying143) (st_v (v_move rfl) (st_nil (nx_kp [1, 4, 5, 13, 14, 15] rfl (nx_then (cd_block (cd_lq (σ := List (List Value) × Res × Nat) (fun q => [(1, .func (.func kf) #[] #[]), (5, .slice (some ⟨b12, 0, none⟩) ln ln), (13, .slice (some a) ln cap), (14, .int .i64 ln), (15, .int .i64 (q.2.2 : Nat))]) (fun q => pt b12 (cl q.1.flatten 182) :: q.2.1 :: S :: hr) (fun q => q.2.2 ≤ ln ∧ q.1.length = ln ∧ (∀ r ∈ q.1, r.length = 6) ∧ ∀ (j : Nat) us, j < q.2.2 → q.1[j]? = some us → Gr Tryz.prog q.2.1 m 182 us) (fun q => ln - q.2.2) (List.replicate ln [sv [], .int .i64 0, sv [], .slice none 0 0, .bool false, .bool false], Res.star [], 0) ⟨Nat.zero_le _, by simp, fun r hr => by rw [List.eq_of_mem_replicate hr]; rfl, fun j us hj => absurd hj (Nat.not_lt_zero _)⟩ ?_))))))))))))))
    rintro ⟨rows, T, i⟩ ⟨hi, hrl, hr5, hpc⟩
    simp only at hi hrl hr5 hpc
    dsimp only
    refine cd_seq (cd_region (st_v (v_lss rfl rfl) (st_nil (nx_then (cd_seq (cd_cond rfl (fun hd => ?_) (fun hd => ?_)))))))
    · skip
      have hlt : i < ln := by simpa using hd
      obtain ⟨b, o, us, rfl, hus, hrd, hg⟩ := hel i hlt
      have hone : us.all Value.oneCell' = true := List.all_eq_true.2 (Gr.one (L := typA) typA_one m 182 us (by decide) hg)
      refine cd_skip (xt_then (cd_seq (cd_block (cd_seq (cd_region (st_v (v_move rfl) (st_v (v_indexAddr (k := i) rfl rfl sl143 rfl hlt rfl) (st_v (v_ldn rfl ld182 hus hrd) ?_))))))))
      refine st_alc al182 fun b7 => ?_
      refine st_v (v_assign rfl) (st_stoW (hl := by rw [hus]; rfl) rfl rfl sz182 hus hone ?_)
      refine st_nil (nx_kp [1, 5, 6, 7, 13, 14, 15] rfl (nx_then (cd_region (st_v (v_move rfl) (st_v (v_move rfl) (st_v (v_move rfl) (st_v (v_ldn rfl ld182 hus rds_pt) ?_)))))))
      refine st_cl rfl rfl hE rfl ((hF m (by omega) us hus hg)) ?_
      rintro u h' ⟨T2, rfl, us', rfl, h5, h1, hG⟩
      simp only [List.cons_append, List.nil_append]
      refine st_v (v_indexAddr (k := i) rfl rfl sl143 rfl hlt rfl) (st_storeN rfl rfl sz182 h5 (ones h1) (show Sel _ (pt b12 (cl rows.flatten 182)) _ from (by repeat (first | exact Sel.here | apply Sel.there))) (by rw [flat_len hr5, hrl, h5]; omega) ?_)
      rw [show 0 + i * 6 = i * 6 by omega, splice_rows h5 hr5 (by omega)]
      refine st_nil (nx_kp [1, 5, 13, 14, 15] rfl (nx_xt (xt_normal_block (xt_then (cd_region (st_v (v_add rfl rfl (by unfold I64 at *; omega)) (st_v (v_move rfl) (st_nil (nx_kp [1, 5, 13, 14, 15] rfl (nx_xt (xt_pv (pv_pack (L := [T, T2])) ?_)))))))))))
      simp only [List.cons_append, List.nil_append]
      refine xt_aq (rows.set i us', Res.star [T, T2], i + 1) ⟨hlt, by simp [hrl], fun r hr => ?_, fun j us3 hj g1 => ?_⟩ (Nat.sub_lt_sub_left hlt (Nat.lt_succ_self i))
      · rcases List.mem_or_eq_of_mem_set hr with h | h
        · exact hr5 r h
        · rw [h]; exact h5
      · by_cases hji : j = i
        · subst hji
          rw [List.getElem?_set_self (by omega)] at g1
          cases g1
          exact hG.mono (rd_in (by repeat (first | exact Sel.here | apply Sel.there)))
        · rw [List.getElem?_set_ne (Ne.symm hji)] at g1
          have hj : j < i + 1 := hj
          exact (hpc j us3 (by omega) g1).mono (rd_in (by repeat (first | exact Sel.here | apply Sel.there)))
    · skip
      have hie : i = ln := by have : ¬ i < ln := by simpa using hd
                              omega
      subst hie
      refine cd_exit (xt_exit_then (xt_exit_then (xt_exit_block (xt_then (cd_seq (cd_region (st_v (v_move rfl) (st_v (v_assign rfl) (st_nil (nx_kp [4] rfl (nx_then (cd_ret (xt_pv (pv_of (b := b12) (n := i) (sz := 6) (E := 182) rows rfl hr5 hrl (by omega)) ?_)))))))))))))
      simp only [List.cons_append, List.nil_append]
      refine xt_ok (r := VR (.slice (some ⟨b12, 0, none⟩) i i) 182 6 rows) (by repeat (first | exact Sel.here | apply Sel.there)) fun hok => ?_
      refine xt_pv (pv_pack (L := [VR (.slice (some ⟨b12, 0, none⟩) i i) 182 6 rows, T])) ?_
      simp only [List.cons_append, List.nil_append]
      have hin : ∀ us ∈ rows, Gr Tryz.prog (Res.star [VR (.slice (some ⟨b12, 0, none⟩) i i) 182 6 rows, T]) m 182 us := fun us hu => by
        obtain ⟨j, hj, rfl⟩ := List.getElem_of_mem hu
        exact (hpc j _ (by omega) (List.getElem?_eq_getElem hj)).mono (rd_in (by repeat (first | exact Sel.here | apply Sel.there)))
      exact xt_rt rfl ⟨Res.star [VR (.slice (some ⟨b12, 0, none⟩) i i) 182 6 rows, T], rfl, some a, i, cap, some ⟨b12, 0, none⟩, i, rfl, rfl, by rw [hn]; exact gr_row Tryz.underlying143 c182 hok (rd_in (by repeat (first | exact Sel.here | apply Sel.there))) hin (by rw [hrl, b182]; exact hlb)⟩ (by (repeat (refine Sub.sel (by repeat (first | exact Sel.here | apply Sel.there)) ?_)); (repeat apply Sub.cons); first | exact Sub.refl _ | exact Sub.nil _)
set_option maxRecDepth 100000 in
theorem each122_ct {kf : FuncId} (hE : Ck.Enters Tryz.prog kf) {n : Nat} {v : Value} (h : Gr Tryz.prog S n 144 [v]) (hF : ∀ m, m < n → Cp S kf 186 8 m) : CtN Tryz.prog 122 #[v, .func (.func kf) #[] #[]] [S] fun u T => ∃ a ln cap a' cap', v = .slice a ln cap ∧ u = .slice a' ln cap' ∧ Gr Tryz.prog T n 144 [u] := by
  have c186 : Tryz.prog.cellsOf 186 = 8 := by kernel_rfl
  have b186 : Tryz.prog.bytesOf 186 = 152 := by kernel_rfl
  have hml : maxLen = 9223372036854775807 := rfl
  have hrb : reachBytes = 140737488351232 := rfl
  rcases h.slice Tryz.underlying144 (by rw [c186]; decide) with h0 | ⟨a, ln, cap, m, hn, h1, hlc, hcm, hlb, hel⟩
  · cases h0
    refine ct_of (n := 28) Tryz.func122 rfl rfl (len rfl) fun hr w0 => ?_
    refine cd_seq (cd_region (st_v (v_assign rfl) (st_nil (nx_then (cd_seq (cd_seq (cd_region (st_v (v_move rfl) (st_v (v_eql_slice_nil rfl rfl Tryz.underlying144) (st_nil (nx_kp [0, 1, 4, 9] rfl (nx_then (cd_true rfl ?_)))))))))))))
    refine cd_seq (cd_region (st_v (v_assign rfl) (st_nil (nx_kp [4] rfl (nx_then (cd_ret (xt_ret_then (xt_vw (vw_unstar (L := [])) ?_))))))))
    exact xt_rt rfl ⟨Res.star [], rfl, none, 0, 0, none, 0, rfl, rfl, h.nil_slice Tryz.underlying144⟩ (by (repeat (refine Sub.sel (by repeat (first | exact Sel.here | apply Sel.there)) ?_)); (repeat apply Sub.cons); first | exact Sub.refl _ | exact Sub.nil _)
  · cases h1
    rw [b186] at hlb
    rw [c186] at hel
    refine ct_of (n := 28) Tryz.func122 rfl rfl (len rfl) fun hr w0 => ?_
    refine cd_seq (cd_region (st_v (v_assign rfl) (st_nil (nx_then (cd_seq (cd_seq (cd_region (st_v (v_move rfl) (st_v (v_eql_slice_nil rfl rfl Tryz.underlying144) (st_nil (nx_kp [0, 1, 4, 9] rfl (nx_then (cd_false rfl ?_)))))))))))))
    refine cd_skip (xt_then (cd_seq (cd_region (st_v (v_move rfl) (st_v (v_len rfl Tryz.underlying144) (st_vw (vw_unstar (L := [])) (st_makeP (n := ln) rfl rfl rfl Tryz.underlying144 inf186 rfl (by decide) (by omega) (by omega) (ltn rfl) fun b12 => ?_)))))))
    refine st_v (v_assign rfl) (st_nil (nx_kp [0, 1, 4, 5] rfl (nx_then (cd_seq (cd_seq (cd_region (st_v (v_move rfl) (st_v (v_len rfl Tryz.underlying144) (st_v (v_move rfl) (st_nil (nx_kp [1, 4, 5, 13, 14, 15] rfl (nx_then (cd_block (cd_lq (σ := List (List Value) × Res × Nat) (fun q => [(1, .func (.func kf) #[] #[]), (5, .slice (some ⟨b12, 0, none⟩) ln ln), (13, .slice (some a) ln cap), (14, .int .i64 ln), (15, .int .i64 (q.2.2 : Nat))]) (fun q => pt b12 (cl q.1.flatten 186) :: q.2.1 :: S :: hr) (fun q => q.2.2 ≤ ln ∧ q.1.length = ln ∧ (∀ r ∈ q.1, r.length = 8) ∧ ∀ (j : Nat) us, j < q.2.2 → q.1[j]? = some us → Gr Tryz.prog q.2.1 m 186 us) (fun q => ln - q.2.2) (List.replicate ln [.int .i64 0, sv [], .int .i64 0, .slice none 0 0, .slice none 0 0, .slice none 0 0, .slice none 0 0, .slice none 0 0], Res.star [], 0) ⟨Nat.zero_le _, by simp, fun r hr => by rw [List.eq_of_mem_replicate hr]; rfl, fun j us hj => absurd hj (Nat.not_lt_zero _)⟩ ?_))))))))))))))
    rintro ⟨rows, T, i⟩ ⟨hi, hrl, hr5, hpc⟩
    simp only at hi hrl hr5 hpc
    dsimp only
    refine cd_seq (cd_region (st_v (v_lss rfl rfl) (st_nil (nx_then (cd_seq (cd_cond rfl (fun hd => ?_) (fun hd => ?_)))))))
    · skip
      have hlt : i < ln := by simpa using hd
      obtain ⟨b, o, us, rfl, hus, hrd, hg⟩ := hel i hlt
      have hone : us.all Value.oneCell' = true := List.all_eq_true.2 (Gr.one (L := typA) typA_one m 186 us (by decide) hg)
      refine cd_skip (xt_then (cd_seq (cd_block (cd_seq (cd_region (st_v (v_move rfl) (st_v (v_indexAddr (k := i) rfl rfl sl144 rfl hlt rfl) (st_v (v_ldn rfl ld186 hus hrd) ?_))))))))
      refine st_alc al186 fun b7 => ?_
      refine st_v (v_assign rfl) (st_stoW (hl := by rw [hus]; rfl) rfl rfl sz186 hus hone ?_)
      refine st_nil (nx_kp [1, 5, 6, 7, 13, 14, 15] rfl (nx_then (cd_region (st_v (v_move rfl) (st_v (v_move rfl) (st_v (v_move rfl) (st_v (v_ldn rfl ld186 hus rds_pt) ?_)))))))
      refine st_cl rfl rfl hE rfl ((hF m (by omega) us hus hg)) ?_
      rintro u h' ⟨T2, rfl, us', rfl, h5, h1, hG⟩
      simp only [List.cons_append, List.nil_append]
      refine st_v (v_indexAddr (k := i) rfl rfl sl144 rfl hlt rfl) (st_storeN rfl rfl sz186 h5 (ones h1) (show Sel _ (pt b12 (cl rows.flatten 186)) _ from (by repeat (first | exact Sel.here | apply Sel.there))) (by rw [flat_len hr5, hrl, h5]; omega) ?_)
      rw [show 0 + i * 8 = i * 8 by omega, splice_rows h5 hr5 (by omega)]
      refine st_nil (nx_kp [1, 5, 13, 14, 15] rfl (nx_xt (xt_normal_block (xt_then (cd_region (st_v (v_add rfl rfl (by unfold I64 at *; omega)) (st_v (v_move rfl) (st_nil (nx_kp [1, 5, 13, 14, 15] rfl (nx_xt (xt_pv (pv_pack (L := [T, T2])) ?_)))))))))))
      simp only [List.cons_append, List.nil_append]
      refine xt_aq (rows.set i us', Res.star [T, T2], i + 1) ⟨hlt, by simp [hrl], fun r hr => ?_, fun j us3 hj g1 => ?_⟩ (Nat.sub_lt_sub_left hlt (Nat.lt_succ_self i))
      · rcases List.mem_or_eq_of_mem_set hr with h | h
        · exact hr5 r h
        · rw [h]; exact h5
      · by_cases hji : j = i
        · subst hji
          rw [List.getElem?_set_self (by omega)] at g1
          cases g1
          exact hG.mono (rd_in (by repeat (first | exact Sel.here | apply Sel.there)))
        · rw [List.getElem?_set_ne (Ne.symm hji)] at g1
          have hj : j < i + 1 := hj
          exact (hpc j us3 (by omega) g1).mono (rd_in (by repeat (first | exact Sel.here | apply Sel.there)))
    · skip
      have hie : i = ln := by have : ¬ i < ln := by simpa using hd
                              omega
      subst hie
      refine cd_exit (xt_exit_then (xt_exit_then (xt_exit_block (xt_then (cd_seq (cd_region (st_v (v_move rfl) (st_v (v_assign rfl) (st_nil (nx_kp [4] rfl (nx_then (cd_ret (xt_pv (pv_of (b := b12) (n := i) (sz := 8) (E := 186) rows rfl hr5 hrl (by omega)) ?_)))))))))))))
      simp only [List.cons_append, List.nil_append]
      refine xt_ok (r := VR (.slice (some ⟨b12, 0, none⟩) i i) 186 8 rows) (by repeat (first | exact Sel.here | apply Sel.there)) fun hok => ?_
      refine xt_pv (pv_pack (L := [VR (.slice (some ⟨b12, 0, none⟩) i i) 186 8 rows, T])) ?_
      simp only [List.cons_append, List.nil_append]
      have hin : ∀ us ∈ rows, Gr Tryz.prog (Res.star [VR (.slice (some ⟨b12, 0, none⟩) i i) 186 8 rows, T]) m 186 us := fun us hu => by
        obtain ⟨j, hj, rfl⟩ := List.getElem_of_mem hu
        exact (hpc j _ (by omega) (List.getElem?_eq_getElem hj)).mono (rd_in (by repeat (first | exact Sel.here | apply Sel.there)))
      exact xt_rt rfl ⟨Res.star [VR (.slice (some ⟨b12, 0, none⟩) i i) 186 8 rows, T], rfl, some a, i, cap, some ⟨b12, 0, none⟩, i, rfl, rfl, by rw [hn]; exact gr_row Tryz.underlying144 c186 hok (rd_in (by repeat (first | exact Sel.here | apply Sel.there))) hin (by rw [hrl, b186]; exact hlb)⟩ (by (repeat (refine Sub.sel (by repeat (first | exact Sel.here | apply Sel.there)) ?_)); (repeat apply Sub.cons); first | exact Sub.refl _ | exact Sub.nil _)
set_option maxRecDepth 100000 in
theorem each88_ct {kf : FuncId} (hE : Ck.Enters Tryz.prog kf) {n : Nat} {v : Value} (h : Gr Tryz.prog S n 26 [v]) (hF : ∀ m, m < n → Cp S kf 146 15 m) : CtN Tryz.prog 88 #[v, .func (.func kf) #[] #[]] [S] fun u T => ∃ a ln cap a' cap', v = .slice a ln cap ∧ u = .slice a' ln cap' ∧ Gr Tryz.prog T n 26 [u] := by
  have c146 : Tryz.prog.cellsOf 146 = 15 := by kernel_rfl
  have b146 : Tryz.prog.bytesOf 146 = 256 := by kernel_rfl
  have hml : maxLen = 9223372036854775807 := rfl
  have hrb : reachBytes = 140737488351232 := rfl
  rcases h.slice Tryz.underlying26 (by rw [c146]; decide) with h0 | ⟨a, ln, cap, m, hn, h1, hlc, hcm, hlb, hel⟩
  · cases h0
    refine ct_of (n := 28) Tryz.func88 rfl rfl (len rfl) fun hr w0 => ?_
    refine cd_seq (cd_region (st_v (v_assign rfl) (st_nil (nx_then (cd_seq (cd_seq (cd_region (st_v (v_move rfl) (st_v (v_eql_slice_nil rfl rfl Tryz.underlying26) (st_nil (nx_kp [0, 1, 4, 9] rfl (nx_then (cd_true rfl ?_)))))))))))))
    refine cd_seq (cd_region (st_v (v_assign rfl) (st_nil (nx_kp [4] rfl (nx_then (cd_ret (xt_ret_then (xt_vw (vw_unstar (L := [])) ?_))))))))
    exact xt_rt rfl ⟨Res.star [], rfl, none, 0, 0, none, 0, rfl, rfl, h.nil_slice Tryz.underlying26⟩ (by (repeat (refine Sub.sel (by repeat (first | exact Sel.here | apply Sel.there)) ?_)); (repeat apply Sub.cons); first | exact Sub.refl _ | exact Sub.nil _)
  · cases h1
    rw [b146] at hlb
    rw [c146] at hel
    refine ct_of (n := 28) Tryz.func88 rfl rfl (len rfl) fun hr w0 => ?_
    refine cd_seq (cd_region (st_v (v_assign rfl) (st_nil (nx_then (cd_seq (cd_seq (cd_region (st_v (v_move rfl) (st_v (v_eql_slice_nil rfl rfl Tryz.underlying26) (st_nil (nx_kp [0, 1, 4, 9] rfl (nx_then (cd_false rfl ?_)))))))))))))
    refine cd_skip (xt_then (cd_seq (cd_region (st_v (v_move rfl) (st_v (v_len rfl Tryz.underlying26) (st_vw (vw_unstar (L := [])) (st_makeP (n := ln) rfl rfl rfl Tryz.underlying26 inf146 rfl (by decide) (by omega) (by omega) (ltn rfl) fun b12 => ?_)))))))
    refine st_v (v_assign rfl) (st_nil (nx_kp [0, 1, 4, 5] rfl (nx_then (cd_seq (cd_seq (cd_region (st_v (v_move rfl) (st_v (v_len rfl Tryz.underlying26) (st_v (v_move rfl) (st_nil (nx_kp [1, 4, 5, 13, 14, 15] rfl (nx_then (cd_block (cd_lq (σ := List (List Value) × Res × Nat) (fun q => [(1, .func (.func kf) #[] #[]), (5, .slice (some ⟨b12, 0, none⟩) ln ln), (13, .slice (some a) ln cap), (14, .int .i64 ln), (15, .int .i64 (q.2.2 : Nat))]) (fun q => pt b12 (cl q.1.flatten 146) :: q.2.1 :: S :: hr) (fun q => q.2.2 ≤ ln ∧ q.1.length = ln ∧ (∀ r ∈ q.1, r.length = 15) ∧ ∀ (j : Nat) us, j < q.2.2 → q.1[j]? = some us → Gr Tryz.prog q.2.1 m 146 us) (fun q => ln - q.2.2) (List.replicate ln [.int .i64 0, sv [], .slice none 0 0, .slice none 0 0, .int .i64 0, sv [], .slice none 0 0, .bool false, .bool false, .slice none 0 0, .slice none 0 0, .slice none 0 0, .slice none 0 0, .slice none 0 0, .bool false], Res.star [], 0) ⟨Nat.zero_le _, by simp, fun r hr => by rw [List.eq_of_mem_replicate hr]; rfl, fun j us hj => absurd hj (Nat.not_lt_zero _)⟩ ?_))))))))))))))
    rintro ⟨rows, T, i⟩ ⟨hi, hrl, hr5, hpc⟩
    simp only at hi hrl hr5 hpc
    dsimp only
    refine cd_seq (cd_region (st_v (v_lss rfl rfl) (st_nil (nx_then (cd_seq (cd_cond rfl (fun hd => ?_) (fun hd => ?_)))))))
    · skip
      have hlt : i < ln := by simpa using hd
      obtain ⟨b, o, us, rfl, hus, hrd, hg⟩ := hel i hlt
      have hone : us.all Value.oneCell' = true := List.all_eq_true.2 (Gr.one (L := typA) typA_one m 146 us (by decide) hg)
      refine cd_skip (xt_then (cd_seq (cd_block (cd_seq (cd_region (st_v (v_move rfl) (st_v (v_indexAddr (k := i) rfl rfl sl26 rfl hlt rfl) (st_v (v_ldn rfl ld146 hus hrd) ?_))))))))
      refine st_alc al146 fun b7 => ?_
      refine st_v (v_assign rfl) (st_stoW (hl := by rw [hus]; rfl) rfl rfl sz146 hus hone ?_)
      refine st_nil (nx_kp [1, 5, 6, 7, 13, 14, 15] rfl (nx_then (cd_region (st_v (v_move rfl) (st_v (v_move rfl) (st_v (v_move rfl) (st_v (v_ldn rfl ld146 hus rds_pt) ?_)))))))
      refine st_cl rfl rfl hE rfl ((hF m (by omega) us hus hg)) ?_
      rintro u h' ⟨T2, rfl, us', rfl, h5, h1, hG⟩
      simp only [List.cons_append, List.nil_append]
      refine st_v (v_indexAddr (k := i) rfl rfl sl26 rfl hlt rfl) (st_storeN rfl rfl sz146 h5 (ones h1) (show Sel _ (pt b12 (cl rows.flatten 146)) _ from (by repeat (first | exact Sel.here | apply Sel.there))) (by rw [flat_len hr5, hrl, h5]; omega) ?_)
      rw [show 0 + i * 15 = i * 15 by omega, splice_rows h5 hr5 (by omega)]
      refine st_nil (nx_kp [1, 5, 13, 14, 15] rfl (nx_xt (xt_normal_block (xt_then (cd_region (st_v (v_add rfl rfl (by unfold I64 at *; omega)) (st_v (v_move rfl) (st_nil (nx_kp [1, 5, 13, 14, 15] rfl (nx_xt (xt_pv (pv_pack (L := [T, T2])) ?_)))))))))))
      simp only [List.cons_append, List.nil_append]
      refine xt_aq (rows.set i us', Res.star [T, T2], i + 1) ⟨hlt, by simp [hrl], fun r hr => ?_, fun j us3 hj g1 => ?_⟩ (Nat.sub_lt_sub_left hlt (Nat.lt_succ_self i))
      · rcases List.mem_or_eq_of_mem_set hr with h | h
        · exact hr5 r h
        · rw [h]; exact h5
      · by_cases hji : j = i
        · subst hji
          rw [List.getElem?_set_self (by omega)] at g1
          cases g1
          exact hG.mono (rd_in (by repeat (first | exact Sel.here | apply Sel.there)))
        · rw [List.getElem?_set_ne (Ne.symm hji)] at g1
          have hj : j < i + 1 := hj
          exact (hpc j us3 (by omega) g1).mono (rd_in (by repeat (first | exact Sel.here | apply Sel.there)))
    · skip
      have hie : i = ln := by have : ¬ i < ln := by simpa using hd
                              omega
      subst hie
      refine cd_exit (xt_exit_then (xt_exit_then (xt_exit_block (xt_then (cd_seq (cd_region (st_v (v_move rfl) (st_v (v_assign rfl) (st_nil (nx_kp [4] rfl (nx_then (cd_ret (xt_pv (pv_of (b := b12) (n := i) (sz := 15) (E := 146) rows rfl hr5 hrl (by omega)) ?_)))))))))))))
      simp only [List.cons_append, List.nil_append]
      refine xt_ok (r := VR (.slice (some ⟨b12, 0, none⟩) i i) 146 15 rows) (by repeat (first | exact Sel.here | apply Sel.there)) fun hok => ?_
      refine xt_pv (pv_pack (L := [VR (.slice (some ⟨b12, 0, none⟩) i i) 146 15 rows, T])) ?_
      simp only [List.cons_append, List.nil_append]
      have hin : ∀ us ∈ rows, Gr Tryz.prog (Res.star [VR (.slice (some ⟨b12, 0, none⟩) i i) 146 15 rows, T]) m 146 us := fun us hu => by
        obtain ⟨j, hj, rfl⟩ := List.getElem_of_mem hu
        exact (hpc j _ (by omega) (List.getElem?_eq_getElem hj)).mono (rd_in (by repeat (first | exact Sel.here | apply Sel.there)))
      exact xt_rt rfl ⟨Res.star [VR (.slice (some ⟨b12, 0, none⟩) i i) 146 15 rows, T], rfl, some a, i, cap, some ⟨b12, 0, none⟩, i, rfl, rfl, by rw [hn]; exact gr_row Tryz.underlying26 c146 hok (rd_in (by repeat (first | exact Sel.here | apply Sel.there))) hin (by rw [hrl, b146]; exact hlb)⟩ (by (repeat (refine Sub.sel (by repeat (first | exact Sel.here | apply Sel.there)) ?_)); (repeat apply Sub.cons); first | exact Sub.refl _ | exact Sub.nil _)

end
end Go.Hr
namespace Go.Hr
open Go Go.RowKit Go.Ck Go.Proofs Go.Proofs.YtjgiaohieadeiaaGreat Fx
attribute [local irreducible] Go.Ck.Sub St Cd Xt Nx DrL LsW
section
variable {S : Res}
set_option maxRecDepth 100000 in
theorem expr_ct : ∀ m, Cp S 111 167 4 m := by
  intro m
  induction m using Nat.strongRecOn with
  | ind m ih =>
    intro us hus hg
    have hone := Gr.one (L := typA) typA_one m 167 us (by decide) hg
    obtain ⟨n, hn, _, hf⟩ := hg.struct Tryz.underlying167
    have h2 : Gr Tryz.prog S n 165 ((us.drop 3).take (Tryz.prog.cellsOf 165)) := hf 3 _ rfl
    rw [show Tryz.prog.cellsOf 165 = 1 by kernel_rfl] at h2
    match us, hus with
    | [p, q, s, r], _ =>
    have o1 := hone p (by simp)
    have o2 := hone q (by simp)
    have o3 := hone r (by simp)
    have o4 := hone s (by simp)
    have h2 : Gr Tryz.prog S n 165 [r] := h2
    refine ct_of (n := 8) Tryz.func111 rfl rfl (len rfl) fun hr w0 => ?_
    refine cd_seq (cd_region (st_bx rfl rfl fun b1 => ?_))
    refine st_alc al167 fun b2 => ?_
    refine st_nil (nx_kp [1, 2] rfl (nx_then (cd_seq (cd_region (st_v (v_fieldAddr rfl fa167_3 rfl) (st_v (v_ldy rfl ld165) ?_))))))
    refine st_cl rfl rfl en124 rfl (each124_ct en111 h2 (fun k hk => ih k (by omega))) ?_
    rintro u h' ⟨T, rfl, a, ln, cap, a', cap', rfl, rfl, hK⟩
    simp only [List.cons_append, List.nil_append]
    refine st_v (v_fieldAddr rfl fa167_3 rfl) (st_sto rfl rfl sz165 ?_)
    refine st_nil (nx_kp [1, 2] rfl (nx_then (cd_seq (cd_region (st_v (v_ldn rfl ld167 rfl rds_pt) ?_)))))
    have hone2 : [p, q, s, Value.slice a' ln cap'].all Value.oneCell' = true := by simp only [List.all_cons, List.all_nil, o1, o2, o4, Bool.and_true, Bool.true_and]; rfl
    refine st_stoW rfl rfl sz167 rfl hone2 ?_
    refine st_nil (nx_kp [2] rfl (nx_then (cd_ret ?_)))
    exact xt_retV (.cellN rfl ld167 rfl (by repeat (first | exact Sel.here | apply Sel.there)) .nil) ⟨T, rfl, _, rfl, rfl, hone2, by rw [hn]; exact Gr.mk Tryz.underlying167 k167 rfl (Gall.cons (Gr.keep flL_ok (hf 0 _ rfl) rfl k3 rfl) (Gall.cons (Gr.keep flL_ok (hf 1 _ rfl) rfl k9 rfl) (Gall.cons (Gr.keep flL_ok (hf 2 _ rfl) rfl k3 rfl) (Gall.cons (Gr.cut hK k165 rfl) .nil))))⟩ (by repeat (first | exact Sub.refl _ | exact Sub.nil _ | refine Sub.sel (by repeat (first | exact Sel.here | apply Sel.there)) ?_ | apply Sub.cons))
end
end Go.Hr
namespace Go.Hr
open Go Go.RowKit Go.Ck Go.Proofs Go.Proofs.YtjgiaohieadeiaaGreat Fx
attribute [local irreducible] Go.Ck.Sub St Cd Xt Nx DrL LsW
section
variable {S : Res}
set_option maxRecDepth 100000 in
theorem clause_ct : ∀ m, Cp S 110 169 5 m := by
  intro m us hus hg
  have hone := Gr.one (L := typA) typA_one m 169 us (by decide) hg
  obtain ⟨n, hn, _, hf⟩ := hg.struct Tryz.underlying169
  have h2 : Gr Tryz.prog S n 167 ((us.drop 1).take (Tryz.prog.cellsOf 167)) := hf 1 _ rfl
  rw [show Tryz.prog.cellsOf 167 = 4 by kernel_rfl] at h2
  match us, hus with
  | [t, e1, e2, e3, e4], _ =>
  have o1 := hone t (by simp)
  have h2 : Gr Tryz.prog S n 167 [e1, e2, e3, e4] := h2
  refine ct_of (n := 8) Tryz.func110 rfl rfl (len rfl) fun hr w0 => ?_
  refine cd_seq (cd_region (st_bx rfl rfl fun b1 => ?_))
  refine st_alc al169 fun b2 => ?_
  refine st_nil (nx_kp [1, 2] rfl (nx_then (cd_seq (cd_region (st_v (v_fieldAddr rfl fa169_1 rfl) (st_v (v_ldn rfl ld167 rfl (rds_sub (us := [t, e1, e2, e3, e4]) (vs := [e1, e2, e3, e4]) (k := 1) rds_pt rfl)) ?_))))))
  refine st_cl rfl rfl en111 rfl (expr_ct n [e1, e2, e3, e4] rfl h2) ?_
  rintro u h' ⟨T, rfl, us', rfl, h4, h1, hK⟩
  simp only [List.cons_append, List.nil_append]
  match us', h4 with
  | [x1, x2, x3, x4], _ =>
  refine st_v (v_fieldAddr rfl fa169_1 rfl) (st_storeN rfl rfl sz167 rfl (ones h1) (show Sel _ (pt b1 (cl [t, e1, e2, e3, e4] 169)) _ from (by repeat (first | exact Sel.here | apply Sel.there))) (by simp) ?_)
  rw [show splice [t, e1, e2, e3, e4] (0 + 1) [x1, x2, x3, x4] = [t, x1, x2, x3, x4] from rfl]
  refine st_nil (nx_kp [1, 2] rfl (nx_then (cd_seq (cd_region (st_v (v_ldn rfl ld169 rfl rds_pt) ?_)))))
  have hone2 : [t, x1, x2, x3, x4].all Value.oneCell' = true := by rw [List.all_cons, o1, h1]; rfl
  refine st_stoW rfl rfl sz169 rfl hone2 ?_
  refine st_nil (nx_kp [2] rfl (nx_then (cd_ret ?_)))
  exact xt_retV (.cellN rfl ld169 rfl (by repeat (first | exact Sel.here | apply Sel.there)) .nil) ⟨T, rfl, _, rfl, rfl, hone2, by rw [hn]; exact Gr.mk Tryz.underlying169 k169 rfl (Gall.cons (Gr.keep flL_ok (hf 0 _ rfl) rfl k9 rfl) (Gall.cons (Gr.cut hK k167 rfl) .nil))⟩ (by repeat (first | exact Sub.refl _ | exact Sub.nil _ | refine Sub.sel (by repeat (first | exact Sel.here | apply Sel.there)) ?_ | apply Sub.cons))
set_option maxRecDepth 100000 in
theorem clauses_ct {n : Nat} {v : Value} (h : Gr Tryz.prog S n 27 [v]) : CtN Tryz.prog 90 #[v] [S] fun u T => ∃ a ln cap a' cap', v = .slice a ln cap ∧ u = .slice a' ln cap' ∧ Gr Tryz.prog T n 27 [u] := by
  refine ct_of (n := 5) Tryz.func90 rfl rfl (len rfl) fun hr w0 => ?_
  refine cd_seq (cd_region (st_v (v_assign rfl) (st_nil (nx_then (cd_seq (cd_region (st_v (v_move rfl) (st_cl rfl rfl en109 rfl (each109_ct en110 h (fun m _ => clause_ct m)) ?_))))))))
  rintro u h' ⟨T, rfl, a, ln, cap, a', cap', rfl, rfl, hK⟩
  simp only [List.cons_append, List.nil_append]
  refine st_v (v_assign rfl) (st_nil (nx_kp [2] rfl (nx_then (cd_ret ?_))))
  exact xt_rt rfl ⟨T, rfl, a, ln, cap, a', cap', rfl, rfl, hK⟩ (by (repeat (refine Sub.sel (by repeat (first | exact Sel.here | apply Sel.there)) ?_)); (repeat apply Sub.cons); first | exact Sub.refl _ | exact Sub.nil _)
end
end Go.Hr
namespace Go.Hr
open Go Go.RowKit Go.Ck Go.Proofs Go.Proofs.YtjgiaohieadeiaaGreat Fx
attribute [local irreducible] Go.Ck.Sub St Cd Xt Nx DrL LsW
section
variable {S : Res}
set_option maxRecDepth 100000 in
theorem var_ct : ∀ m, Cp S 121 182 6 m := by
  intro m us hus hg
  have hone := Gr.one (L := typA) typA_one m 182 us (by decide) hg
  obtain ⟨n, hn, _, hf⟩ := hg.struct Tryz.underlying182
  have h2 : Gr Tryz.prog S n 136 ((us.drop 1).take (Tryz.prog.cellsOf 136)) := hf 1 _ rfl
  rw [show Tryz.prog.cellsOf 136 = 5 by kernel_rfl] at h2
  match us, hus with
  | [t, e1, e2, e3, e4, e5], _ =>
  have o1 := hone t (by simp)
  have h2 : Gr Tryz.prog S n 136 [e1, e2, e3, e4, e5] := h2
  refine ct_of (n := 8) Tryz.func121 rfl rfl (len rfl) fun hr w0 => ?_
  refine cd_seq (cd_region (st_bx rfl rfl fun b1 => ?_))
  refine st_alc al182 fun b2 => ?_
  refine st_nil (nx_kp [1, 2] rfl (nx_then (cd_seq (cd_region (st_v (v_fieldAddr rfl fa182_1 rfl) (st_v (v_ldn rfl ld136 rfl (rds_sub (us := [t, e1, e2, e3, e4, e5]) (vs := [e1, e2, e3, e4, e5]) (k := 1) rds_pt rfl)) ?_))))))
  refine st_cl rfl rfl en86 rfl (kind_ct n [e1, e2, e3, e4, e5] rfl h2) ?_
  rintro u h' ⟨T, rfl, us', rfl, h4, h1, hK⟩
  simp only [List.cons_append, List.nil_append]
  match us', h4 with
  | [x1, x2, x3, x4, x5], _ =>
  refine st_v (v_fieldAddr rfl fa182_1 rfl) (st_storeN rfl rfl sz136 rfl (ones h1) (show Sel _ (pt b1 (cl [t, e1, e2, e3, e4, e5] 182)) _ from (by repeat (first | exact Sel.here | apply Sel.there))) (by simp) ?_)
  rw [show splice [t, e1, e2, e3, e4, e5] (0 + 1) [x1, x2, x3, x4, x5] = [t, x1, x2, x3, x4, x5] from rfl]
  refine st_nil (nx_kp [1, 2] rfl (nx_then (cd_seq (cd_region (st_v (v_ldn rfl ld182 rfl rds_pt) ?_)))))
  have hone2 : [t, x1, x2, x3, x4, x5].all Value.oneCell' = true := by rw [List.all_cons, o1, h1]; rfl
  refine st_stoW rfl rfl sz182 rfl hone2 ?_
  refine st_nil (nx_kp [2] rfl (nx_then (cd_ret ?_)))
  exact xt_retV (.cellN rfl ld182 rfl (by repeat (first | exact Sel.here | apply Sel.there)) .nil) ⟨T, rfl, _, rfl, rfl, hone2, by rw [hn]; exact Gr.mk Tryz.underlying182 k182 rfl (Gall.cons (Gr.keep flL_ok (hf 0 _ rfl) rfl k9 rfl) (Gall.cons (Gr.cut hK k136 rfl) .nil))⟩ (by repeat (first | exact Sub.refl _ | exact Sub.nil _ | refine Sub.sel (by repeat (first | exact Sel.here | apply Sel.there)) ?_ | apply Sub.cons))
set_option maxRecDepth 100000 in
theorem vars_ct {n : Nat} {v : Value} (h : Gr Tryz.prog S n 143 [v]) : CtN Tryz.prog 107 #[v] [S] fun u T => ∃ a ln cap a' cap', v = .slice a ln cap ∧ u = .slice a' ln cap' ∧ Gr Tryz.prog T n 143 [u] := by
  refine ct_of (n := 5) Tryz.func107 rfl rfl (len rfl) fun hr w0 => ?_
  refine cd_seq (cd_region (st_v (v_assign rfl) (st_nil (nx_then (cd_seq (cd_region (st_v (v_move rfl) (st_cl rfl rfl en120 rfl (each120_ct en121 h (fun m _ => var_ct m)) ?_))))))))
  rintro u h' ⟨T, rfl, a, ln, cap, a', cap', rfl, rfl, hK⟩
  simp only [List.cons_append, List.nil_append]
  refine st_v (v_assign rfl) (st_nil (nx_kp [2] rfl (nx_then (cd_ret ?_))))
  exact xt_rt rfl ⟨T, rfl, a, ln, cap, a', cap', rfl, rfl, hK⟩ (by (repeat (refine Sub.sel (by repeat (first | exact Sel.here | apply Sel.there)) ?_)); (repeat apply Sub.cons); first | exact Sub.refl _ | exact Sub.nil _)
end
end Go.Hr
namespace Go.Hr
open Go Go.RowKit Go.Ck Go.Proofs Go.Proofs.YtjgiaohieadeiaaGreat Fx
attribute [local irreducible] Go.Ck.Sub St Cd Xt Nx DrL LsW
section
variable {S : Res}
set_option maxRecDepth 100000 in
theorem stmts_of_ct {n : Nat} {v : Value} (h : Gr Tryz.prog S n 144 [v]) (hF : ∀ m, m < n → Cp S 123 186 8 m) : CtN Tryz.prog 108 #[v] [S] fun u T => ∃ a ln cap a' cap', v = .slice a ln cap ∧ u = .slice a' ln cap' ∧ Gr Tryz.prog T n 144 [u] := by
  refine ct_of (n := 5) Tryz.func108 rfl rfl (len rfl) fun hr w0 => ?_
  refine cd_seq (cd_region (st_v (v_assign rfl) (st_nil (nx_then (cd_seq (cd_region (st_v (v_move rfl) (st_cl rfl rfl en122 rfl (each122_ct en123 h hF) ?_))))))))
  rintro u h' ⟨T, rfl, a, ln, cap, a', cap', rfl, rfl, hK⟩
  simp only [List.cons_append, List.nil_append]
  refine st_v (v_assign rfl) (st_nil (nx_kp [2] rfl (nx_then (cd_ret ?_))))
  exact xt_rt rfl ⟨T, rfl, a, ln, cap, a', cap', rfl, rfl, hK⟩ (by (repeat (refine Sub.sel (by repeat (first | exact Sel.here | apply Sel.there)) ?_)); (repeat apply Sub.cons); first | exact Sub.refl _ | exact Sub.nil _)
set_option maxRecDepth 100000 in
theorem stmt_ct : ∀ m, Cp S 123 186 8 m := by
  intro m
  induction m using Nat.strongRecOn with
  | ind m ih =>
    intro us hus hg
    have hone := Gr.one (L := typA) typA_one m 186 us (by decide) hg
    obtain ⟨n, hn, _, hf⟩ := hg.struct Tryz.underlying186
    have g3 : Gr Tryz.prog S n 165 ((us.drop 3).take (Tryz.prog.cellsOf 165)) := hf 3 _ rfl
    have g4 : Gr Tryz.prog S n 27 ((us.drop 4).take (Tryz.prog.cellsOf 27)) := hf 4 _ rfl
    have g5 : Gr Tryz.prog S n 144 ((us.drop 5).take (Tryz.prog.cellsOf 144)) := hf 5 _ rfl
    have g6 : Gr Tryz.prog S n 144 ((us.drop 6).take (Tryz.prog.cellsOf 144)) := hf 6 _ rfl
    have g7 : Gr Tryz.prog S n 144 ((us.drop 7).take (Tryz.prog.cellsOf 144)) := hf 7 _ rfl
    rw [show Tryz.prog.cellsOf 165 = 1 by kernel_rfl] at g3
    rw [show Tryz.prog.cellsOf 27 = 1 by kernel_rfl] at g4
    rw [show Tryz.prog.cellsOf 144 = 1 by kernel_rfl] at g5 g6 g7
    match us, hus with
    | [p, q, r, x3, x4, x5, x6, x7], _ =>
    have o1 := hone p (by simp)
    have o2 := hone q (by simp)
    have o3 := hone r (by simp)
    have o4 := hone x3 (by simp)
    have o5 := hone x4 (by simp)
    have o6 := hone x5 (by simp)
    have o7 := hone x6 (by simp)
    have o8 := hone x7 (by simp)
    have g3 : Gr Tryz.prog S n 165 [x3] := g3
    have g4 : Gr Tryz.prog S n 27 [x4] := g4
    have g5 : Gr Tryz.prog S n 144 [x5] := g5
    have g6 : Gr Tryz.prog S n 144 [x6] := g6
    have g7 : Gr Tryz.prog S n 144 [x7] := g7
    refine ct_of (n := 24) Tryz.func123 rfl rfl (len rfl) fun hr w0 => ?_
    refine cd_seq (cd_region (st_bx rfl rfl fun b1 => ?_))
    refine st_alc al186 fun b2 => ?_
    refine st_nil (nx_kp [1, 2] rfl (nx_then (cd_seq (cd_drawh (ork [(0, 2), (1, 1), (3, 2), (4, 1), (2, 0), (6, 2), (5, 0), (7, 0), (8, 2), (9, 0)] .nil) (fun i => !(Nat.beq i 5 || Nat.beq i 7 || Nat.beq i 9)) mixed (by kernel_rfl) ?_))))
    refine dp_v rfl (v_fieldAddr rfl fa186_3 rfl) (dr_v rfl (v_ldy rfl ld165) ?_)
    refine dp_v rfl (v_fieldAddr rfl fa186_4 rfl) (dr_v rfl (v_ldy rfl ld27) ?_)
    refine dr_eff rfl (st_cl rfl rfl en124 rfl (each124_ct en111 g3 (fun k _ => expr_ct k)) ?_)
    rintro u h' ⟨T1, rfl, a1, l1, c1, d1, f1, rfl, rfl, K1⟩
    simp only [List.cons_append, List.nil_append]
    refine dr_nx ?_
    refine dp_v rfl (v_fieldAddr rfl fa186_3 rfl) (dr_eff rfl (st_cl rfl rfl en90 rfl (clauses_ct g4) ?_))
    rintro u h' ⟨T2, rfl, a2, l2, c2, d2, f2, rfl, rfl, K2⟩
    simp only [List.cons_append, List.nil_append]
    refine dr_nx ?_
    refine dr_eff rfl (st_sto rfl rfl sz165 (dr_nx ?_))
    refine dp_v rfl (v_fieldAddr rfl fa186_4 rfl) (dr_eff rfl (st_sto rfl rfl sz27 (dr_nx ?_)))
    refine dr_nil (nx_kp [1, 2] rfl (nx_then (cd_seq (cd_drawh (ork [(0, 2), (1, 1), (3, 2), (4, 1), (6, 2), (7, 1), (2, 0), (9, 2), (5, 0), (8, 0), (10, 0), (11, 2), (12, 0), (13, 2), (14, 0)] .nil) (fun i => !(Nat.beq i 8 || Nat.beq i 10 || Nat.beq i 12 || Nat.beq i 14)) mixed (by kernel_rfl) ?_))))
    refine dp_v rfl (v_fieldAddr rfl fa186_5 rfl) (dr_v rfl (v_ldy rfl ld144) ?_)
    refine dp_v rfl (v_fieldAddr rfl fa186_6 rfl) (dr_v rfl (v_ldy rfl ld144) ?_)
    refine dp_v rfl (v_fieldAddr rfl fa186_7 rfl) (dr_v rfl (v_ldy rfl ld144) ?_)
    refine dr_eff rfl (st_cl rfl rfl en108 rfl (stmts_of_ct g5 (fun k hk => ih k (by omega))) ?_)
    rintro u h' ⟨T3, rfl, a3, l3, c3, d3, f3, rfl, rfl, K3⟩
    simp only [List.cons_append, List.nil_append]
    refine dr_nx ?_
    refine dp_v rfl (v_fieldAddr rfl fa186_5 rfl) (dr_eff rfl (st_cl rfl rfl en108 rfl (stmts_of_ct g6 (fun k hk => ih k (by omega))) ?_))
    rintro u h' ⟨T4, rfl, a4, l4, c4, d4, f4, rfl, rfl, K4⟩
    simp only [List.cons_append, List.nil_append]
    refine dr_nx ?_
    refine dr_eff rfl (st_cl rfl rfl en108 rfl (stmts_of_ct g7 (fun k hk => ih k (by omega))) ?_)
    rintro u h' ⟨T5, rfl, a5, l5, c5, d5, f5, rfl, rfl, K5⟩
    simp only [List.cons_append, List.nil_append]
    refine dr_nx ?_
    refine dr_eff rfl (st_sto rfl rfl sz144 (dr_nx ?_))
    refine dp_v rfl (v_fieldAddr rfl fa186_6 rfl) (dr_eff rfl (st_sto rfl rfl sz144 (dr_nx ?_)))
    refine dp_v rfl (v_fieldAddr rfl fa186_7 rfl) (dr_eff rfl (st_sto rfl rfl sz144 (dr_nx ?_)))
    refine dr_nil (nx_kp [1, 2] rfl (nx_then (cd_seq (cd_region (st_v (v_ldn rfl ld186 rfl rds_pt) ?_)))))
    have hone2 : [p, q, r, Value.slice d1 l1 f1, Value.slice d2 l2 f2, Value.slice d3 l3 f3, Value.slice d4 l4 f4, Value.slice d5 l5 f5].all Value.oneCell' = true := by simp only [List.all_cons, List.all_nil, o1, o2, o3, Bool.and_true, Bool.true_and]; rfl
    refine st_stoW rfl rfl sz186 rfl hone2 ?_
    refine st_nil (nx_kp [2] rfl (nx_then (cd_ret (xt_pv (pv_pack (L := [T1, T2, T3, T4, T5])) ?_))))
    simp only [List.cons_append, List.nil_append]
    exact xt_retV (.cellN rfl ld186 rfl (by repeat (first | exact Sel.here | apply Sel.there)) .nil) ⟨Res.star [T1, T2, T3, T4, T5], rfl, _, rfl, rfl, hone2, by rw [hn]; exact Gr.mk Tryz.underlying186 k186 rfl (Gall.cons (Gr.keep flL_ok (hf 0 _ rfl) rfl k3 rfl) (Gall.cons (Gr.keep flL_ok (hf 1 _ rfl) rfl k9 rfl) (Gall.cons (Gr.keep flL_ok (hf 2 _ rfl) rfl k3 rfl) (Gall.cons (Gr.cut (K1.mono (rd_in (by repeat (first | exact Sel.here | apply Sel.there)))) k165 rfl) (Gall.cons (Gr.cut (K2.mono (rd_in (by repeat (first | exact Sel.here | apply Sel.there)))) k27 rfl) (Gall.cons (Gr.cut (K3.mono (rd_in (by repeat (first | exact Sel.here | apply Sel.there)))) k144 rfl) (Gall.cons (Gr.cut (K4.mono (rd_in (by repeat (first | exact Sel.here | apply Sel.there)))) k144 rfl) (Gall.cons (Gr.cut (K5.mono (rd_in (by repeat (first | exact Sel.here | apply Sel.there)))) k144 rfl) .nil))))))))⟩ (by repeat (first | exact Sub.refl _ | exact Sub.nil _ | refine Sub.sel (by repeat (first | exact Sel.here | apply Sel.there)) ?_ | apply Sub.cons))
set_option maxRecDepth 100000 in
theorem stmts_ct {n : Nat} {v : Value} (h : Gr Tryz.prog S n 144 [v]) : CtN Tryz.prog 108 #[v] [S] fun u T => ∃ a ln cap a' cap', v = .slice a ln cap ∧ u = .slice a' ln cap' ∧ Gr Tryz.prog T n 144 [u] := stmts_of_ct h fun m _ => stmt_ct m
end
end Go.Hr
namespace Go.Hr
open Go Go.RowKit Go.Ck Go.Proofs Go.Proofs.YtjgiaohieadeiaaGreat Fx
attribute [local irreducible] Go.Ck.Sub St Cd Xt Nx DrL LsW
section
variable {S : Res}
set_option maxRecDepth 100000 in
theorem clone82_ct {n : Nat} {v : Value} (h : Gr Tryz.prog S n 25 [v]) : CtN Tryz.prog 82 #[v] [S] fun u T => u.oneCell' = true ∧ Gr Tryz.prog T n 25 [u] := by
  obtain ⟨m, l, hn, hrow, hb⟩ := h.row Tryz.underlying25
  rw [k9] at hrow
  rw [show Tryz.prog.bytesOf 9 = 16 by kernel_rfl] at hb
  have hrb : reachBytes = 140737488351232 := rfl
  obtain ⟨a, cap, rfl, _⟩ := id hrow
  refine ct_of (n := 8) Tryz.func82 rfl rfl (len rfl) fun hr w0 => ?_
  refine cd_seq (cd_region (st_v (v_assign rfl) (st_nil (nx_then (cd_seq (cd_seq (cd_region (st_v (v_move rfl) (st_v (v_eql_slice_nil rfl rfl Tryz.underlying25) (st_nil (nx_kp [0, 2, 4] rfl (nx_then ?_))))))))))))
  cases a with
  | none =>
    refine cd_true rfl ?_
    refine cd_seq (cd_region (st_v (v_assign rfl) (st_nil (nx_kp [2] rfl (nx_then (cd_ret (xt_ret_then (xt_vw (vw_unstar (L := [])) ?_))))))))
    exact xt_rt rfl ⟨Res.star [], rfl, rfl, h.nil_slice Tryz.underlying25⟩ (by (repeat (refine Sub.sel (by repeat (first | exact Sel.here | apply Sel.there)) ?_)); (repeat apply Sub.cons); first | exact Sub.refl _ | exact Sub.nil _)
  | some a =>
    refine cd_false rfl ?_
    refine cd_skip (xt_then (cd_seq (cd_region (st_bs0 Tryz.underlying25 inf9 fun b5 => ?_))))
    refine st_v (v_move rfl) (st_apr hrow rfl rfl Tryz.underlying25 inf9 rfl (by decide) (show Sel _ (VR (.slice (some ⟨b5, 0, none⟩) 0 0) 9 1 []) _ from (by repeat (first | exact Sel.here | apply Sel.there))) (show Sel _ S _ from (by repeat (first | exact Sel.here | apply Sel.there))) (fun us x _ h => Gr.one typA_one m 9 us (by decide) h) (by simp <;> omega) (by simp <;> omega) (ltn rfl) fun v7 n1 hv7 q1 q2 q3 => ?_)
    refine st_v (v_assign rfl) (st_nil (nx_kp [2] rfl (nx_then (cd_ret (xt_ok (r := VR v7 9 1 n1) (by repeat (first | exact Sel.here | apply Sel.there)) fun hok => ?_)))))
    have hin : ∀ us ∈ n1, Gr Tryz.prog (VR v7 9 1 n1) m 9 us := fun us hu => by
      obtain ⟨j, hj, rfl⟩ := List.getElem_of_mem hu
      exact Gr.flat flL_ok rfl (q3 j _ (l[j]'(by omega)) (List.getElem?_eq_getElem hj) (List.getElem?_eq_getElem _))
    exact xt_rt rfl ⟨VR v7 9 1 n1, rfl, hv7, by rw [hn]; exact gr_row Tryz.underlying25 k9 hok (fun _ _ h => h) hin (by rw [q1, show Tryz.prog.bytesOf 9 = 16 by kernel_rfl]; exact hb)⟩ (by (repeat (refine Sub.sel (by repeat (first | exact Sel.here | apply Sel.there)) ?_)); (repeat apply Sub.cons); first | exact Sub.refl _ | exact Sub.nil _)
def typC : List TypeId := [9, 131, 140]
theorem typC_one : oneB Tryz.prog typC = true := by kernel_rfl
set_option maxRecDepth 100000 in
theorem clone81_ct {n : Nat} {v : Value} (h : Gr Tryz.prog S n 23 [v]) : CtN Tryz.prog 81 #[v] [S] fun u T => u.oneCell' = true ∧ Gr Tryz.prog T n 23 [u] := by
  obtain ⟨m, l, hn, hrow, hb⟩ := h.row Tryz.underlying23
  rw [k131] at hrow
  rw [show Tryz.prog.bytesOf 131 = 32 by kernel_rfl] at hb
  have hrb : reachBytes = 140737488351232 := rfl
  obtain ⟨a, cap, rfl, _⟩ := id hrow
  refine ct_of (n := 8) Tryz.func81 rfl rfl (len rfl) fun hr w0 => ?_
  refine cd_seq (cd_region (st_v (v_assign rfl) (st_nil (nx_then (cd_seq (cd_seq (cd_region (st_v (v_move rfl) (st_v (v_eql_slice_nil rfl rfl Tryz.underlying23) (st_nil (nx_kp [0, 2, 4] rfl (nx_then ?_))))))))))))
  cases a with
  | none =>
    refine cd_true rfl ?_
    refine cd_seq (cd_region (st_v (v_assign rfl) (st_nil (nx_kp [2] rfl (nx_then (cd_ret (xt_ret_then (xt_vw (vw_unstar (L := [])) ?_))))))))
    exact xt_rt rfl ⟨Res.star [], rfl, rfl, h.nil_slice Tryz.underlying23⟩ (by (repeat (refine Sub.sel (by repeat (first | exact Sel.here | apply Sel.there)) ?_)); (repeat apply Sub.cons); first | exact Sub.refl _ | exact Sub.nil _)
  | some a =>
    refine cd_false rfl ?_
    refine cd_skip (xt_then (cd_seq (cd_region (st_bs0 Tryz.underlying23 inf131 fun b5 => ?_))))
    refine st_v (v_move rfl) (st_apr hrow rfl rfl Tryz.underlying23 inf131 rfl (by decide) (show Sel _ (VR (.slice (some ⟨b5, 0, none⟩) 0 0) 131 2 []) _ from (by repeat (first | exact Sel.here | apply Sel.there))) (show Sel _ S _ from (by repeat (first | exact Sel.here | apply Sel.there))) (fun us x _ h => Gr.one typC_one m 131 us (by decide) h) (by simp <;> omega) (by simp <;> omega) (ltn rfl) fun v7 n1 hv7 q1 q2 q3 => ?_)
    refine st_v (v_assign rfl) (st_nil (nx_kp [2] rfl (nx_then (cd_ret (xt_ok (r := VR v7 131 2 n1) (by repeat (first | exact Sel.here | apply Sel.there)) fun hok => ?_)))))
    have hin : ∀ us ∈ n1, Gr Tryz.prog (VR v7 131 2 n1) m 131 us := fun us hu => by
      obtain ⟨j, hj, rfl⟩ := List.getElem_of_mem hu
      exact Gr.flat flL_ok rfl (q3 j _ (l[j]'(by omega)) (List.getElem?_eq_getElem hj) (List.getElem?_eq_getElem _))
    exact xt_rt rfl ⟨VR v7 131 2 n1, rfl, hv7, by rw [hn]; exact gr_row Tryz.underlying23 k131 hok (fun _ _ h => h) hin (by rw [q1, show Tryz.prog.bytesOf 131 = 32 by kernel_rfl]; exact hb)⟩ (by (repeat (refine Sub.sel (by repeat (first | exact Sel.here | apply Sel.there)) ?_)); (repeat apply Sub.cons); first | exact Sub.refl _ | exact Sub.nil _)
set_option maxRecDepth 100000 in
theorem clone87_ct {n : Nat} {v : Value} (h : Gr Tryz.prog S n 91 [v]) : CtN Tryz.prog 87 #[v] [S] fun u T => u.oneCell' = true ∧ Gr Tryz.prog T n 91 [u] := by
  obtain ⟨m, l, hn, hrow, hb⟩ := h.row Tryz.underlying91
  rw [k140] at hrow
  rw [show Tryz.prog.bytesOf 140 = 32 by kernel_rfl] at hb
  have hrb : reachBytes = 140737488351232 := rfl
  obtain ⟨a, cap, rfl, _⟩ := id hrow
  refine ct_of (n := 8) Tryz.func87 rfl rfl (len rfl) fun hr w0 => ?_
  refine cd_seq (cd_region (st_v (v_assign rfl) (st_nil (nx_then (cd_seq (cd_seq (cd_region (st_v (v_move rfl) (st_v (v_eql_slice_nil rfl rfl Tryz.underlying91) (st_nil (nx_kp [0, 2, 4] rfl (nx_then ?_))))))))))))
  cases a with
  | none =>
    refine cd_true rfl ?_
    refine cd_seq (cd_region (st_v (v_assign rfl) (st_nil (nx_kp [2] rfl (nx_then (cd_ret (xt_ret_then (xt_vw (vw_unstar (L := [])) ?_))))))))
    exact xt_rt rfl ⟨Res.star [], rfl, rfl, h.nil_slice Tryz.underlying91⟩ (by (repeat (refine Sub.sel (by repeat (first | exact Sel.here | apply Sel.there)) ?_)); (repeat apply Sub.cons); first | exact Sub.refl _ | exact Sub.nil _)
  | some a =>
    refine cd_false rfl ?_
    refine cd_skip (xt_then (cd_seq (cd_region (st_bs0 Tryz.underlying91 inf140 fun b5 => ?_))))
    refine st_v (v_move rfl) (st_apr hrow rfl rfl Tryz.underlying91 inf140 rfl (by decide) (show Sel _ (VR (.slice (some ⟨b5, 0, none⟩) 0 0) 140 2 []) _ from (by repeat (first | exact Sel.here | apply Sel.there))) (show Sel _ S _ from (by repeat (first | exact Sel.here | apply Sel.there))) (fun us x _ h => Gr.one typC_one m 140 us (by decide) h) (by simp <;> omega) (by simp <;> omega) (ltn rfl) fun v7 n1 hv7 q1 q2 q3 => ?_)
    refine st_v (v_assign rfl) (st_nil (nx_kp [2] rfl (nx_then (cd_ret (xt_ok (r := VR v7 140 2 n1) (by repeat (first | exact Sel.here | apply Sel.there)) fun hok => ?_)))))
    have hin : ∀ us ∈ n1, Gr Tryz.prog (VR v7 140 2 n1) m 140 us := fun us hu => by
      obtain ⟨j, hj, rfl⟩ := List.getElem_of_mem hu
      exact Gr.flat flL_ok rfl (q3 j _ (l[j]'(by omega)) (List.getElem?_eq_getElem hj) (List.getElem?_eq_getElem _))
    exact xt_rt rfl ⟨VR v7 140 2 n1, rfl, hv7, by rw [hn]; exact gr_row Tryz.underlying91 k140 hok (fun _ _ h => h) hin (by rw [q1, show Tryz.prog.bytesOf 140 = 32 by kernel_rfl]; exact hb)⟩ (by (repeat (refine Sub.sel (by repeat (first | exact Sel.here | apply Sel.there)) ?_)); (repeat apply Sub.cons); first | exact Sub.refl _ | exact Sub.nil _)
end
end Go.Hr
namespace Go.Hr
open Go Go.RowKit Go.Ck Go.Proofs Go.Proofs.YtjgiaohieadeiaaGreat Fx
attribute [local irreducible] Go.Ck.Sub St Cd Xt Nx DrL LsW
section
variable {S : Res}
/-- The name is kept. -/
def Cp0 (S : Res) (K : FuncId) (t : TypeId) (sz m : Nat) : Prop := ∀ us : List Value, us.length = sz → Gr Tryz.prog S m t us → CtN Tryz.prog K #[.agg us.toArray] [S] fun u T => ∃ us' : List Value, u = .agg us'.toArray ∧ us'.length = sz ∧ us'.all Value.oneCell' = true ∧ Gr Tryz.prog T m t us' ∧ us'[0]? = us[0]?
def typD : List TypeId := typA ++ [131, 140, 91, 93]
theorem typD_one : oneB Tryz.prog typD = true := by kernel_rfl
set_option maxRecDepth 100000 in
theorem parent_ct (m : Nat) : Cp0 S 84 93 6 m := by
  intro us hus hg
  have hone := Gr.one (L := typD) typD_one m 93 us (by decide) hg
  obtain ⟨n, hn, _, hf⟩ := hg.struct Tryz.underlying93
  have g1 : Gr Tryz.prog S n 90 ((us.drop 1).take (Tryz.prog.cellsOf 90)) := hf 1 _ rfl
  have g2 : Gr Tryz.prog S n 91 ((us.drop 2).take (Tryz.prog.cellsOf 91)) := hf 2 _ rfl
  have g3 : Gr Tryz.prog S n 25 ((us.drop 3).take (Tryz.prog.cellsOf 25)) := hf 3 _ rfl
  have g4 : Gr Tryz.prog S n 25 ((us.drop 4).take (Tryz.prog.cellsOf 25)) := hf 4 _ rfl
  have g5 : Gr Tryz.prog S n 25 ((us.drop 5).take (Tryz.prog.cellsOf 25)) := hf 5 _ rfl
  rw [show Tryz.prog.cellsOf 90 = 1 by kernel_rfl] at g1
  rw [show Tryz.prog.cellsOf 91 = 1 by kernel_rfl] at g2
  rw [show Tryz.prog.cellsOf 25 = 1 by kernel_rfl] at g3 g4 g5
  match us, hus with
  | [p, x1, x2, x3, x4, x5], _ =>
  have o0 := hone p (by simp)
  have o1 := hone x1 (by simp)
  have o2 := hone x2 (by simp)
  have o3 := hone x3 (by simp)
  have o4 := hone x4 (by simp)
  have o5 := hone x5 (by simp)
  have g1 : Gr Tryz.prog S n 90 [x1] := g1
  have g2 : Gr Tryz.prog S n 91 [x2] := g2
  have g3 : Gr Tryz.prog S n 25 [x3] := g3
  have g4 : Gr Tryz.prog S n 25 [x4] := g4
  have g5 : Gr Tryz.prog S n 25 [x5] := g5
  refine ct_of (n := 24) Tryz.func84 rfl rfl (len rfl) fun hr w0 => ?_
  refine cd_seq (cd_region (st_bx rfl rfl fun b1 => ?_))
  refine st_alc al93 fun b2 => ?_
  refine st_nil (nx_kp [1, 2] rfl (nx_then (cd_seq (cd_drawh (ork [(0, 2), (1, 1), (3, 2), (4, 1), (2, 0), (6, 2), (5, 0), (7, 0), (8, 2), (9, 0)] .nil) (fun i => !(Nat.beq i 5 || Nat.beq i 7 || Nat.beq i 9)) mixed (by kernel_rfl) ?_))))
  refine dp_v rfl (v_fieldAddr rfl fa93_1 rfl) (dr_v rfl (v_ldy rfl ld90) ?_)
  refine dp_v rfl (v_fieldAddr rfl fa93_2 rfl) (dr_v rfl (v_ldy rfl ld91) ?_)
  refine dr_eff rfl (st_cl rfl rfl en85 rfl (each85_ct en86 g1 (fun k _ => kind_ct k)) ?_)
  rintro u1 h' ⟨T1, rfl, a1, l1, c1, d1, f1, rfl, rfl, K1⟩
  simp only [List.cons_append, List.nil_append]
  refine dr_nx ?_
  refine dp_v rfl (v_fieldAddr rfl fa93_1 rfl) (dr_eff rfl (st_cl rfl rfl en87 rfl (clone87_ct g2) ?_))
  rintro u2 h' ⟨T2, rfl, hu2, K2⟩
  simp only [List.cons_append, List.nil_append]
  refine dr_nx ?_
  refine dr_eff rfl (st_sto rfl rfl sz90 (dr_nx ?_))
  refine dp_v rfl (v_fieldAddr rfl fa93_2 rfl) (dr_eff rfl (st_sto rfl rfl sz91 (dr_nx ?_)))
  refine dr_nil (nx_kp [1, 2] rfl (nx_then (cd_seq (cd_drawh (ork [(0, 2), (1, 1), (3, 2), (4, 1), (6, 2), (7, 1), (2, 0), (9, 2), (5, 0), (8, 0), (10, 0), (11, 2), (12, 0), (13, 2), (14, 0)] .nil) (fun i => !(Nat.beq i 8 || Nat.beq i 10 || Nat.beq i 12 || Nat.beq i 14)) mixed (by kernel_rfl) ?_))))
  refine dp_v rfl (v_fieldAddr rfl fa93_3 rfl) (dr_v rfl (v_ldy rfl ld25) ?_)
  refine dp_v rfl (v_fieldAddr rfl fa93_4 rfl) (dr_v rfl (v_ldy rfl ld25) ?_)
  refine dp_v rfl (v_fieldAddr rfl fa93_5 rfl) (dr_v rfl (v_ldy rfl ld25) ?_)
  refine dr_eff rfl (st_cl rfl rfl en82 rfl (clone82_ct g3) ?_)
  rintro u3 h' ⟨T3, rfl, hu3, K3⟩
  simp only [List.cons_append, List.nil_append]
  refine dr_nx ?_
  refine dp_v rfl (v_fieldAddr rfl fa93_3 rfl) (dr_eff rfl (st_cl rfl rfl en82 rfl (clone82_ct g4) ?_))
  rintro u4 h' ⟨T4, rfl, hu4, K4⟩
  simp only [List.cons_append, List.nil_append]
  refine dr_nx ?_
  refine dr_eff rfl (st_cl rfl rfl en82 rfl (clone82_ct g5) ?_)
  rintro u5 h' ⟨T5, rfl, hu5, K5⟩
  simp only [List.cons_append, List.nil_append]
  refine dr_nx ?_
  refine dr_eff rfl (st_sto rfl rfl sz25 (dr_nx ?_))
  refine dp_v rfl (v_fieldAddr rfl fa93_4 rfl) (dr_eff rfl (st_sto rfl rfl sz25 (dr_nx ?_)))
  refine dp_v rfl (v_fieldAddr rfl fa93_5 rfl) (dr_eff rfl (st_sto rfl rfl sz25 (dr_nx ?_)))
  refine dr_nil (nx_kp [1, 2] rfl (nx_then (cd_seq (cd_region (st_v (v_ldn rfl ld93 rfl rds_pt) ?_)))))
  have hone2 : [p, Value.slice d1 l1 f1, u2, u3, u4, u5].all Value.oneCell' = true := by simp only [List.all_cons, List.all_nil, o0, hu2, hu3, hu4, hu5, Bool.and_true, Bool.true_and]; rfl
  refine st_stoW rfl rfl sz93 rfl hone2 ?_
  refine st_nil (nx_kp [2] rfl (nx_then (cd_ret (xt_pv (pv_pack (L := [T1, T2, T3, T4, T5])) ?_))))
  simp only [List.cons_append, List.nil_append]
  exact xt_retV (.cellN rfl ld93 rfl (by repeat (first | exact Sel.here | apply Sel.there)) .nil) ⟨Res.star [T1, T2, T3, T4, T5], rfl, _, rfl, rfl, hone2, by rw [hn]; exact Gr.mk Tryz.underlying93 k93 rfl (Gall.cons (Gr.keep flL_ok (hf 0 _ rfl) rfl k9 rfl) (Gall.cons (Gr.cut (K1.mono (rd_in (by repeat (first | exact Sel.here | apply Sel.there)))) k90 rfl) (Gall.cons (Gr.cut (K2.mono (rd_in (by repeat (first | exact Sel.here | apply Sel.there)))) k91 rfl) (Gall.cons (Gr.cut (K3.mono (rd_in (by repeat (first | exact Sel.here | apply Sel.there)))) k25 rfl) (Gall.cons (Gr.cut (K4.mono (rd_in (by repeat (first | exact Sel.here | apply Sel.there)))) k25 rfl) (Gall.cons (Gr.cut (K5.mono (rd_in (by repeat (first | exact Sel.here | apply Sel.there)))) k25 rfl) .nil)))))), rfl⟩ (by repeat (first | exact Sub.refl _ | exact Sub.nil _ | refine Sub.sel (by repeat (first | exact Sel.here | apply Sel.there)) ?_ | apply Sub.cons))
end
end Go.Hr
namespace Go.Hr
open Go Go.RowKit Go.Ck Go.Proofs Go.Proofs.YtjgiaohieadeiaaGreat Fx
attribute [local irreducible] Go.Ck.Sub St Cd Xt Nx DrL LsW
section
variable {S : Res}
set_option maxRecDepth 100000 in
theorem feature_ct (m : Nat) : Cp S 89 146 15 m := by
  intro us hus hg
  have hone := Gr.one (L := typD) typD_one m 146 us (by decide) hg
  obtain ⟨n, hn, _, hf⟩ := hg.struct Tryz.underlying146
  have g2 : Gr Tryz.prog S n 25 ((us.drop 2).take (Tryz.prog.cellsOf 25)) := hf 2 _ rfl
  have g3 : Gr Tryz.prog S n 143 ((us.drop 3).take (Tryz.prog.cellsOf 143)) := hf 3 _ rfl
  have g4 : Gr Tryz.prog S n 136 ((us.drop 4).take (Tryz.prog.cellsOf 136)) := hf 4 _ rfl
  have g5 : Gr Tryz.prog S n 143 ((us.drop 9).take (Tryz.prog.cellsOf 143)) := hf 5 _ rfl
  have g6 : Gr Tryz.prog S n 27 ((us.drop 10).take (Tryz.prog.cellsOf 27)) := hf 6 _ rfl
  have g7 : Gr Tryz.prog S n 27 ((us.drop 11).take (Tryz.prog.cellsOf 27)) := hf 7 _ rfl
  have g8 : Gr Tryz.prog S n 144 ((us.drop 12).take (Tryz.prog.cellsOf 144)) := hf 8 _ rfl
  have g9 : Gr Tryz.prog S n 144 ((us.drop 13).take (Tryz.prog.cellsOf 144)) := hf 9 _ rfl
  rw [show Tryz.prog.cellsOf 25 = 1 by kernel_rfl] at g2
  rw [show Tryz.prog.cellsOf 143 = 1 by kernel_rfl] at g3 g5
  rw [show Tryz.prog.cellsOf 136 = 5 by kernel_rfl] at g4
  rw [show Tryz.prog.cellsOf 27 = 1 by kernel_rfl] at g6 g7
  rw [show Tryz.prog.cellsOf 144 = 1 by kernel_rfl] at g8 g9
  match us, hus with
  | [p, q, x2, x3, y1, y2, y3, y4, y5, x5, x6, x7, x8, x9, z], _ =>
  have o1 := hone p (by simp)
  have o2 := hone q (by simp)
  have o3 := hone z (by simp)
  have o4 := hone x2 (by simp)
  have o5 := hone x3 (by simp)
  have o6 := hone x5 (by simp)
  have o7 := hone x6 (by simp)
  have o8 := hone x7 (by simp)
  have o9 := hone x8 (by simp)
  have o10 := hone x9 (by simp)
  have g2 : Gr Tryz.prog S n 25 [x2] := g2
  have g3 : Gr Tryz.prog S n 143 [x3] := g3
  have g4 : Gr Tryz.prog S n 136 [y1, y2, y3, y4, y5] := g4
  have g5 : Gr Tryz.prog S n 143 [x5] := g5
  have g6 : Gr Tryz.prog S n 27 [x6] := g6
  have g7 : Gr Tryz.prog S n 27 [x7] := g7
  have g8 : Gr Tryz.prog S n 144 [x8] := g8
  have g9 : Gr Tryz.prog S n 144 [x9] := g9
  refine ct_of (n := 36) Tryz.func89 rfl rfl (len rfl) fun hr w0 => ?_
  refine cd_seq (cd_region (st_bx rfl rfl fun b1 => ?_))
  refine st_alc al146 fun b2 => ?_
  refine st_nil (nx_kp [1, 2] rfl (nx_then (cd_seq (cd_drawh (ork [(0, 2), (1, 1), (3, 2), (4, 1), (6, 2), (7, 1), (9, 2), (10, 1), (2, 0), (12, 2), (5, 0), (8, 0), (11, 0), (13, 0), (14, 2), (15, 0), (16, 2), (17, 0), (18, 2), (19, 0)] .nil) (fun i => !(Nat.beq i 11 || Nat.beq i 13 || Nat.beq i 15 || Nat.beq i 17 || Nat.beq i 19)) mixed (by kernel_rfl) ?_))))
  refine dp_v rfl (v_fieldAddr rfl fa146_2 rfl) (dr_v rfl (v_ldy rfl ld25) ?_)
  refine dp_v rfl (v_fieldAddr rfl fa146_3 rfl) (dr_v rfl (v_ldy rfl ld143) ?_)
  refine dp_v rfl (v_fieldAddr rfl fa146_4 rfl) (dr_v rfl (v_ldn rfl ld136 rfl (rds_sub (us := [p, q, x2, x3, y1, y2, y3, y4, y5, x5, x6, x7, x8, x9, z]) (vs := [y1, y2, y3, y4, y5]) (k := 4) rds_pt rfl)) ?_)
  refine dp_v rfl (v_fieldAddr rfl fa146_5 rfl) (dr_v rfl (v_ldy rfl ld143) ?_)
  refine dr_eff rfl (st_cl rfl rfl en82 rfl (clone82_ct g2) ?_)
  rintro u2 h' ⟨T2, rfl, hu2, K2⟩
  simp only [List.cons_append, List.nil_append]
  refine dr_nx ?_
  refine dp_v rfl (v_fieldAddr rfl fa146_2 rfl) (dr_eff rfl (st_cl rfl rfl en107 rfl (vars_ct g3) ?_))
  rintro u3 h' ⟨T3, rfl, a3, l3, c3, d3, f3, rfl, rfl, K3⟩
  simp only [List.cons_append, List.nil_append]
  refine dr_nx ?_
  refine dr_eff rfl (st_cl rfl rfl en86 rfl (kind_ct n [y1, y2, y3, y4, y5] rfl g4) ?_)
  rintro u4 h' ⟨T4, rfl, us4, rfl, h4, h1, K4⟩
  simp only [List.cons_append, List.nil_append]
  match us4, h4 with
  | [w1, w2, w3, w4, w5], _ =>
  refine dr_nx ?_
  refine dr_eff rfl (st_cl rfl rfl en107 rfl (vars_ct g5) ?_)
  rintro u5 h' ⟨T5, rfl, a5, l5, c5, d5, f5, rfl, rfl, K5⟩
  simp only [List.cons_append, List.nil_append]
  refine dr_nx ?_
  refine dr_eff rfl (st_sto rfl rfl sz25 (dr_nx ?_))
  refine dp_v rfl (v_fieldAddr rfl fa146_3 rfl) (dr_eff rfl (st_sto rfl rfl sz143 (dr_nx ?_)))
  refine dp_v rfl (v_fieldAddr rfl fa146_4 rfl) (dr_eff rfl (st_storeN rfl rfl sz136 rfl (ones h1) (show Sel _ (pt b1 (cl [p, q, u2, Value.slice d3 l3 f3, y1, y2, y3, y4, y5, Value.slice a5 l5 c5, x6, x7, x8, x9, z] 146)) _ from (by repeat (first | exact Sel.here | apply Sel.there))) (by simp) ?_))
  rw [show splice [p, q, u2, Value.slice d3 l3 f3, y1, y2, y3, y4, y5, Value.slice a5 l5 c5, x6, x7, x8, x9, z] (0 + 4) [w1, w2, w3, w4, w5] = [p, q, u2, Value.slice d3 l3 f3, w1, w2, w3, w4, w5, Value.slice a5 l5 c5, x6, x7, x8, x9, z] from rfl]
  refine dr_nx ?_
  refine dp_v rfl (v_fieldAddr rfl fa146_5 rfl) (dr_eff rfl (st_sto rfl rfl sz143 (dr_nx ?_)))
  refine dr_nil (nx_kp [1, 2] rfl (nx_then (cd_seq (cd_drawh (ork [(0, 2), (1, 1), (3, 2), (4, 1), (6, 2), (7, 1), (9, 2), (10, 1), (2, 0), (12, 2), (5, 0), (8, 0), (11, 0), (13, 0), (14, 2), (15, 0), (16, 2), (17, 0), (18, 2), (19, 0)] .nil) (fun i => !(Nat.beq i 11 || Nat.beq i 13 || Nat.beq i 15 || Nat.beq i 17 || Nat.beq i 19)) mixed (by kernel_rfl) ?_))))
  refine dp_v rfl (v_fieldAddr rfl fa146_6 rfl) (dr_v rfl (v_ldy rfl ld27) ?_)
  refine dp_v rfl (v_fieldAddr rfl fa146_7 rfl) (dr_v rfl (v_ldy rfl ld27) ?_)
  refine dp_v rfl (v_fieldAddr rfl fa146_8 rfl) (dr_v rfl (v_ldy rfl ld144) ?_)
  refine dp_v rfl (v_fieldAddr rfl fa146_9 rfl) (dr_v rfl (v_ldy rfl ld144) ?_)
  refine dr_eff rfl (st_cl rfl rfl en90 rfl (clauses_ct g6) ?_)
  rintro u6 h' ⟨T6, rfl, a6, l6, c6, d6, f6, rfl, rfl, K6⟩
  simp only [List.cons_append, List.nil_append]
  refine dr_nx ?_
  refine dp_v rfl (v_fieldAddr rfl fa146_6 rfl) (dr_eff rfl (st_cl rfl rfl en90 rfl (clauses_ct g7) ?_))
  rintro u7 h' ⟨T7, rfl, a7, l7, c7, d7, f7, rfl, rfl, K7⟩
  simp only [List.cons_append, List.nil_append]
  refine dr_nx ?_
  refine dr_eff rfl (st_cl rfl rfl en108 rfl (stmts_ct g8) ?_)
  rintro u8 h' ⟨T8, rfl, a8, l8, c8, d8, f8, rfl, rfl, K8⟩
  simp only [List.cons_append, List.nil_append]
  refine dr_nx ?_
  refine dr_eff rfl (st_cl rfl rfl en108 rfl (stmts_ct g9) ?_)
  rintro u9 h' ⟨T9, rfl, a9, l9, c9, d9, f9, rfl, rfl, K9⟩
  simp only [List.cons_append, List.nil_append]
  refine dr_nx ?_
  refine dr_eff rfl (st_sto rfl rfl sz27 (dr_nx ?_))
  refine dp_v rfl (v_fieldAddr rfl fa146_7 rfl) (dr_eff rfl (st_sto rfl rfl sz27 (dr_nx ?_)))
  refine dp_v rfl (v_fieldAddr rfl fa146_8 rfl) (dr_eff rfl (st_sto rfl rfl sz144 (dr_nx ?_)))
  refine dp_v rfl (v_fieldAddr rfl fa146_9 rfl) (dr_eff rfl (st_sto rfl rfl sz144 (dr_nx ?_)))
  refine dr_nil (nx_kp [1, 2] rfl (nx_then (cd_seq (cd_region (st_v (v_ldn rfl ld146 rfl rds_pt) ?_)))))
  have hw : [w1, w2, w3, w4, w5].all Value.oneCell' = true := h1
  have hone2 : [p, q, u2, Value.slice d3 l3 f3, w1, w2, w3, w4, w5, Value.slice d5 l5 f5, Value.slice d6 l6 f6, Value.slice d7 l7 f7, Value.slice d8 l8 f8, Value.slice d9 l9 f9, z].all Value.oneCell' = true := by
    simp only [List.all_cons, List.all_nil, Bool.and_true, Bool.and_eq_true] at hw
    obtain ⟨e1, e2, e3, e4, e5⟩ := hw
    simp only [List.all_cons, List.all_nil, o1, o2, o3, hu2, e1, e2, e3, e4, e5, Bool.and_true, Bool.true_and]; rfl
  refine st_stoW rfl rfl sz146 rfl hone2 ?_
  refine st_nil (nx_kp [2] rfl (nx_then (cd_ret (xt_pv (pv_pack (L := [T2, T3, T4, T5, T6, T7, T8, T9])) ?_))))
  simp only [List.cons_append, List.nil_append]
  exact xt_retV (.cellN rfl ld146 rfl (by repeat (first | exact Sel.here | apply Sel.there)) .nil) ⟨Res.star [T2, T3, T4, T5, T6, T7, T8, T9], rfl, _, rfl, rfl, hone2, by rw [hn]; exact Gr.mk Tryz.underlying146 k146 rfl (Gall.cons (Gr.keep flL_ok (hf 0 _ rfl) rfl k3 rfl) (Gall.cons (Gr.keep flL_ok (hf 1 _ rfl) rfl k9 rfl) (Gall.cons (Gr.cut (K2.mono (rd_in (by repeat (first | exact Sel.here | apply Sel.there)))) k25 rfl) (Gall.cons (Gr.cut (K3.mono (rd_in (by repeat (first | exact Sel.here | apply Sel.there)))) k143 rfl) (Gall.cons (Gr.cut (K4.mono (rd_in (by repeat (first | exact Sel.here | apply Sel.there)))) k136 rfl) (Gall.cons (Gr.cut (K5.mono (rd_in (by repeat (first | exact Sel.here | apply Sel.there)))) k143 rfl) (Gall.cons (Gr.cut (K6.mono (rd_in (by repeat (first | exact Sel.here | apply Sel.there)))) k27 rfl) (Gall.cons (Gr.cut (K7.mono (rd_in (by repeat (first | exact Sel.here | apply Sel.there)))) k27 rfl) (Gall.cons (Gr.cut (K8.mono (rd_in (by repeat (first | exact Sel.here | apply Sel.there)))) k144 rfl) (Gall.cons (Gr.cut (K9.mono (rd_in (by repeat (first | exact Sel.here | apply Sel.there)))) k144 rfl) (Gall.cons (Gr.keep flL_ok (hf 10 _ rfl) rfl k4 rfl) .nil)))))))))))⟩ (by repeat (first | exact Sub.refl _ | exact Sub.nil _ | refine Sub.sel (by repeat (first | exact Sel.here | apply Sel.there)) ?_ | apply Sub.cons))
end
end Go.Hr
namespace Go.Hr
open Go Go.RowKit Go.Ck Go.Proofs Go.Proofs.YtjgiaohieadeiaaGreat Fx
attribute [local irreducible] Go.Ck.Sub St Cd Xt Nx DrL LsW
theorem ctn_okw {P : Program} {k : FuncId} {args : Array Value} {r : Res} {hf : SH} {Q : Value → Res → Prop} (h : (∃ w : World, r.ok (hp w)) → CtN P k args (r :: hf) Q) : CtN P k args (r :: hf) Q := fun hr w hh => h ⟨w, hh.1⟩ hr w hh
section
variable {S : Res}
set_option maxRecDepth 100000 in
theorem each83_ct {n : Nat} {v : Value} {ps : List Nm} (h : Gr Tryz.prog S n 24 [v]) (hp : Row S 6 parC v ps) : CtN Tryz.prog 83 #[v, .func (.func 84) #[] #[]] [S] fun u T => u.oneCell' = true ∧ Row T 6 parC u ps ∧ Gr Tryz.prog T n 24 [u] := by
  refine ctn_okw fun ⟨W0, hW0⟩ => ?_
  have c93 : Tryz.prog.cellsOf 93 = 6 := by kernel_rfl
  have b93 : Tryz.prog.bytesOf 93 = 136 := by kernel_rfl
  have hml : maxLen = 9223372036854775807 := rfl
  have hrb : reachBytes = 140737488351232 := rfl
  rcases h.slice Tryz.underlying24 (by rw [c93]; decide) with h0 | ⟨a, ln, cap, m, hn, h1, hlc, hcm, hlb, hel⟩
  · cases h0
    refine ct_of (n := 28) Tryz.func83 rfl rfl (len rfl) fun hr w0 => ?_
    refine cd_seq (cd_region (st_v (v_assign rfl) (st_nil (nx_then (cd_seq (cd_seq (cd_region (st_v (v_move rfl) (st_v (v_eql_slice_nil rfl rfl Tryz.underlying24) (st_nil (nx_kp [0, 1, 4, 9] rfl (nx_then (cd_true rfl ?_)))))))))))))
    refine cd_seq (cd_region (st_v (v_assign rfl) (st_nil (nx_kp [4] rfl (nx_then (cd_ret (xt_ret_then (xt_vw (vw_unstar (L := [])) ?_))))))))
    have hps : ps = [] := by
      obtain ⟨pa, pc, he, _⟩ := hp
      injection he with _ e2 _
      exact List.eq_nil_of_length_eq_zero e2.symm
    subst hps
    exact xt_rt rfl ⟨Res.star [], rfl, rfl, Row.nil, h.nil_slice Tryz.underlying24⟩ (by (repeat (refine Sub.sel (by repeat (first | exact Sel.here | apply Sel.there)) ?_)); (repeat apply Sub.cons); first | exact Sub.refl _ | exact Sub.nil _)
  · cases h1
    have hpl : ps.length = ln := by
      obtain ⟨pa, pc, he, _⟩ := id hp
      injection he with _ e2 _
      exact e2.symm
    rw [b93] at hlb
    rw [c93] at hel
    refine ct_of (n := 28) Tryz.func83 rfl rfl (len rfl) fun hr w0 => ?_
    refine cd_seq (cd_region (st_v (v_assign rfl) (st_nil (nx_then (cd_seq (cd_seq (cd_region (st_v (v_move rfl) (st_v (v_eql_slice_nil rfl rfl Tryz.underlying24) (st_nil (nx_kp [0, 1, 4, 9] rfl (nx_then (cd_false rfl ?_)))))))))))))
    refine cd_skip (xt_then (cd_seq (cd_region (st_v (v_move rfl) (st_v (v_len rfl Tryz.underlying24) (st_vw (vw_unstar (L := [])) (st_makeP (n := ln) rfl rfl rfl Tryz.underlying24 inf93 rfl (by decide) (by omega) (by omega) (ltn rfl) fun b12 => ?_)))))))
    refine st_v (v_assign rfl) (st_nil (nx_kp [0, 1, 4, 5] rfl (nx_then (cd_seq (cd_seq (cd_region (st_v (v_move rfl) (st_v (v_len rfl Tryz.underlying24) (st_v (v_move rfl) (st_nil (nx_kp [1, 4, 5, 13, 14, 15] rfl (nx_then (cd_block (cd_lq (σ := List (List Value) × Res × Nat) (fun q => [(1, .func (.func 84) #[] #[]), (5, .slice (some ⟨b12, 0, none⟩) ln ln), (13, .slice (some a) ln cap), (14, .int .i64 ln), (15, .int .i64 (q.2.2 : Nat))]) (fun q => pt b12 (cl q.1.flatten 93) :: q.2.1 :: S :: hr) (fun q => q.2.2 ≤ ln ∧ q.1.length = ln ∧ (∀ r ∈ q.1, r.length = 6) ∧ ∀ (j : Nat) us x, j < q.2.2 → q.1[j]? = some us → ps[j]? = some x → parC us x ∧ Gr Tryz.prog q.2.1 m 93 us) (fun q => ln - q.2.2) (List.replicate ln [sv [], .slice none 0 0, .slice none 0 0, .slice none 0 0, .slice none 0 0, .slice none 0 0], Res.star [], 0) ⟨Nat.zero_le _, by simp, fun r hr => by rw [List.eq_of_mem_replicate hr]; rfl, fun j us x hj => absurd hj (Nat.not_lt_zero _)⟩ ?_))))))))))))))
    rintro ⟨rows, T, i⟩ ⟨hi, hrl, hr5, hpc⟩
    simp only at hi hrl hr5 hpc
    dsimp only
    refine cd_seq (cd_region (st_v (v_lss rfl rfl) (st_nil (nx_then (cd_seq (cd_cond rfl (fun hd => ?_) (fun hd => ?_)))))))
    · skip
      have hlt : i < ln := by simpa using hd
      obtain ⟨b, o, us, rfl, hus, hrd, hg⟩ := hel i hlt
      have hpi : i < ps.length := by omega
      have hc0 : us[0]? = some (sv ps[i]) := by
        obtain ⟨b2, o2, cap2, us2, e1, e2, e3, a1, a2, a3, a4, a5, rfl, _⟩ := Row.at hp (List.getElem?_eq_getElem hpi)
        injection e1 with e1 _ _
        cases e1
        have k1 := hrd 0 (by omega) W0 hW0
        have k2 := e3 0 (by simp) W0 hW0
        rw [k1] at k2
        rw [List.getElem?_eq_getElem (by omega)]
        exact k2
      have hone : us.all Value.oneCell' = true := List.all_eq_true.2 (Gr.one (L := typD) typD_one m 93 us (by decide) hg)
      refine cd_skip (xt_then (cd_seq (cd_block (cd_seq (cd_region (st_v (v_move rfl) (st_v (v_indexAddr (k := i) rfl rfl sl24 rfl hlt rfl) (st_v (v_ldn rfl ld93 hus hrd) ?_))))))))
      refine st_alc al93 fun b7 => ?_
      refine st_v (v_assign rfl) (st_stoW (hl := by rw [hus]; rfl) rfl rfl sz93 hus hone ?_)
      refine st_nil (nx_kp [1, 5, 6, 7, 13, 14, 15] rfl (nx_then (cd_region (st_v (v_move rfl) (st_v (v_move rfl) (st_v (v_move rfl) (st_v (v_ldn rfl ld93 hus rds_pt) ?_)))))))
      refine st_cl rfl rfl en84 rfl ((parent_ct m us hus hg)) ?_
      rintro u h' ⟨T2, rfl, us', rfl, h5, h1, hG, h0⟩
      simp only [List.cons_append, List.nil_append]
      refine st_v (v_indexAddr (k := i) rfl rfl sl24 rfl hlt rfl) (st_storeN rfl rfl sz93 h5 (ones h1) (show Sel _ (pt b12 (cl rows.flatten 93)) _ from (by repeat (first | exact Sel.here | apply Sel.there))) (by rw [flat_len hr5, hrl, h5]; omega) ?_)
      rw [show 0 + i * 6 = i * 6 by omega, splice_rows h5 hr5 (by omega)]
      refine st_nil (nx_kp [1, 5, 13, 14, 15] rfl (nx_xt (xt_normal_block (xt_then (cd_region (st_v (v_add rfl rfl (by unfold I64 at *; omega)) (st_v (v_move rfl) (st_nil (nx_kp [1, 5, 13, 14, 15] rfl (nx_xt (xt_pv (pv_pack (L := [T, T2])) ?_)))))))))))
      simp only [List.cons_append, List.nil_append]
      rw [hc0] at h0
      have hpn : parC us' ps[i] := by
        match us', h5 with
        | [w0, w1, w2, w3, w4, w5], _ =>
        have h0 : w0 = sv ps[i] := by simpa using h0
        subst h0
        exact ⟨w1, w2, w3, w4, w5, rfl, h1⟩
      refine xt_aq (rows.set i us', Res.star [T, T2], i + 1) ⟨hlt, by simp [hrl], fun r hr => ?_, fun j us3 x hj g1 g2 => ?_⟩ (Nat.sub_lt_sub_left hlt (Nat.lt_succ_self i))
      · rcases List.mem_or_eq_of_mem_set hr with h | h
        · exact hr5 r h
        · rw [h]; exact h5
      · by_cases hji : j = i
        · subst hji
          rw [List.getElem?_set_self (by omega)] at g1
          cases g1
          rw [List.getElem?_eq_getElem hpi] at g2
          cases g2
          exact ⟨hpn, hG.mono (rd_in (by repeat (first | exact Sel.here | apply Sel.there)))⟩
        · rw [List.getElem?_set_ne (Ne.symm hji)] at g1
          have hj : j < i + 1 := hj
          obtain ⟨e1, e2⟩ := hpc j us3 x (by omega) g1 g2
          exact ⟨e1, e2.mono (rd_in (by repeat (first | exact Sel.here | apply Sel.there)))⟩
    · skip
      have hie : i = ln := by have : ¬ i < ln := by simpa using hd
                              omega
      subst hie
      refine cd_exit (xt_exit_then (xt_exit_then (xt_exit_block (xt_then (cd_seq (cd_region (st_v (v_move rfl) (st_v (v_assign rfl) (st_nil (nx_kp [4] rfl (nx_then (cd_ret (xt_pv (pv_of (b := b12) (n := i) (sz := 6) (E := 93) rows rfl hr5 hrl (by omega)) ?_)))))))))))))
      simp only [List.cons_append, List.nil_append]
      refine xt_ok (r := VR (.slice (some ⟨b12, 0, none⟩) i i) 93 6 rows) (by repeat (first | exact Sel.here | apply Sel.there)) fun hok => ?_
      refine xt_pv (pv_pack (L := [VR (.slice (some ⟨b12, 0, none⟩) i i) 93 6 rows, T])) ?_
      simp only [List.cons_append, List.nil_append]
      have hin : ∀ us ∈ rows, Gr Tryz.prog (Res.star [VR (.slice (some ⟨b12, 0, none⟩) i i) 93 6 rows, T]) m 93 us := fun us hu => by
        obtain ⟨j, hj, rfl⟩ := List.getElem_of_mem hu
        exact (hpc j _ (ps[j]'(by omega)) (by omega) (List.getElem?_eq_getElem hj) (List.getElem?_eq_getElem _)).2.mono (rd_in (by repeat (first | exact Sel.here | apply Sel.there)))
      exact xt_rt rfl ⟨Res.star [VR (.slice (some ⟨b12, 0, none⟩) i i) 93 6 rows, T], rfl, rfl, row_vr hok (by omega) (rd_in (by repeat (first | exact Sel.here | apply Sel.there))) fun j us x g1 g2 => (hpc j us x (by have := (List.getElem?_eq_some_iff.1 g2).1; omega) g1 g2).1, by rw [hn]; exact gr_row Tryz.underlying24 c93 hok (rd_in (by repeat (first | exact Sel.here | apply Sel.there))) hin (by rw [hrl, b93]; exact hlb)⟩ (by (repeat (refine Sub.sel (by repeat (first | exact Sel.here | apply Sel.there)) ?_)); (repeat apply Sub.cons); first | exact Sub.refl _ | exact Sub.nil _)
end
end Go.Hr
namespace Go.Hr
open Go Go.RowKit Go.Ck Go.Proofs Go.Proofs.YtjgiaohieadeiaaGreat Fx
attribute [local irreducible] Go.Ck.Sub St Cd Xt Nx DrL LsW
section
variable {S : Res}
set_option maxRecDepth 100000 in
theorem copyC_ct {m : Nat} {us : List Value} {x : Cls} (hg : Gr Tryz.prog S m 29 us) (hx : clsC S us x) : CtN Tryz.prog 65 #[.agg us.toArray] [S] fun u T => ∃ us' : List Value, u = .agg us'.toArray ∧ us'.length = 7 ∧ us'.all Value.oneCell' = true ∧ clsC T us' x ∧ Gr Tryz.prog T m 29 us' := by
  obtain ⟨n, hn, _, hf⟩ := hg.struct Tryz.underlying29
  have g2 : Gr Tryz.prog S n 23 ((us.drop 2).take (Tryz.prog.cellsOf 23)) := hf 2 _ rfl
  have g3 : Gr Tryz.prog S n 24 ((us.drop 3).take (Tryz.prog.cellsOf 24)) := hf 3 _ rfl
  have g4 : Gr Tryz.prog S n 25 ((us.drop 4).take (Tryz.prog.cellsOf 25)) := hf 4 _ rfl
  have g5 : Gr Tryz.prog S n 26 ((us.drop 5).take (Tryz.prog.cellsOf 26)) := hf 5 _ rfl
  have g6 : Gr Tryz.prog S n 27 ((us.drop 6).take (Tryz.prog.cellsOf 27)) := hf 6 _ rfl
  rw [show Tryz.prog.cellsOf 23 = 1 by kernel_rfl] at g2
  rw [show Tryz.prog.cellsOf 24 = 1 by kernel_rfl] at g3
  rw [show Tryz.prog.cellsOf 25 = 1 by kernel_rfl] at g4
  rw [show Tryz.prog.cellsOf 26 = 1 by kernel_rfl] at g5
  rw [show Tryz.prog.cellsOf 27 = 1 by kernel_rfl] at g6
  obtain ⟨d, f, pv, c, fa, fc, iv, rfl, hone, hp⟩ := hx
  have g2 : Gr Tryz.prog S n 23 [f] := g2
  have g3 : Gr Tryz.prog S n 24 [pv] := g3
  have g4 : Gr Tryz.prog S n 25 [c] := g4
  have g5 : Gr Tryz.prog S n 26 [.slice fa x.feats fc] := g5
  have g6 : Gr Tryz.prog S n 27 [iv] := g6
  have o1 : d.oneCell' = true := List.all_eq_true.1 hone d (by simp)
  have o2 : f.oneCell' = true := List.all_eq_true.1 hone f (by simp)
  have o3 : pv.oneCell' = true := List.all_eq_true.1 hone pv (by simp)
  have o4 : c.oneCell' = true := List.all_eq_true.1 hone c (by simp)
  have o6 : iv.oneCell' = true := List.all_eq_true.1 hone iv (by simp)
  refine ct_of (n := 24) Tryz.func65 rfl rfl (len rfl) fun hr w0 => ?_
  refine cd_seq (cd_region (st_bx rfl rfl fun b1 => ?_))
  refine st_alc al29 fun b2 => ?_
  refine st_nil (nx_kp [1, 2] rfl (nx_then (cd_seq (cd_drawh (ork [(0, 2), (1, 1), (3, 2), (4, 1), (2, 0), (6, 2), (5, 0), (7, 0), (8, 2), (9, 0)] .nil) (fun i => !(Nat.beq i 5 || Nat.beq i 7 || Nat.beq i 9)) mixed (by kernel_rfl) ?_))))
  refine dp_v rfl (v_fieldAddr rfl fa29_2 rfl) (dr_v rfl (v_ldy rfl ld23) ?_)
  refine dp_v rfl (v_fieldAddr rfl fa29_4 rfl) (dr_v rfl (v_ldy rfl ld25) ?_)
  refine dr_eff rfl (st_cl rfl rfl en81 rfl (clone81_ct g2) ?_)
  rintro u2 h' ⟨T2, rfl, hu2, K2⟩
  simp only [List.cons_append, List.nil_append]
  refine dr_nx ?_
  refine dp_v rfl (v_fieldAddr rfl fa29_2 rfl) (dr_eff rfl (st_cl rfl rfl en82 rfl (clone82_ct g4) ?_))
  rintro u4 h' ⟨T4, rfl, hu4, K4⟩
  simp only [List.cons_append, List.nil_append]
  refine dr_nx ?_
  refine dr_eff rfl (st_sto rfl rfl sz23 (dr_nx ?_))
  refine dp_v rfl (v_fieldAddr rfl fa29_4 rfl) (dr_eff rfl (st_sto rfl rfl sz25 (dr_nx ?_)))
  refine dr_nil (nx_kp [1, 2] rfl (nx_then (cd_seq (cd_region (st_v (v_fieldAddr rfl fa29_3 rfl) (st_v (v_ldy rfl ld24) ?_))))))
  refine st_cl rfl rfl en83 rfl (each83_ct g3 hp) ?_
  rintro u3 h' ⟨T3, rfl, hu3, hrow, K3⟩
  simp only [List.cons_append, List.nil_append]
  refine st_v (v_fieldAddr rfl fa29_3 rfl) (st_sto rfl rfl sz24 ?_)
  refine st_nil (nx_kp [1, 2] rfl (nx_then (cd_seq (cd_drawh (ork [(0, 2), (1, 1), (3, 2), (4, 1), (2, 0), (6, 2), (5, 0), (7, 0), (8, 2), (9, 0)] .nil) (fun i => !(Nat.beq i 5 || Nat.beq i 7 || Nat.beq i 9)) mixed (by kernel_rfl) ?_))))
  refine dp_v rfl (v_fieldAddr rfl fa29_5 rfl) (dr_v rfl (v_ldy rfl ld26) ?_)
  refine dp_v rfl (v_fieldAddr rfl fa29_6 rfl) (dr_v rfl (v_ldy rfl ld27) ?_)
  refine dr_eff rfl (st_cl rfl rfl en88 rfl (each88_ct en89 g5 (fun k _ => feature_ct k)) ?_)
  rintro u5 h' ⟨T5, rfl, a5, l5, c5, d5, f5, he5, rfl, K5⟩
  simp only [List.cons_append, List.nil_append]
  injection he5 with _ he5 _
  subst he5
  refine dr_nx ?_
  refine dp_v rfl (v_fieldAddr rfl fa29_5 rfl) (dr_eff rfl (st_cl rfl rfl en90 rfl (clauses_ct g6) ?_))
  rintro u6 h' ⟨T6, rfl, a6, l6, c6, d6, f6, rfl, rfl, K6⟩
  simp only [List.cons_append, List.nil_append]
  refine dr_nx ?_
  refine dr_eff rfl (st_sto rfl rfl sz26 (dr_nx ?_))
  refine dp_v rfl (v_fieldAddr rfl fa29_6 rfl) (dr_eff rfl (st_sto rfl rfl sz27 (dr_nx ?_)))
  refine dr_nil (nx_kp [1, 2] rfl (nx_then (cd_seq (cd_region (st_v (v_ldn rfl ld29 rfl rds_pt) ?_)))))
  have hone2 : [sv x.name, d, u2, u3, u4, Value.slice d5 x.feats f5, Value.slice d6 l6 f6].all Value.oneCell' = true := by simp only [List.all_cons, List.all_nil, o1, hu2, hu3, hu4, Bool.and_true, Bool.true_and]; rfl
  refine st_stoW rfl rfl sz29 rfl hone2 ?_
  refine st_nil (nx_kp [2] rfl (nx_then (cd_ret (xt_pv (pv_pack (L := [T2, T3, T4, T5, T6])) ?_))))
  simp only [List.cons_append, List.nil_append]
  exact xt_retV (.cellN rfl ld29 rfl (by repeat (first | exact Sel.here | apply Sel.there)) .nil) ⟨Res.star [T2, T3, T4, T5, T6], rfl, _, rfl, rfl, hone2, ⟨d, u2, u3, u4, d5, f5, Value.slice d6 l6 f6, rfl, hone2, hrow.mono (rd_in (by repeat (first | exact Sel.here | apply Sel.there))) (fun _ _ _ h => h)⟩, by rw [hn]; exact Gr.mk Tryz.underlying29 k29 rfl (Gall.cons (Gr.keep flL_ok (hf 0 _ rfl) rfl k9 rfl) (Gall.cons (Gr.keep flL_ok (hf 1 _ rfl) rfl k4 rfl) (Gall.cons (Gr.cut (K2.mono (rd_in (by repeat (first | exact Sel.here | apply Sel.there)))) k23 rfl) (Gall.cons (Gr.cut (K3.mono (rd_in (by repeat (first | exact Sel.here | apply Sel.there)))) k24 rfl) (Gall.cons (Gr.cut (K4.mono (rd_in (by repeat (first | exact Sel.here | apply Sel.there)))) k25 rfl) (Gall.cons (Gr.cut (K5.mono (rd_in (by repeat (first | exact Sel.here | apply Sel.there)))) k26 rfl) (Gall.cons (Gr.cut (K6.mono (rd_in (by repeat (first | exact Sel.here | apply Sel.there)))) k27 rfl) .nil)))))))⟩ (by repeat (first | exact Sub.refl _ | exact Sub.nil _ | refine Sub.sel (by repeat (first | exact Sel.here | apply Sel.there)) ?_ | apply Sub.cons))
end
end Go.Hr
namespace Go.Hr
open Go Go.RowKit Go.Ck Go.Proofs Go.Proofs.YtjgiaohieadeiaaGreat Fx
attribute [local irreducible] Go.Ck.Sub St Cd Xt Nx DrL LsW
/-- A class whose parts are read to their end; systems of such. -/
def clsG (S : Res) (us : List Value) (x : Cls) : Prop := clsC S us x ∧ ∃ m, Gr Tryz.prog S m 29 us
def sysG (S : Res) (v : Value) (l : Sys) : Prop := Row S 7 (clsG S) v l
theorem clsG.mono {S S' : Res} (hr : ∀ p u, Rd S p u → Rd S' p u) {us : List Value} {x : Cls} (h : clsG S us x) : clsG S' us x := ⟨h.1.mono hr, let ⟨m, hm⟩ := h.2; ⟨m, hm.mono hr⟩⟩
theorem sysG.mono {S S' : Res} (hr : ∀ p u, Rd S p u → Rd S' p u) {v : Value} {l : Sys} (h : sysG S v l) : sysG S' v l := Row.mono h hr fun _ _ _ h => clsG.mono hr h
theorem sysG.sys {S : Res} {v : Value} {l : Sys} (h : sysG S v l) : sysR S v l := Row.mono h (fun _ _ h => h) fun _ _ _ h => h.1
section
variable {S : Res} {v : Value} {l : Sys}
set_option maxHeartbeats 1000000 in
set_option maxRecDepth 100000 in
theorem each64_ct (hv : sysG S v l) (hl : l.length ≤ 1000000) : CtN Tryz.prog 64 #[v, .func (.func 65) #[] #[]] [S] fun u T => u.oneCell' = true ∧ sysG T u l := by
  obtain ⟨a, cap, rfl, hlc, hcm, hnone, _⟩ := id hv
  have hml : maxLen = 9223372036854775807 := rfl
  cases a with
  | none =>
    have hl0 : l = [] := List.eq_nil_of_length_eq_zero (by have := hnone rfl; omega)
    subst hl0
    refine ct_of (n := 28) Tryz.func64 rfl rfl (len rfl) fun hr w0 => ?_
    refine cd_seq (cd_region (st_v (v_assign rfl) (st_nil (nx_then (cd_seq (cd_seq (cd_region (st_v (v_move rfl) (st_v (v_eql_slice_nil rfl rfl Tryz.underlying22) (st_nil (nx_kp [0, 1, 4, 9] rfl (nx_then (cd_true rfl ?_)))))))))))))
    refine cd_seq (cd_region (st_v (v_assign rfl) (st_nil (nx_kp [4] rfl (nx_then (cd_ret (xt_ret_then (xt_vw (vw_unstar (L := [])) ?_))))))))
    exact xt_rt rfl ⟨Res.star [], rfl, rfl, Row.nil⟩ (by (repeat (refine Sub.sel (by repeat (first | exact Sel.here | apply Sel.there)) ?_)); (repeat apply Sub.cons); first | exact Sub.refl _ | exact Sub.nil _)
  | some a =>
    refine ct_of (n := 28) Tryz.func64 rfl rfl (len rfl) fun hr w0 => ?_
    refine cd_seq (cd_region (st_v (v_assign rfl) (st_nil (nx_then (cd_seq (cd_seq (cd_region (st_v (v_move rfl) (st_v (v_eql_slice_nil rfl rfl Tryz.underlying22) (st_nil (nx_kp [0, 1, 4, 9] rfl (nx_then (cd_false rfl ?_)))))))))))))
    refine cd_skip (xt_then (cd_seq (cd_region (st_v (v_move rfl) (st_v (v_len rfl Tryz.underlying22) (st_vw (vw_unstar (L := [])) (st_makeP (n := l.length) rfl rfl rfl Tryz.underlying22 inf29 rfl (by decide) (by omega) (by omega) (ltn rfl) fun b12 => ?_)))))))
    refine st_v (v_assign rfl) (st_nil (nx_kp [0, 1, 4, 5] rfl (nx_then (cd_seq (cd_seq (cd_region (st_v (v_move rfl) (st_v (v_len rfl Tryz.underlying22) (st_v (v_move rfl) (st_nil (nx_kp [1, 4, 5, 13, 14, 15] rfl (nx_then (cd_block (cd_lq (σ := List (List Value) × Res × Nat) (fun q => [(1, .func (.func 65) #[] #[]), (5, .slice (some ⟨b12, 0, none⟩) l.length l.length), (13, .slice (some a) l.length cap), (14, .int .i64 l.length), (15, .int .i64 (q.2.2 : Nat))]) (fun q => pt b12 (cl q.1.flatten 29) :: q.2.1 :: S :: hr) (fun q => q.2.2 ≤ l.length ∧ q.1.length = l.length ∧ (∀ r ∈ q.1, r.length = 7) ∧ ∀ (j : Nat) us x, j < q.2.2 → q.1[j]? = some us → l[j]? = some x → clsG q.2.1 us x) (fun q => l.length - q.2.2) (List.replicate l.length [sv [], .bool false, .slice none 0 0, .slice none 0 0, .slice none 0 0, .slice none 0 0, .slice none 0 0], Res.star [], 0) ⟨Nat.zero_le _, by simp, fun r hr => by rw [List.eq_of_mem_replicate hr]; rfl, fun j us x hj => absurd hj (Nat.not_lt_zero _)⟩ ?_))))))))))))))
    rintro ⟨rows, T, i⟩ ⟨hi, hrl, hr5, hpc⟩
    simp only at hi hrl hr5 hpc
    dsimp only
    refine cd_seq (cd_region (st_v (v_lss rfl rfl) (st_nil (nx_then (cd_seq (cd_cond rfl (fun hd => ?_) (fun hd => ?_)))))))
    · skip
      have hlt : i < l.length := by simpa using hd
      obtain ⟨b, o, cap2, us, e1, hus, hrd, hxc, m, hg⟩ := Row.at hv (List.getElem?_eq_getElem hlt)
      cases e1
      have hone : us.all Value.oneCell' = true := by
        obtain ⟨_, _, _, _, _, _, _, rfl, h, _⟩ := hxc
        exact h
      refine cd_skip (xt_then (cd_seq (cd_block (cd_seq (cd_region (st_v (v_move rfl) (st_v (v_indexAddr (k := i) rfl rfl sl22 rfl hlt rfl) (st_v (v_ldn rfl ld29 hus hrd) ?_))))))))
      refine st_alc al29 fun b7 => ?_
      refine st_v (v_assign rfl) (st_stoW (hl := by rw [hus]; rfl) rfl rfl sz29 hus hone ?_)
      refine st_nil (nx_kp [1, 5, 6, 7, 13, 14, 15] rfl (nx_then (cd_region (st_v (v_move rfl) (st_v (v_move rfl) (st_v (v_move rfl) (st_v (v_ldn rfl ld29 hus rds_pt) ?_)))))))
      refine st_cl rfl rfl en65 rfl ((copyC_ct hg hxc)) ?_
      rintro u h' ⟨T2, rfl, us', rfl, h5, h1, h0, hG⟩
      simp only [List.cons_append, List.nil_append]
      refine st_v (v_indexAddr (k := i) rfl rfl sl22 rfl hlt rfl) (st_storeN rfl rfl sz29 h5 (ones h1) (show Sel _ (pt b12 (cl rows.flatten 29)) _ from (by repeat (first | exact Sel.here | apply Sel.there))) (by rw [flat_len hr5, hrl, h5]; omega) ?_)
      rw [show 0 + i * 7 = i * 7 by omega, splice_rows h5 hr5 (by omega)]
      refine st_nil (nx_kp [1, 5, 13, 14, 15] rfl (nx_xt (xt_normal_block (xt_then (cd_region (st_v (v_add rfl rfl (by unfold I64 at *; omega)) (st_v (v_move rfl) (st_nil (nx_kp [1, 5, 13, 14, 15] rfl (nx_xt (xt_pv (pv_pack (L := [T, T2])) ?_)))))))))))
      simp only [List.cons_append, List.nil_append]
      refine xt_aq (rows.set i us', Res.star [T, T2], i + 1) ⟨hlt, by simp [hrl], fun r hr => ?_, fun j us3 x hj g1 g2 => ?_⟩ (Nat.sub_lt_sub_left hlt (Nat.lt_succ_self i))
      · rcases List.mem_or_eq_of_mem_set hr with h | h
        · exact hr5 r h
        · rw [h]; exact h5
      · by_cases hji : j = i
        · subst hji
          rw [List.getElem?_set_self (by omega)] at g1
          cases g1
          rw [List.getElem?_eq_getElem hlt] at g2
          cases g2
          exact clsG.mono (rd_in (by repeat (first | exact Sel.here | apply Sel.there))) ⟨h0, _, hG⟩
        · rw [List.getElem?_set_ne (Ne.symm hji)] at g1
          have hj : j < i + 1 := hj
          exact clsG.mono (rd_in (by repeat (first | exact Sel.here | apply Sel.there))) (hpc j us3 x (by omega) g1 g2)
    · skip
      have hie : i = l.length := by have : ¬ i < l.length := by simpa using hd
                                    omega
      subst hie
      refine cd_exit (xt_exit_then (xt_exit_then (xt_exit_block (xt_then (cd_seq (cd_region (st_v (v_move rfl) (st_v (v_assign rfl) (st_nil (nx_kp [4] rfl (nx_then (cd_ret (xt_pv (pv_of (b := b12) (n := l.length) (sz := 7) (E := 29) rows rfl hr5 hrl (by omega)) ?_)))))))))))))
      simp only [List.cons_append, List.nil_append]
      refine xt_ok (r := VR (.slice (some ⟨b12, 0, none⟩) l.length l.length) 29 7 rows) (by repeat (first | exact Sel.here | apply Sel.there)) fun hok => ?_
      refine xt_pv (pv_pack (L := [VR (.slice (some ⟨b12, 0, none⟩) l.length l.length) 29 7 rows, T])) ?_
      simp only [List.cons_append, List.nil_append]
      exact xt_rt rfl ⟨Res.star [VR (.slice (some ⟨b12, 0, none⟩) l.length l.length) 29 7 rows, T], rfl, rfl, row_vr hok hrl (rd_in (by repeat (first | exact Sel.here | apply Sel.there))) fun j us x g1 g2 => clsG.mono (rd_in (by repeat (first | exact Sel.here | apply Sel.there))) (hpc j us x (List.getElem?_eq_some_iff.1 g2).1 g1 g2)⟩ (by (repeat (refine Sub.sel (by repeat (first | exact Sel.here | apply Sel.there)) ?_)); (repeat apply Sub.cons); first | exact Sub.refl _ | exact Sub.nil _)
set_option maxRecDepth 100000 in
theorem cloneS_ct (hv : sysG S v l) (hl : l.length ≤ 1000000) : CtN Tryz.prog 30 #[v] [S] fun u T => u.oneCell' = true ∧ sysG T u l := by
  refine ct_of (n := 5) Tryz.func30 rfl rfl (len rfl) fun hr w0 => ?_
  refine cd_seq (cd_region (st_v (v_assign rfl) (st_nil (nx_then (cd_seq (cd_region (st_v (v_move rfl) (st_cl rfl rfl en64 rfl (each64_ct hv hl) ?_))))))))
  rintro u h' ⟨T, rfl, h1, h2⟩
  simp only [List.cons_append, List.nil_append]
  refine st_v (v_assign rfl) (st_nil (nx_kp [2] rfl (nx_then (cd_ret ?_))))
  exact xt_rt rfl ⟨T, rfl, h1, h2⟩ (by (repeat (refine Sub.sel (by repeat (first | exact Sel.here | apply Sel.there)) ?_)); (repeat apply Sub.cons); first | exact Sub.refl _ | exact Sub.nil _)
end
end Go.Hr
namespace Go.Ck
open Go Go.RowKit
/-- append(v, ..), where v has no room: what v refers to stays as it lies. -/
theorem run_append_read {P : Program} {w : World} {h : SH} {E : TypeId} {sz : Nat} {t : TypeId} (ty : TypeId) {z : Value} {bytes : Nat} (ht : P.underlying t = some (.slice E)) (hE : Inf P E z sz bytes) (hzs : z.cells.size = sz) (hsz : 0 < sz)
    (hh : Holds w h) {a : Addr} {n cap : Nat} {rows : List (List Value)} (hr1 : ∀ r ∈ rows, r.length = sz) (hrn : rows.length = n) (holds : ∀ j u, rows.flatten[j]? = some u → w.cell? (a.add j) = some u)
    {src : Addr} {m cp : Nat} {news : List (List Value)} (hn1 : ∀ r ∈ news, r.length = sz) (hl : news.length = m)
    (hnews : ∀ j u, news.flatten[j]? = some u → w.cell? (src.add j) = some u) (hg : cap < n + m) (hb : (n + m) * bytes ≤ 140737488355328) (h63 : n + m ≤ maxLen) :
    ∃ v' w', (Builtin.append_ #[t, t] ty #[.slice (some a) n cap, .slice (some src) m cp]).run P w = .ok v' w' ∧ v'.oneCell' = true ∧ Holds w' (VR v' E sz (rows ++ news) :: h) ∧ Same w w' := by
  obtain ⟨i, hi, hz, hisz, hiby⟩ := hE.parts
  subst hisz hiby
  have hml : maxLen = 9223372036854775807 := rfl
  have hall : ∀ r ∈ rows ++ news, r.length = i.size := fun r hr => (List.mem_append.1 hr).elim (hr1 r) (hn1 r)
  have hnl : news.flatten.length = m * i.size := by rw [flatten_len hn1, hl]
  have hrl : rows.flatten.length = n * i.size := by rw [flatten_len hr1, hrn]
  have hr := run_append_grow (P := P) w t ty E i z ht hi hz a n cap rows.flatten hrl holds src m cp news.flatten hnl hnews hg (by omega) (growslice_fits hg hb)
  have hge := grownCap_ge w (n + m) cap E
  have hcm : grownCap w (n + m) cap E ≤ maxLen := grownCap_le_maxLen w (n + m) cap E h63
  have hH : Holds w.drew h := Holds.grew hh (Grew.drawn w _)
  have hA := Holds.alloc hH (.cells (rows.flatten.toArray ++ news.flatten.toArray ++ Builtin.zeroCells z.cells (grownCap w (n + m) cap E - (n + m))) E)
  have hobj : (Obj.cells (rows.flatten.toArray ++ news.flatten.toArray ++ Builtin.zeroCells z.cells (grownCap w (n + m) cap E - (n + m))) E) = cl ([] ++ ((rows ++ news).flatten ++ (Builtin.zeroCells z.cells (grownCap w (n + m) cap E - (n + m))).toList)) E := by
    simp only [cl, Obj.cells.injEq, and_true]
    apply Array.ext'
    simp
  refine ⟨_, _, hr, rfl, ?_, (Grew.drawn w _).toSame.trans (Grew.alloc _ _ rfl).toSame⟩
  rw [hobj] at hA ⊢
  refine ⟨⟨hall, .inr ⟨w.heap.size, 0, _, [], _, by rw [List.length_append, hl, hrn], hA.1, rfl, by rw [List.length_append, hl, hrn]; exact hge, hcm, ?_⟩⟩, fun b ⟨o', m', cp', hv⟩ => ?_, hA.2.2⟩
  · have hzl : (Builtin.zeroCells z.cells (grownCap w (n + m) cap E - (n + m))).toList.length = (grownCap w (n + m) cap E - (n + m)) * i.size := by rw [Array.length_toList, size_zeroCells, hzs]
    rw [List.length_append, flatten_len hall, List.length_append, hl, hrn, hzl, ← Nat.add_mul]
    apply Nat.mul_le_mul_right; omega
  · cases hv; exact hA.2.1 _ rfl
end Go.Ck
namespace Go.Ck
open Go Go.RowKit Go.Hr
theorem v_sliceHMA {P : Program} {e : Env} {h : SH} {ty : TypeId} {T E : TypeId} {x y z : Operand} {a : Option Addr} {n cp hi mx sz : Nat} {i j : Int} {k k' : IntKind} (hx : e.ev? x = some (.slice a n cp)) (hy : e.ev? y = some (.int k i)) (hz : e.ev? z = some (.int k' j)) (hT : SlE P T E sz)
    (hi' : i = (hi : Int)) (hj : j = (mx : Int)) (h1 : hi ≤ mx) (h2 : mx ≤ cp) : Vop P e h (.slice T x none (some y) (some z)) ty (.slice a hi mx) :=
  ⟨by simp, by simp, fun ρ w d pos after g hρ _ => by
    subst hi' hj
    have hT' : P.underlying T = some (.slice (P.elem T)) := by simp [Program.elem, hT.1]
    have he : P.elem T = E := by simp [Program.elem, hT.1]
    have hr := run_slice_hm (P := P) w T a n cp hT' k k' hi mx (by omega) (by omega) (by omega)
    have hs : sliced a 0 hi mx sz = .slice a hi mx := by
      unfold sliced; by_cases hcl : mx = 0 <;> cases a <;> simp [hcl, Addr.add]
    simp only [he, hT.2 w, Result.andThen_ok, Int.toNat_natCast, hs] at hr
    simp only [execOp, hρ x _ hx, Option.map_some, Option.map_none, hρ y _ hy, hρ z _ hz, Sem.run_bind, run_sliceAt_slice w T _ _ _ _ hT', hr, Result.andThen_ok, Sem.run_pure]⟩
theorem Row.full {α : Type} {S : Res} {sz : Nat} {X : List Value → α → Prop} {a : Option Addr} {n cp : Nat} {l : List α} (h : Row S sz X (.slice a n cp) l) : Row S sz X (.slice a l.length l.length) l := by
  obtain ⟨a', cap, he, h2, h3, h4, h5⟩ := h
  cases he
  exact ⟨a, l.length, rfl, Nat.le_refl _, by omega, fun hn => by have := h4 hn; omega, h5⟩
section
variable {c : Cx} {ops : Array Oper} {K : Act → World → Prop} {rest : List Oper} {e : Env} {h h' : SH}
theorem st_apg {α : Type} {S : Res} {X : List Value → α → Prop} {l : List α} {d : Nat} {t E ty : TypeId} {x y : Operand} {pos : String} {after : Array Edge} {z v : Value} {sz bytes m cp sb so : Nat} (news : List (List Value)) (hv : Row S sz X v l) (hfull : ∀ a n cap, v = .slice a n cap → cap = l.length)
    (hx : e.ev? x = some v) (hy : e.ev? y = some (.slice (some ⟨sb, so, none⟩) m cp)) (ht : c.P.underlying t = some (.slice E)) (hE : Inf c.P E z sz bytes) (hzs : z.cells.size = sz) (hsz : 0 < sz)
    (hS : Sel h S h') (hn1 : ∀ r ∈ news, r.length = sz) (hl : news.length = m) (hm : 0 < m) (hnews : ∀ j u, news.flatten[j]? = some u → At h ⟨sb, so + j, none⟩ u) (h1 : ∀ u ∈ news.flatten, u.oneCell' = true)
    (hb : (l.length + m) * bytes ≤ 140737488355328) (h63 : l.length + m ≤ maxLen) (hd : d < c.n)
    (hnx : ∀ v' rows, v'.oneCell' = true → Cor X rows l → (∀ r ∈ rows, r.length = sz) → St c ops K rest ((d, v') :: e) (VR v' E sz (rows ++ news) :: h)) :
    St c ops K (⟨some d, .call { callee := .builtin .append, args := #[x, y], argTypes := #[t, t] }, ty, pos, after, none⟩ :: rest) e h := by
  have hml : maxLen = 9223372036854775807 := rfl
  obtain ⟨a, cap, rfl, hlc, hcm, hnone, hel⟩ := id hv
  have hcap : cap = l.length := hfull _ _ _ rfl
  cases a with
  | none =>
    have hc0 : cap = 0 := hnone rfl
    have hl0 : l = [] := List.eq_nil_of_length_eq_zero (by omega)
    subst hl0 hc0
    refine st_vw (vw_nil E sz) ?_
    exact st_appA (rows := []) news hx hy ht hE hzs hsz .here hn1 hl (fun j u hu => by rw [Addr.add_lit]; exact at_there (hnews j u hu)) h1 (by simpa using hb) (by simpa [hml] using h63) hd fun v' hv' _ => hnx v' [] hv' Cor.nil (by simp)
  | some a =>
    obtain ⟨rows, r1, r2, r3, r4⟩ := hv.cells
    refine st_any (by simp) fun ac w hk hh hw => ?_
    obtain ⟨v', w', hr, ho, hH, hSm⟩ := run_append_read (P := c.P) ty ht hE hzs hsz hh (a := a) (n := l.length) (cap := cap) (rows := rows) r2 r1 (fun j u hu => by obtain ⟨b2, o, hb2, hr⟩ := r4 j u hu; cases hb2; rw [Addr.add_lit]; exact hr.at hS hh) (src := ⟨sb, so, none⟩) (cp := cp) hn1 hl (fun j u hu => by rw [Addr.add_lit]; exact (hnews j u hu).cell hh) (by omega) hb h63
    simp only [execOp, resolve, invoke, builtin, hk.ev hx, hk.ev hy, Sem.run_bind, Sem.run_pure, Result.andThen_ok, List.map_toArray, List.map_cons, List.map_nil, hr]
    exact hnx v' rows ho ⟨r1, r3⟩ r2 _ w' (hk.put _ hd) hH (hw.trans hSm)
end
end Go.Ck
namespace Go.Hr
open Go Go.RowKit Go.Ck Go.Proofs Go.Proofs.YtjgiaohieadeiaaGreat Fx
attribute [local irreducible] Go.Ck.Sub St Cd Xt Nx DrL LsW
theorem Cor.snoc {α : Type} {X : List Value → α → Prop} {rows : List (List Value)} {l : List α} {us : List Value} {x : α} (h : Cor X rows l) (hx : X us x) : Cor X (rows ++ [us]) (l ++ [x]) := h.app (Cor.one hx)
theorem ctn_ok {P : Program} {k : FuncId} {args : Array Value} {r : Res} {hf : SH} {Q : Value → Res → Prop} (h : (∃ f, r.ok f) → CtN P k args (r :: hf) Q) : CtN P k args (r :: hf) Q := fun hr w hh => h ⟨_, hh.1⟩ hr w hh
section
variable {S : Res} {v : Value} {l : Sys} {us : List Value} {x : Cls}
set_option maxRecDepth 100000 in
theorem cloneN_ct {rows : List (List Value)} (hc : Cor (clsG S) rows l) (hl : l.length ≤ 1000000) : CtN Tryz.prog 30 #[v] [VR v 29 7 rows, S] fun u T => u.oneCell' = true ∧ sysG T u l :=
  ctn_ok fun hok => ctn_star (cloneS_ct (S := Res.star [VR v 29 7 rows, S]) (row_vr hok hc.1 (rd_in .here) fun i us x h1 h2 => (hc.2 i us x h1 h2).mono (rd_in (.there .here))) hl)
set_option maxHeartbeats 1000000 in
set_option maxRecDepth 100000 in
theorem Add_ct (hv : sysG S v l) (hx : clsG S us x) : CtN Tryz.prog 7 #[v, .agg us.toArray] [S] fun u T => ∃ w, u = .tuple #[w, .int .i64 (addE l x)] ∧ w.oneCell' = true ∧ sysG T w (okL (addE l x) (l ++ [x])) := by
  have hs := hv.sys
  have hml : maxLen = 9223372036854775807 := rfl
  obtain ⟨d, f, pv, c, fa, fc, iv, rfl, hone, hp⟩ := id hx.1
  obtain ⟨a, cap, rfl, hlc, _⟩ := id hv
  refine ct_of (n := 38) Tryz.func7 rfl rfl (len rfl) fun hr w0 => ?_
  refine cd_seq (cd_region (st_bx rfl rfl fun b3 => ?_))
  refine st_v (v_assign rfl) (st_v (v_assign rfl) (st_nil (nx_kp [0, 3, 4, 5] rfl (nx_then (cd_seq (cd_seq (cd_region (st_v (v_move rfl) (st_cl rfl rfl en13 rfl (Check_ct hs) ?_)))))))))
  rintro u h' ⟨rfl, rfl⟩
  simp only [List.cons_append, List.nil_append]
  refine st_v (v_move rfl) (st_v (v_extract rfl rfl) (st_v (v_extract rfl rfl) (st_v (v_assign rfl) (st_v (v_assign rfl) (st_nil (nx_kp [0, 3, 4, 5, 6] rfl (nx_then (cd_seq (cd_region (st_v (v_move rfl) (st_v (v_neq rfl rfl) (st_nil (nx_kp [0, 3, 4, 5, 6, 17] rfl (nx_then (cd_cond rfl (fun he => ?_) (fun he => ?_))))))))))))))))
  · skip
    have he : ¬ (check l).1 = 0 := by simpa using he
    rw [show addE l x = (check l).1 from if_neg he, okL_ne he]
    refine cd_seq (cd_region (st_v (v_move rfl) (st_v (v_assign rfl) (st_v (v_assign rfl) (st_nil (nx_kp [4, 5] rfl (nx_then (cd_ret (xt_ret_then (xt_vw (vw_unstar (L := [])) ?_))))))))))
    exact xt_rt rfl ⟨Res.star [], rfl, _, rfl, rfl, Row.nil⟩ (by (repeat (refine Sub.sel (by repeat (first | exact Sel.here | apply Sel.there)) ?_)); (repeat apply Sub.cons); first | exact Sub.refl _ | exact Sub.nil _)
  · skip
    have he : (check l).1 = 0 := by simpa using he
    have hR := check_zero.1 he
    have hFl := hR.len
    rw [show addE l x = (check (l ++ [x])).1 from if_pos he]
    refine cd_skip (xt_then (cd_seq (cd_drawh (ork [(0, 2), (1, 2), (2, 2), (3, 2), (4, 2), (5, 1), (6, 1), (7, 0), (8, 0), (9, 0), (10, 2)] .nil) (fun i => !(Nat.beq i 8 || Nat.beq i 9)) mixed (by kernel_rfl) ?_)))
    refine dp_v rfl (v_move rfl) (dp_v rfl (v_move rfl) (dp_v rfl (v_len rfl Tryz.underlying22) (dp_v rfl (v_move rfl) (dp_v rfl (v_len rfl Tryz.underlying22) (dr_v rfl (v_sliceHMA (hi := l.length) (mx := l.length) rfl rfl rfl sl22 rfl rfl (Nat.le_refl _) hlc) (dr_v rfl (v_ldn rfl ld29 rfl rds_pt) ?_))))))
    refine dr_eff rfl (st_buildSlice (cells := [sv x.name, d, f, pv, c, .slice fa x.feats fc, iv]) rfl Tryz.underlying22 inf29 rfl rfl (by kernel_rfl) (ltn rfl) fun b26 => dr_nx ?_)
    refine dr_eff rfl (st_apg [[sv x.name, d, f, pv, c, .slice fa x.feats fc, iv]] (Row.full hv) (fun a n cap h => by cases h; rfl) rfl rfl Tryz.underlying22 inf29 rfl (by decide) (show Sel _ S _ from (by repeat (first | exact Sel.here | apply Sel.there))) (by simp) rfl (by decide) (fun j u2 hu2 => by repeat (first | exact at_here (rd_cl (by simpa using hu2)) | apply at_there)) (fun u hu => List.all_eq_true.1 hone u (by simpa using hu)) (by omega) (by omega) (ltn rfl) fun v27 rows h27 hcor hr7 => dr_nx ?_)
    refine dr_eff rfl (st_cl rfl rfl en30 rfl (cloneN_ct (hcor.snoc hx) (by simp; omega)) ?_)
    rintro u h' ⟨T, rfl, h1, h2⟩
    simp only [List.cons_append, List.nil_append]
    refine dr_nx ?_
    refine dp_v rfl (v_assign rfl) (dr_nil (nx_kp [4, 5, 8] rfl (nx_then (cd_seq (cd_seq (cd_region (st_v (v_move rfl) (st_cl rfl rfl en13 rfl (Check_ct h2.sys) ?_))))))))
    rintro u2 h' ⟨rfl, rfl⟩
    simp only [List.cons_append, List.nil_append]
    refine st_v (v_move rfl) (st_v (v_extract rfl rfl) (st_v (v_extract rfl rfl) (st_v (v_assign rfl) (st_v (v_assign rfl) (st_nil (nx_kp [4, 5, 8, 9] rfl (nx_then (cd_seq (cd_region (st_v (v_move rfl) (st_v (v_neq rfl rfl) (st_nil (nx_kp [4, 5, 8, 9, 35] rfl (nx_then (cd_cond rfl (fun he2 => ?_) (fun he2 => ?_))))))))))))))))
    · skip
      have he2 : ¬ (check (l ++ [x])).1 = 0 := by simpa using he2
      rw [okL_ne he2]
      refine cd_seq (cd_region (st_v (v_move rfl) (st_v (v_assign rfl) (st_v (v_assign rfl) (st_nil (nx_kp [4, 5] rfl (nx_then (cd_ret (xt_ret_then (xt_vw (vw_unstar (L := [])) ?_))))))))))
      exact xt_rt rfl ⟨Res.star [], rfl, _, rfl, rfl, Row.nil⟩ (by (repeat (refine Sub.sel (by repeat (first | exact Sel.here | apply Sel.there)) ?_)); (repeat apply Sub.cons); first | exact Sub.refl _ | exact Sub.nil _)
    · skip
      have he2 : (check (l ++ [x])).1 = 0 := by simpa using he2
      rw [okL_eq he2, he2]
      refine cd_skip (xt_then (cd_seq (cd_region (st_v (v_move rfl) (st_v (v_assign rfl) (st_v (v_assign rfl) (st_nil (nx_kp [4, 5] rfl (nx_then (cd_ret ?_))))))))))
      exact xt_rt rfl ⟨T, rfl, _, rfl, h1, h2⟩ (by (repeat (refine Sub.sel (by repeat (first | exact Sel.here | apply Sel.there)) ?_)); (repeat apply Sub.cons); first | exact Sub.refl _ | exact Sub.nil _)
end
end Go.Hr
