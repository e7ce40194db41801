/-
  Lists of lists of names in the machine's memory: read, owned. Generic but for the types' numbers. No condition.
  Package heir: Levels. Conditions: what is read.
  A range over a function within a round of another one; structs of texts held against each other. Generic: nothing of the program is named here. No condition.
  Package heir: Needless. Conditions: what is read.
  The specification: SameLists, SameLinks. Conditions: what is read.
  The law's class, Five. No condition.
  The chapter's examples, reckoned. No condition.
  The law's sanity. No condition.
  The law's name, is. Conditions: what is read, a right system.
  HeirIsOrder. Conditions: what is read.
-/
import Derived.Test.YtjgiaohieadeiaaGreatM7
import Derived.RangeFuncNested
set_option linter.unusedVariables false
set_option linter.unusedSimpArgs false
namespace Go.Hr
open Go Go.RowKit Go.Ck
theorem v_imax {P : Program} {e : Env} {h : SH} {ty : TypeId} {x y : Operand} {ts : Array TypeId} {a b : Nat} (hx : e.ev? x = some (.int .i64 (a : Int))) (hy : e.ev? y = some (.int .i64 (b : Int))) : Vop P e h (.call { callee := .builtin .max, args := #[x, y], argTypes := ts }) ty (.int .i64 ((max a b : Nat) : Int)) :=
  ⟨by simp, by simp, fun ρ w d pos after g hρ _ => by
    by_cases hab : a ≤ b
    · have : (if (b : Int) > (a : Int) then (b : Int) else (a : Int)) = (b : Int) := by split <;> omega
      rw [Nat.max_eq_right hab]
      simp [execOp, resolve, invoke, builtin, hρ x _ hx, hρ y _ hy, Builtin.max_, Builtin.max2, this]
      omega
    · have : (if (b : Int) > (a : Int) then (b : Int) else (a : Int)) = (a : Int) := by split <;> omega
      rw [Nat.max_eq_left (by omega)]
      simp [execOp, resolve, invoke, builtin, hρ x _ hx, hρ y _ hy, Builtin.max_, Builtin.max2, this]
      omega⟩
def nlV : Value := .slice none 0 0
def llC (S : Res) (us : List Value) (xs : List Nm) : Prop := ∃ u, us = [u] ∧ nmsR S u xs
def llR (S : Res) (w : Value) (xss : List (List Nm)) : Prop := Row S 1 (llC S) w xss
def lrow (vals : List Value) (xss : List (List Nm)) : Nat → Res := fun i => NR (vals.getD i nlV) (xss.getD i [])
def LR (w : Value) (vals : List Value) (xss : List (List Nm)) : Res := Res.star [VR w 25 1 (vals.map fun u => [u]), RS xss.length (lrow vals xss)]
theorem llR.mono {S S' : Res} (hr : ∀ p u, Rd S p u → Rd S' p u) {w : Value} {xss : List (List Nm)} (h : llR S w xss) : llR S' w xss := Row.mono h hr fun _ _ _ ⟨u, h1, h2⟩ => ⟨u, h1, h2.mono hr⟩
theorem okF_mem {f : Nat → Option Obj} : ∀ {h : SH}, HoldsF f h → ∀ r ∈ h, r.ok f
  | _ :: _, hh, r, hr => by
    rcases List.mem_cons.1 hr with rfl | hr
    · exact hh.1
    · exact okF_mem hh.2.2 r hr
theorem rs_ok {n i : Nat} {R : Nat → Res} {f : Nat → Option Obj} (h : (RS n R).ok f) (hi : i < n) : (R i).ok f := okF_mem (h := (List.range n).map R) h _ (List.mem_map.2 ⟨i, List.mem_range.2 hi, rfl⟩)
theorem ll_own {w : Value} {vals : List Value} {xss : List (List Nm)} (hok : ∃ f, (LR w vals xss).ok f) (hl : vals.length = xss.length) : llR (LR w vals xss) w xss := by
  obtain ⟨f, h1, _, h2, _⟩ := hok
  refine row_vr ⟨f, h1⟩ (by simp [hl]) (fun p u hp => rd_in Sel.here p u hp) fun i us xs g1 g2 => ?_
  have hi : i < xss.length := (List.getElem?_eq_some_iff.1 g2).1
  have hi2 : i < vals.length := by omega
  rw [List.getElem?_map, List.getElem?_eq_getElem hi2] at g1
  simp only [Option.map_some, Option.some.injEq] at g1
  have hx : xss.getD i [] = xs := by simp [g2]
  have hv : vals.getD i nlV = vals[i] := by simp [hi2]
  refine ⟨vals[i], g1.symm, ?_⟩
  have hk := rs_ok h2 hi
  have hk' : (NR vals[i] xs).ok f := by
    have : lrow vals xss i = NR vals[i] xs := by unfold lrow; rw [hx, hv]
    rw [← this]; exact hk
  have := nms_own ⟨f, hk'⟩
  refine this.mono fun p u hp => rd_in (.there .here) p u (RS_in hi p u ?_)
  show Rd (lrow vals xss i) p u
  unfold lrow
  rw [hx, hv]; exact hp
theorem ll_at {S : Res} {w : Value} {xss : List (List Nm)} (h : llR S w xss) {i : Nat} {xs : List Nm} (hi : xss[i]? = some xs) : ∃ b o cap u, w = .slice (some ⟨b, o, none⟩) xss.length cap ∧ Rd S ⟨b, o + i * 1, none⟩ u ∧ nmsR S u xs := by
  obtain ⟨b, o, cap, u, h1, h2, u', h3, h4⟩ := Row.at1 h hi
  cases h3
  exact ⟨b, o, cap, u, h1, h2, h4⟩
theorem lrow_ne {vals : List Value} {xss : List (List Nm)} {d k : Nat} {u : Value} {ys : List Nm} (h : k ≠ d) : lrow vals xss k = lrow (vals.set d u) (xss.set d ys) k := by
  unfold lrow
  simp only [List.getD_eq_getElem?_getD, List.getElem?_set_ne (Ne.symm h)]
theorem lrow_eq {vals : List Value} {xss : List (List Nm)} {d : Nat} {u : Value} {ys : List Nm} (h1 : d < vals.length) (h2 : d < xss.length) : lrow (vals.set d u) (xss.set d ys) d = NR u ys := by
  unfold lrow
  simp [h1, h2]
theorem vw_lnew {vals : List Value} {xss : List (List Nm)} {h : SH} (hl : vals.length = xss.length) : Vw (RS xss.length (lrow vals xss) :: h) (RS (xss ++ [[]]).length (lrow (vals ++ [nlV]) (xss ++ [[]])) :: h) := fun w hh => by
  have h1 : Holds w (NR nlV [] :: RS xss.length (lrow vals xss) :: h) := hh.vr_nil 9 1
  have h2 : Holds w ([RS xss.length (lrow vals xss), NR nlV []] ++ h) := h1.perm (.swap _ _ _)
  have h3 := pv_snoc h w h2
  have he : (List.range xss.length).map (lrow vals xss) ++ [NR nlV []] = (List.range (xss ++ [[]]).length).map (lrow (vals ++ [nlV]) (xss ++ [[]])) := by
    rw [List.length_append, List.length_singleton, List.range_succ, List.map_append]
    congr 1
    · refine List.map_congr_left fun k hk => ?_
      have hk := List.mem_range.1 hk
      unfold lrow
      simp only [List.getD_eq_getElem?_getD]
      rw [List.getElem?_append_left (by omega), List.getElem?_append_left hk]
    · simp [lrow, hl.symm, List.getD_eq_getElem?_getD]
  rw [he] at h3
  exact h3
theorem pv_lset {vals : List Value} {xss : List (List Nm)} {d : Nat} {u : Value} {ys : List Nm} (h1 : d < vals.length) (h2 : d < xss.length) : ∀ t, Vw ([NR u ys, RSx xss.length d (lrow vals xss)] ++ t) ([RS (xss.set d ys).length (lrow (vals.set d u) (xss.set d ys))] ++ t) := fun t => by
  have := vw_unfoc' (h := t) h2 fun k hk => lrow_ne (vals := vals) (xss := xss) (u := u) (ys := ys) hk
  rw [lrow_eq h1 h2] at this
  rw [List.length_set]
  exact this
/-- The first k rows in order. -/
def mixR (rs : List (List Nm)) (k : Nat) : List (List Nm) := (rs.take k).map srt ++ rs.drop k
theorem mixR_zero (rs : List (List Nm)) : mixR rs 0 = rs := by simp [mixR]
theorem mixR_all (rs : List (List Nm)) : mixR rs rs.length = rs.map srt := by simp [mixR]
theorem mixR_len (rs : List (List Nm)) (k : Nat) : (mixR rs k).length = rs.length := by simp [mixR]; omega
theorem mixR_get {rs : List (List Nm)} {k : Nat} (h : k < rs.length) : (mixR rs k).getD k [] = rs[k] := by
  unfold mixR
  rw [List.getD_eq_getElem?_getD, List.getElem?_append_right (by simp; omega)]
  simp [Nat.min_eq_left (Nat.le_of_lt h), h]
theorem mixR_succ {rs : List (List Nm)} {k : Nat} (h : k < rs.length) : mixR rs (k + 1) = (mixR rs k).set k (srt rs[k]) := by
  unfold mixR
  rw [List.set_append, if_neg (by simp; omega), List.take_succ_eq_append_getElem h, List.map_append, List.append_assoc]
  congr 1
  rw [show rs.drop k = rs[k] :: rs.drop (k + 1) from (List.getElem_cons_drop h).symm, show k - ((rs.take k).map srt).length = 0 by simp [Nat.min_eq_left (Nat.le_of_lt h)]]
  rfl
/-! ## The rows of an order -/
variable {l : Sys}
theorem high_congr {a b : List Nm} (h : ∀ x, x ∈ a ↔ x ∈ b) : high l a = high l b := by
  have key : ∀ {a b : List Nm}, (∀ x, x ∈ a → x ∈ b) → high l a ≤ high l b := fun {a b} h => mx_le fun z hz => by
    obtain ⟨x, hx, rfl⟩ := List.mem_map.1 hz
    exact le_mx (List.mem_map.2 ⟨x, h x hx, rfl⟩)
  exact Nat.le_antisymm (key fun x hx => (h x).1 hx) (key fun x hx => (h x).2 hx)
theorem levels_order (hR : Right l) : (rows l (order l)).map srt = levels l := by
  have ho := (order_spec hR.acyc hR.uniq).2
  unfold rows levels
  rw [List.map_map, high_congr ho]
  refine List.map_congr_left fun n _ => ?_
  refine (srt_spec _).1.ext (srt_spec _).1 fun x => ?_
  rw [(srt_spec _).2, (srt_spec _).2]
  simp only [row, List.mem_filter, ho]
theorem Tp.take {o : List Nm} (h : Tp l o) (n : Nat) : Tp l (o.take n) := by
  induction h with
  | nil => simpa using Tp.nil
  | @snoc o c h1 h2 h3 ih =>
    rcases Nat.lt_or_ge o.length n with hn | hn
    · rw [List.take_of_length_le (by simp; omega)]
      exact h1.snoc h2 h3
    · rw [List.take_append_of_le_length hn]
      exact ih
theorem row_nodup {o : List Nm} (h : o.Nodup) (n : Nat) : (row l o n).Nodup := h.filter _
theorem rows_get {o : List Nm} {n : Nat} (h : n < (rows l o).length) : (rows l o).getD n [] = row l o n := by
  have : n < high l o := by simpa [rows] using h
  simp [rows, this]
end Go.Hr
namespace Go.Hr
open Go Go.RowKit Go.Ck Go.Proofs Go.Proofs.YtjgiaohieadeiaaGreat Fx
attribute [local irreducible] Go.Ck.Sub St Cd Xt Nx DrL LsW
section
variable {S N T : Res} {v nv : Value} {l : Sys} {ns : List Nm}
set_option maxHeartbeats 2000000 in
set_option maxRecDepth 100000 in
theorem Levels_ct (hv : sysR S v l) : Ct Tryz.prog 21 #[v] [S] fun u h' => ∃ w vals, u = .tuple #[w, .int .i64 (rightE l [])] ∧ w.oneCell' = true ∧ vals.length = (okL (rightE l []) (levels l)).length ∧ h' = [LR w vals (okL (rightE l []) (levels l)), S] := by
  obtain ⟨a, cap, rfl, _⟩ := id hv
  refine ct_ofM (n := 79) Tryz.func21 rfl rfl (len rfl) fun hr w0 => ?_
  refine cd_seq (cd_region (st_v (v_assign rfl) (st_v (v_assign rfl) (st_nil (nx_then (cd_seq (cd_region (st_v (v_move rfl) (st_cl rfl rfl en20 rfl (Order_ct hv) ?_)))))))))
  rintro u h' ⟨T, rfl, ov, rfl, hov, rfl⟩
  simp only [List.cons_append, List.nil_append]
  refine st_v (v_move rfl) (st_v (v_extract rfl rfl) (st_v (v_extract rfl rfl) (st_v (v_assign rfl) (st_v (v_assign rfl) (st_nil (nx_kp [0, 2, 3, 4, 5] rfl (nx_then (cd_seq (cd_seq (cd_region (st_v (v_move rfl) (st_v (v_neq rfl rfl) (st_nil (nx_kp [0, 2, 3, 4, 5, 20] rfl (nx_then ?_)))))))))))))))
  by_cases he : rightE l [] = 0
  · skip
    obtain ⟨hR, _⟩ := rightE_zero.1 he
    have hFl := hR.len
    rw [← levels_order hR]
    obtain ⟨hT, hmem⟩ := order_spec hR.acyc hR.uniq
    have hlen : (order l).length = l.length := ordN_len l l.length
    rw [he, okL_eq rfl, okL_eq rfl]
    refine cd_false rfl ?_
    refine cd_skip (xt_then (cd_seq (cd_region (st_v (v_move rfl) ?_))))
    generalize order l = o at *
    refine st_cl rfl rfl en51 rfl (of_ct hv (by omega)) ?_
    rintro u h' ⟨mb, rfl, rfl⟩
    simp only [List.cons_append, List.nil_append]
    refine st_ok (r := NR ov o) (by repeat (first | exact Sel.here | apply Sel.there)) fun hok2 => ?_
    have hno := nms_own hok2
    obtain ⟨ua, ucap, rfl, _⟩ := id hno
    refine st_alc al75 fun b6 => ?_
    refine st_stoW rfl rfl sz75 rfl rfl ?_
    refine st_nil (nx_kp [2, 3, 4, 6] rfl (nx_then (cd_seq (cd_region (st_smakeMap (ltn rfl) fun b24 => ?_)))))
    refine st_alc al73 fun b7 => ?_
    refine st_sto rfl rfl sz73 ?_
    refine st_nil (nx_kp [2, 3, 4, 6, 7] rfl (nx_then (cd_seq (cd_region (st_v (v_assign rfl) (st_nil (nx_then (cd_seq (cd_seq (cd_region (st_v (v_move rfl) (st_v (v_len rfl Tryz.underlying25) (st_v (v_move rfl) (st_nil (nx_kp [2, 3, 6, 7, 8, 25, 26, 27] rfl (nx_then (cd_block ?_)))))))))))))))))
    rw [show ([] : List (Bs × Value)) = mvG iV [] from rfl]
    refine cd_vw (vw_nil 25 1) (cd_vw (vw_unstar (L := [])) (cd_marks0 (cd_loopD (σ := (Nat × Value × List Value) × List (Nm × Nat) × List Nat) (fun q => q.2.2.map mk) (fun q => [(6, .pointer (some ⟨b6, 0, none⟩)), (7, .pointer (some ⟨b7, 0, none⟩)), (8, q.1.2.1), (25, .slice ua o.length ucap), (26, .int .i64 o.length), (27, .int .i64 (q.1.1 : Nat))]) (fun q => Res.star (marks q.2.2) :: VR q.1.2.1 25 1 (q.1.2.2.map fun u => [u]) :: RS (rows l (o.take q.1.1)).length (lrow q.1.2.2 (rows l (o.take q.1.1))) :: pt b6 (cl [.slice a l.length cap, .map (some mb)] 75) :: pt b7 (cl [.map (some b24)] 73) :: mps b24 (mvG iV q.2.1) :: NR (.slice ua o.length ucap) o :: mps mb (kindsM l) :: S :: hr) (fun q => q.1.1 ≤ o.length ∧ LevI l (o.take q.1.1) q.2.1 ∧ q.1.2.2.length = (rows l (o.take q.1.1)).length) (fun q => o.length - q.1.1) ((0, .slice none 0 0, []), [], []) ⟨Nat.zero_le _, LevI.init l, rfl⟩ rfl ⟨rfl, rfl, rfl, rfl, rfl, rfl, trivial⟩ (by (repeat (refine Sub.sel (by repeat (first | exact Sel.here | apply Sel.there)) ?_)); (repeat apply Sub.cons); first | exact Sub.refl _ | exact Sub.nil _) ?_)))
    rintro ⟨⟨i, w, vals⟩, F, bs⟩ ⟨hi, hI, hvl⟩
    simp only at hi hI hvl
    dsimp only
    refine cd_rowf (v := w) (by repeat (first | exact Sel.here | apply Sel.there)) fun wa wcp hwe _ _ => ?_
    rw [List.length_map] at hwe
    subst hwe
    refine cd_seq (cd_region (st_v (v_lss rfl rfl) (st_nil (nx_then (cd_seq (cd_cond rfl (fun hd => ?_) (fun hd => ?_)))))))
    · skip
      have hlt : i < o.length := by simpa using hd
      obtain ⟨tb, to, tcap, htv, htrd⟩ := nms_at hno (List.getElem?_eq_getElem hlt)
      obtain ⟨hx0, hp0⟩ := tp_at hR.acyc hT hlt
      have hsucc := List.take_succ_eq_append_getElem hlt
      generalize o[i] = z at *
      refine cd_skip (xt_then (cd_seq (cd_block (cd_seq (cd_region (st_v (v_indexAddr (k := i) (congrArg some htv) rfl sl25 rfl hlt rfl) (st_v (v_ldy rfl ld9) ?_)))))))
      refine st_alc al9 fun b10 => ?_
      refine st_sto rfl rfl sz9 ?_
      refine st_nil (nx_kp [6, 7, 8, 10, 25, 26, 27] rfl (nx_then (cd_seq (cd_seq (cd_region (st_v (v_ldn rfl ld75 rfl rds_pt) ?_))))))
      refine st_v (v_ldy rfl ld9) ?_
      refine st_cl rfl rfl en37 rfl (parents0_ct rfl) ?_
      rintro u h' ⟨n1, n2, rfl, rfl⟩
      refine st_nil (nx_kp [6, 7, 8, 10, 25, 26, 27, 33] rfl (nx_then (cd_block ?_)))
      simp only [List.cons_append, List.nil_append]
      unfold seqv
      refine cd_range' rfl en71 fun yl db rec hst hpe hps hasg hbo hkn2 => ?_
      refine ⟨_, Ct.perm (it_ct (σ := List (Nm × Nat)) (b1 := n1) (b2 := n2) (mb := mb) (yl := yl) (c := z) (fun q => pt yl (.loop rec) :: pt db (.deferred (some [])) :: pt b10 (cl [sv z] 9) :: Res.star (marks bs) :: VR (.slice wa vals.length wcp) 25 1 (vals.map fun u => [u]) :: RS (rows l (o.take i)).length (lrow vals (rows l (o.take i))) :: pt b6 (cl [.slice a l.length cap, .map (some mb)] 75) :: pt b7 (cl [.map (some b24)] 73) :: mps b24 (mvG iV q) :: NR (.slice ua o.length ucap) o :: hr)
        (fun k q => LevK l (o.take i) z ((par l z).take k) q) (fun _ _ => False) F (hI.start hx0) hv hR.fine.few ?_) ?_, ?_⟩
      · rintro k F2 p hk hK
        obtain ⟨hkl, hke⟩ := List.getElem?_eq_some_iff.1 hk
        have hpm := List.mem_of_getElem? hk
        have hle := hK.le hR.acyc hFl
        have h1 := hle z
        have h2 := hle p
        have hK2 := hK.next (hp0 p hpm) hx0
        rw [show (par l z).take k ++ [p] = (par l z).take (k + 1) by rw [List.take_succ_eq_append_getElem hkl, hke]] at hK2
        refine Yc.perm (yc_of (n := 79) (rec := rec) (args := [sv p]) (hf := pt db (.deferred (some [])) :: pt b10 (cl [sv z] 9) :: Res.star (marks bs) :: VR (.slice wa vals.length wcp) 25 1 (vals.map fun u => [u]) :: RS (rows l (o.take i)).length (lrow vals (rows l (o.take i))) :: pt b6 (cl [.slice a l.length cap, .map (some mb)] 75) :: pt b7 (cl [.map (some b24)] 73) :: mps b24 (mvG iV F2) :: NR (.slice ua o.length ucap) o :: S :: mps mb (kindsM l) :: hr) (by rw [hps]; rfl) hkn2 (by rw [hps]; decide) ?_) (by exact (by repeat (first | exact Pm.refl | refine Pm.cons (by repeat (first | exact Sel.here | apply Sel.there)) ?_) : Pm _ _).perm)
        intro hr2 w1
        rw [hasg, hps, hbo]
        simp only [List.cons_append, List.nil_append]
        refine cd_region (st_v (v_assign rfl) (st_nil (nx_kp [7, 10, 11] rfl (nx_xt (xt_mid rfl (by repeat (first | exact Sel.here | apply Sel.there)) (by first | rfl | assumption) ?_)))))
        refine cd_block (cd_region (st_v (v_ldy rfl ld73) ?_))
        refine st_v (v_ldy rfl ld9) ?_
        refine st_v (v_ldy rfl ld73) ?_
        refine st_v (v_ldy rfl ld9) ?_
        refine st_v (v_is (nval_look F2 z) (v_slookup rfl rfl mp73 inf3 (by repeat (first | exact Sel.here | apply Sel.there)))) ?_
        refine st_v (v_ldy rfl ld73) ?_
        refine st_v (v_move rfl) (st_v (v_is (nval_look F2 p) (v_slookup rfl rfl mp73 inf3 (by repeat (first | exact Sel.here | apply Sel.there)))) ?_)
        refine st_v (v_add rfl rfl (by unfold I64 at *; omega)) (st_v (v_imax (a := nval F2 z) (b := nval F2 p + 1) rfl rfl) (st_smapUpdate rfl rfl rfl mp73 (by repeat (first | exact Sel.here | apply Sel.there)) ?_))
        refine st_nil (nx_kp [] rfl (nx_xt (xt_normal_block ?_)))
        rw [show supd (mvG iV F2) z (.int .i64 ((max (nval F2 z) (nval F2 p + 1) : Nat) : Int)) = mvG iV (aupd F2 z (max (nval F2 z) (nval F2 p + 1))) from supd_mvG iV F2 z _]
        refine xt_round (by repeat (first | exact Sel.here | apply Sel.there)) (.inl ⟨rfl, aupd F2 z (max (nval F2 z) (nval F2 p + 1)), hK2, rfl⟩) ?_
        rw [rec_back hst hpe]
        exact (by repeat (first | exact Sub.refl _ | exact Sub.nil _ | refine Sub.sel (by repeat (first | exact Sel.here | apply Sel.there)) ?_ | apply Sub.cons))
      · exact (by repeat (first | exact Pm.refl | refine Pm.cons (by repeat (first | exact Sel.here | apply Sel.there)) ?_) : Pm _ _).perm
      · rintro u h' ⟨rfl, (⟨F2, hK, rfl⟩ | ⟨_, _, hfalse, _⟩)⟩
        · rw [List.take_length] at hK
          have hval : nval F2 z = lv l z := by rw [hK z, if_pos rfl, ← lv_rec hR.acyc]
          have hI2 : LevI l (o.take (i + 1)) F2 := by rw [hsucc]; exact hK.done hR.acyc
          have hlook : (slook (mvG iV F2) z).getD (.int .i64 0) = .int .i64 (lv l z : Int) := by rw [nval_look, hval]
          refine ⟨rec, _, (by repeat (first | exact Sel.here | apply Sel.there)), (by rw [hst]; simp), ?_⟩
          rw [hpe]
          dsimp only
          refine xt_normal_block (xt_then (cd_seq (cd_seq (cd_region (st_v (v_ldy rfl ld73) ?_)))))
          refine st_v (v_ldy rfl ld9) ?_
          refine st_v (v_is hlook (v_slookup rfl rfl mp73 inf3 (by repeat (first | exact Sel.here | apply Sel.there)))) ?_
          refine st_v (v_move rfl) (st_v (v_len rfl Tryz.underlying54) (st_v (v_eql rfl rfl) (st_nil (nx_kp [6, 7, 8, 10, 25, 26, 27, 50] rfl (nx_then ?_)))))
          have hTi : Tp l (o.take i ++ [z]) := by rw [← hsucc]; exact hT.take (i + 1)
          obtain ⟨hdle, hrows⟩ := rows_snoc hR.acyc hTi hx0
          rw [← hsucc] at hrows
          have hd24 := lv_24 hR.acyc hFl z
          generalize hr0 : rows l (o.take i) = rs at *
          generalize lv l z = d at *
          by_cases hdl : d = rs.length
          · skip
            rw [if_pos hdl] at hrows
            rw [show ((d : Int) == (vals.length : Int)) = true by rw [beq_iff_eq]; omega]
            refine cd_true rfl ?_
            refine cd_region (st_v (v_move rfl) (st_buildSlice (cells := [.slice none 0 0]) rfl Tryz.underlying54 inf25 rfl rfl (by kernel_rfl) (ltn rfl) fun b52 => ?_))
            refine st_app [[.slice none 0 0]] rfl rfl Tryz.underlying54 inf25 rfl (by decide) (show Sel _ (VR (.slice wa vals.length wcp) 25 1 (vals.map fun u => [u])) _ from (by repeat (first | exact Sel.here | apply Sel.there))) (by simp) rfl (fun j u2 hu2 => at_here (rd_cl (by simpa using hu2))) (by simp [Value.oneCell']) (by rw [List.length_map]; omega) (by rw [List.length_map]; omega) (ltn rfl) fun w3 hw3 _ => ?_
            rw [show (vals.map fun u => [u]) ++ [[.slice none 0 0]] = (vals ++ [nlV]).map fun u => [u] by simp [nlV]]
            refine st_v (v_assign rfl) (st_nil (nx_kp [6, 7, 8, 10, 25, 26, 27] rfl (nx_then (cd_vw (Vw.sel (by repeat (first | exact Sel.here | apply Sel.there)) (vw_lnew hvl)) ?_))))
            have hv1 : (vals ++ [nlV]).length = (rs ++ [[]]).length := by simp [hvl]
            have hd1 : d < (rs ++ [([] : List Nm)]).length := by simp [hdl]
            have hset : rows l (o.take (i + 1)) = (rs ++ [[]]).set d ((rs ++ [[]]).getD d [] ++ [z]) := by rw [hrows, hdl]; simp
            generalize vals ++ [nlV] = V at *
            generalize rs ++ [([] : List Nm)] = R at *
            refine cd_row (v := w3) (by repeat (first | exact Sel.here | apply Sel.there)) (fun _ h0 => absurd (List.map_eq_nil_iff.1 h0) fun e => by rw [e, List.length_nil] at hv1; omega) (fun wb wo wc2 hwe _ _ => ?_)
            rw [List.length_map] at hwe
            subst hwe
            refine cd_vw (Vw.sel (by repeat (first | exact Sel.here | apply Sel.there)) (vw_foc (i := d) hd1)) ?_
            have hru : lrow V R d = NR (V.getD d nlV) (R.getD d []) := rfl
            have hVd : V[d]? = some (V.getD d nlV) := getD_of nlV (by omega)
            generalize V.getD d nlV = ru at *
            have hrdl : (R.getD d []).length + 1 ≤ 24 := by
              have g1 := rows_get (l := l) (o := o.take (i + 1)) (n := d) (by rw [hset, List.length_set]; exact hd1)
              rw [hset] at g1
              have g2 : (R.set d (R.getD d [] ++ [z])).getD d [] = R.getD d [] ++ [z] := by simp [hd1]
              have g3 : (row l (o.take (i + 1)) d).length ≤ i + 1 := Nat.le_trans (List.length_filter_le _ _) (by rw [List.length_take]; omega)
              rw [← g1, g2, List.length_append, List.length_singleton] at g3
              omega
            generalize R.getD d [] = rd at *
            rw [hru]
            have hVm : (V.map fun u => [u])[d]? = some [ru] := by rw [List.getElem?_map, hVd]; rfl
            have hrdu : Rd (VR (.slice (some ⟨wb, wo, none⟩) V.length wc2) 25 1 (V.map fun u => [u])) ⟨wb, wo + d * 1, none⟩ ru := rd_vrk (m := d) (k := 0) (by rw [List.getElem?_map, hVd]; rfl) rfl
            refine cd_draw (ork [(0, 2), (1, 1), (2, 1), (3, 1), (4, 2), (5, 1), (6, 1), (7, 1), (8, 2), (9, 1), (10, 1), (11, 0), (12, 0), (13, 2), (14, 0)] .nil) (fun i => !(Nat.beq i 14)) [mps b24 (mvG iV F2), pt b7 (cl [.map (some b24)] 73), pt b10 (cl [sv z] 9), VR (.slice (some ⟨wb, wo, none⟩) V.length wc2) 25 1 (V.map fun u => [u])] mixed (by kernel_rfl) ?_
            refine dp_v rfl (v_move rfl) (dr_v rfl (v_ldy rfl ld73) ?_)
            refine dr_v rfl (v_ldy rfl ld9) ?_
            refine dr_v rfl (v_is hlook (v_slookup rfl rfl mp73 inf3 (by repeat (first | exact Sel.here | apply Sel.there)))) ?_
            refine dp_v rfl (v_move rfl) (dr_v rfl (v_ldy rfl ld73) ?_)
            refine dr_v rfl (v_ldy rfl ld9) ?_
            refine dr_v rfl (v_is hlook (v_slookup rfl rfl mp73 inf3 (by repeat (first | exact Sel.here | apply Sel.there)))) ?_
            refine dp_v rfl (v_indexAddr (k := d) rfl rfl sl54 rfl (by omega) rfl) (dr_v rfl (v_ldy rfl ld25) ?_)
            refine dr_v rfl (v_ldy rfl ld9) ?_
            refine dr_eff rfl (st_buildSlice (cells := [sv z]) rfl Tryz.underlying25 inf9 rfl rfl (by kernel_rfl) (ltn rfl) fun b65 => dr_nx ?_)
            refine dr_eff rfl (st_app [nC z] rfl rfl Tryz.underlying25 inf9 rfl (by decide) (show Sel _ (NR ru rd) _ from (by repeat (first | exact Sel.here | apply Sel.there))) (by simp [nC]) rfl (fun j u2 hu2 => at_here (rd_cl (by simpa [nC] using hu2))) (by simp [nC, Value.oneCell']) (by rw [List.length_map]; omega) (by rw [List.length_map]; omega) (ltn rfl) fun w4 hw4 _ => dr_nx ?_)
            rw [show rd.map nC ++ [nC z] = (rd ++ [z]).map nC by simp]
            refine dp_v rfl (v_indexAddr (k := d) rfl rfl sl54 rfl (by omega) rfl) ?_
            have hVs : (V.map fun u => [u]).set d [w4] = (V.set d w4).map fun u => [u] := by rw [List.map_set]
            refine dr_eff rfl (st_vr (sz := 1) (m := d) (k := 0) rfl rfl sz25 hw4 hVm (by decide) hVs (by repeat (first | exact Sel.here | apply Sel.there)) (dr_nx ?_))
            refine dr_nil (nx_kp [6, 7, 8, 25, 26, 27] rfl (nx_xt (xt_normal_block (xt_then (cd_region (st_v (v_add rfl rfl (by unfold I64 at *; omega)) (st_v (v_move rfl) (st_nil (nx_kp [6, 7, 8, 25, 26, 27] rfl (nx_xt (xt_mark (by repeat (first | exact Sel.here | apply Sel.there)) (by repeat (first | exact Sel.here | apply Sel.there)) ?_)))))))))))
            refine xt_pv (pv_lset (vals := V) (xss := R) (u := w4) (ys := rd ++ [z]) (by omega) hd1) ?_
            rw [← hset]
            refine xt_againD ((i + 1, .slice (some ⟨wb, wo, none⟩) V.length wc2, V.set d w4), F2, db :: bs) ⟨hlt, hI2, by show (V.set d w4).length = _; rw [hset, List.length_set, List.length_set]; exact hv1⟩ (by show o.length - (i + 1) < o.length - i; omega) rfl ⟨rfl, rfl, rfl, rfl, rfl, rfl, trivial⟩ (by (repeat (refine Sub.sel (by repeat (first | exact Sel.here | apply Sel.there)) ?_)); (repeat apply Sub.cons); first | exact Sub.refl _ | exact Sub.nil _)
          · skip
            rw [if_neg hdl] at hrows
            rw [show ((d : Int) == (vals.length : Int)) = false by rw [beq_eq_false_iff_ne]; omega]
            refine cd_false rfl ?_
            refine cd_skip (xt_then ?_)
            have hd1 : d < rs.length := by omega
            have hset : rows l (o.take (i + 1)) = rs.set d (rs.getD d [] ++ [z]) := by
              rw [hrows, ← hr0, rows_get (by rw [hr0]; exact hd1)]
            refine cd_row (v := .slice wa vals.length wcp) (by repeat (first | exact Sel.here | apply Sel.there)) (fun _ h0 => absurd (List.map_eq_nil_iff.1 h0) fun e => by rw [e, List.length_nil] at hvl; omega) (fun wb wo wc2 hwe _ _ => ?_)
            rw [List.length_map] at hwe
            cases hwe
            refine cd_vw (Vw.sel (by repeat (first | exact Sel.here | apply Sel.there)) (vw_foc (i := d) hd1)) ?_
            have hru : lrow vals rs d = NR (vals.getD d nlV) (rs.getD d []) := rfl
            have hVd : vals[d]? = some (vals.getD d nlV) := getD_of nlV (by omega)
            generalize vals.getD d nlV = ru at *
            have hrdl : (rs.getD d []).length + 1 ≤ 24 := by
              have g1 := rows_get (l := l) (o := o.take (i + 1)) (n := d) (by rw [hset, List.length_set]; exact hd1)
              rw [hset] at g1
              have g2 : (rs.set d (rs.getD d [] ++ [z])).getD d [] = rs.getD d [] ++ [z] := by simp [hd1]
              have g3 : (row l (o.take (i + 1)) d).length ≤ i + 1 := Nat.le_trans (List.length_filter_le _ _) (by rw [List.length_take]; omega)
              rw [← g1, g2, List.length_append, List.length_singleton] at g3
              omega
            generalize rs.getD d [] = rd at *
            rw [hru]
            have hVm : (vals.map fun u => [u])[d]? = some [ru] := by rw [List.getElem?_map, hVd]; rfl
            have hrdu : Rd (VR (.slice (some ⟨wb, wo, none⟩) vals.length wcp) 25 1 (vals.map fun u => [u])) ⟨wb, wo + d * 1, none⟩ ru := rd_vrk (m := d) (k := 0) (by rw [List.getElem?_map, hVd]; rfl) rfl
            refine cd_draw (ork [(0, 2), (1, 1), (2, 1), (3, 1), (4, 2), (5, 1), (6, 1), (7, 1), (8, 2), (9, 1), (10, 1), (11, 0), (12, 0), (13, 2), (14, 0)] .nil) (fun i => !(Nat.beq i 14)) [mps b24 (mvG iV F2), pt b7 (cl [.map (some b24)] 73), pt b10 (cl [sv z] 9), VR (.slice (some ⟨wb, wo, none⟩) vals.length wcp) 25 1 (vals.map fun u => [u])] mixed (by kernel_rfl) ?_
            refine dp_v rfl (v_move rfl) (dr_v rfl (v_ldy rfl ld73) ?_)
            refine dr_v rfl (v_ldy rfl ld9) ?_
            refine dr_v rfl (v_is hlook (v_slookup rfl rfl mp73 inf3 (by repeat (first | exact Sel.here | apply Sel.there)))) ?_
            refine dp_v rfl (v_move rfl) (dr_v rfl (v_ldy rfl ld73) ?_)
            refine dr_v rfl (v_ldy rfl ld9) ?_
            refine dr_v rfl (v_is hlook (v_slookup rfl rfl mp73 inf3 (by repeat (first | exact Sel.here | apply Sel.there)))) ?_
            refine dp_v rfl (v_indexAddr (k := d) rfl rfl sl54 rfl (by omega) rfl) (dr_v rfl (v_ldy rfl ld25) ?_)
            refine dr_v rfl (v_ldy rfl ld9) ?_
            refine dr_eff rfl (st_buildSlice (cells := [sv z]) rfl Tryz.underlying25 inf9 rfl rfl (by kernel_rfl) (ltn rfl) fun b65 => dr_nx ?_)
            refine dr_eff rfl (st_app [nC z] rfl rfl Tryz.underlying25 inf9 rfl (by decide) (show Sel _ (NR ru rd) _ from (by repeat (first | exact Sel.here | apply Sel.there))) (by simp [nC]) rfl (fun j u2 hu2 => at_here (rd_cl (by simpa [nC] using hu2))) (by simp [nC, Value.oneCell']) (by rw [List.length_map]; omega) (by rw [List.length_map]; omega) (ltn rfl) fun w4 hw4 _ => dr_nx ?_)
            rw [show rd.map nC ++ [nC z] = (rd ++ [z]).map nC by simp]
            refine dp_v rfl (v_indexAddr (k := d) rfl rfl sl54 rfl (by omega) rfl) ?_
            have hVs : (vals.map fun u => [u]).set d [w4] = (vals.set d w4).map fun u => [u] := by rw [List.map_set]
            refine dr_eff rfl (st_vr (sz := 1) (m := d) (k := 0) rfl rfl sz25 hw4 hVm (by decide) hVs (by repeat (first | exact Sel.here | apply Sel.there)) (dr_nx ?_))
            refine dr_nil (nx_kp [6, 7, 8, 25, 26, 27] rfl (nx_xt (xt_normal_block (xt_then (cd_region (st_v (v_add rfl rfl (by unfold I64 at *; omega)) (st_v (v_move rfl) (st_nil (nx_kp [6, 7, 8, 25, 26, 27] rfl (nx_xt (xt_mark (by repeat (first | exact Sel.here | apply Sel.there)) (by repeat (first | exact Sel.here | apply Sel.there)) ?_)))))))))))
            refine xt_pv (pv_lset (vals := vals) (xss := rs) (u := w4) (ys := rd ++ [z]) (by omega) hd1) ?_
            rw [← hset]
            refine xt_againD ((i + 1, .slice (some ⟨wb, wo, none⟩) vals.length wcp, vals.set d w4), F2, db :: bs) ⟨hlt, hI2, by show (vals.set d w4).length = _; rw [hset, List.length_set, List.length_set]; exact hvl⟩ (by show o.length - (i + 1) < o.length - i; omega) rfl ⟨rfl, rfl, rfl, rfl, rfl, rfl, trivial⟩ (by (repeat (refine Sub.sel (by repeat (first | exact Sel.here | apply Sel.there)) ?_)); (repeat apply Sub.cons); first | exact Sub.refl _ | exact Sub.nil _)
        · exact hfalse.elim
    · skip
      have hil : i = o.length := by have : ¬ i < o.length := by simpa using hd
                                    omega
      subst hil
      rw [List.take_length] at hI
      refine cd_exit (xt_exit_then (xt_exit_then (xt_exit_block (xt_then (cd_seq (cd_seq (cd_region (st_v (v_move rfl) (st_v (v_len rfl Tryz.underlying54) (st_v (v_move rfl) (st_nil (nx_kp [8, 69, 70, 71] rfl (nx_then (cd_block ?_))))))))))))))
      have hTn : o.Nodup := hT.nodup
      have hrl : (rows l o).length ≤ 25 := by
        simp only [rows, List.length_map, List.length_range]
        exact mx_le fun x hx => by
          obtain ⟨y, _, rfl⟩ := List.mem_map.1 hx
          have := lv_24 hR.acyc hFl y
          omega
      have hrn : ∀ k (h : k < (rows l o).length), ((rows l o)[k]).Nodup ∧ ((rows l o)[k]).length ≤ 24 := fun k h => by
        have hk := rows_get h
        rw [show (rows l o).getD k [] = (rows l o)[k] by simp [h]] at hk
        rw [hk]
        exact ⟨row_nodup hTn k, Nat.le_trans (List.length_filter_le _ _) (by omega)⟩
      rw [List.take_length] at hvl
      rw [List.take_length]
      generalize rows l o = rs at *
      refine cd_lq (σ := Nat) (fun k => [(8, .slice wa vals.length wcp), (69, .slice wa vals.length wcp), (70, .int .i64 vals.length), (71, .int .i64 (k : Nat))]) (fun k => RS (mixR rs k).length (lrow vals (mixR rs k)) :: VR (.slice wa vals.length wcp) 25 1 (vals.map fun u => [u]) :: Res.star (marks bs) :: S :: hr) (fun k => k ≤ vals.length) (fun k => vals.length - k) 0 (Nat.zero_le _) ?_
      rintro k hk
      refine cd_seq (cd_region (st_v (v_lss rfl rfl) (st_nil (nx_then (cd_seq (cd_cond rfl (fun hd2 => ?_) (fun hd2 => ?_)))))))
      · skip
        have hklt : k < vals.length := by simpa using hd2
        have hk1 : k < (mixR rs k).length := by rw [mixR_len]; omega
        have hk2 : k < rs.length := by omega
        obtain ⟨hn1, hn2⟩ := hrn k hk2
        have hVd : vals[k]? = some vals[k] := List.getElem?_eq_getElem hklt
        have hVm : (vals.map fun u => [u])[k]? = some [vals[k]] := by rw [List.getElem?_map, hVd]; rfl
        refine cd_row (v := .slice wa vals.length wcp) (by repeat (first | exact Sel.here | apply Sel.there)) (fun _ h0 => absurd (List.map_eq_nil_iff.1 h0) fun e => by rw [e, List.length_nil] at hklt; omega) (fun wb wo wc2 hwe _ _ => ?_)
        rw [List.length_map] at hwe
        cases hwe
        refine cd_vw (Vw.sel (by repeat (first | exact Sel.here | apply Sel.there)) (vw_foc (i := k) hk1)) ?_
        have hru : lrow vals (mixR rs k) k = NR vals[k] rs[k] := by
          unfold lrow
          rw [mixR_get hk2]
          simp [hklt]
        rw [hru]
        have hrdu : Rd (VR (.slice (some ⟨wb, wo, none⟩) vals.length wcp) 25 1 (vals.map fun u => [u])) ⟨wb, wo + k * 1, none⟩ vals[k] := rd_vrk (m := k) (k := 0) hVm rfl
        refine cd_skip (xt_then (cd_seq (cd_block (cd_seq (cd_region (st_v (v_indexAddr (k := k) rfl rfl sl54 rfl hklt rfl) (st_v (v_ldy rfl ld25) ?_)))))))
        refine st_v (v_assign rfl) (st_nil (nx_kp [8, 13, 69, 70, 71] rfl (nx_then (cd_region (st_v (v_move rfl) (st_cl rfl rfl en52 rfl (Sort_ct hn1 (by omega)) ?_))))))
        rintro u h' ⟨rfl, rfl⟩
        simp only [List.cons_append, List.nil_append]
        refine st_nil (nx_kp [8, 69, 70, 71] rfl (nx_xt (xt_normal_block (xt_then (cd_region (st_v (v_add rfl rfl (by unfold I64 at *; omega)) (st_v (v_move rfl) (st_nil (nx_kp [8, 69, 70, 71] rfl (nx_xt (xt_pv (pv_lset (vals := vals) (xss := mixR rs k) (u := vals[k]) (ys := srt rs[k]) hklt hk1) ?_)))))))))))
        rw [← mixR_succ hk2, List.set_getElem_self]
        refine xt_aq (k + 1) hklt (by show _ - _ < _ - _; omega)
      · skip
        have hke : k = rs.length := by have : ¬ k < vals.length := by simpa using hd2
                                       omega
        rw [hke, mixR_all]
        refine cd_exit (xt_exit_then (xt_exit_then (xt_exit_block (xt_then (cd_seq (cd_region (st_v (v_move rfl) (st_v (v_assign rfl) (st_v (v_assign rfl) (st_nil (nx_kp [2, 3] rfl (nx_then (cd_ret (xt_pv (pv_pack (L := [VR (.slice wa vals.length wcp) 25 1 (vals.map fun u => [u]), RS (rs.map srt).length (lrow vals (rs.map srt))])) ?_))))))))))))))
        refine xt_retS (bs := bs) rfl rfl ⟨.slice wa vals.length wcp, vals, rfl, rfl, by rw [List.length_map]; exact hvl, rfl⟩ (by (repeat (refine Sub.sel (by repeat (first | exact Sel.here | apply Sel.there)) ?_)); (repeat apply Sub.cons); first | exact Sub.refl _ | exact Sub.nil _)
  · skip
    rw [okL_ne he, okL_ne he, ne_true he]
    refine cd_true rfl ?_
    refine cd_seq (cd_region (st_v (v_move rfl) (st_v (v_assign rfl) (st_v (v_assign rfl) (st_nil (nx_kp [2, 3] rfl (nx_then (cd_ret (xt_ret_then (xt_vw (vw_nil 25 1) (xt_vw (vw_unstar (L := [])) (xt_pv (pv_pack (L := [VR (.slice none 0 0) 25 1 [], Res.star []])) ?_))))))))))))
    exact xt_retM (bs := []) rfl rfl ⟨.slice none 0 0, [], rfl, rfl, rfl, rfl⟩ (by repeat (first | exact Sub.refl _ | exact Sub.nil _ | refine Sub.sel (by repeat (first | exact Sel.here | apply Sel.there)) ?_ | apply Sub.cons))
end
end Go.Hr
namespace Go.Ck
open Go Go.RowKit
theorem cd_rangeN {P : Program} {n l0 : Nat} {r0 : Loop} {ds : List Deferred} {w0 : World} {Q : Exit → Act → World → Prop} {e : Env} {h h0 : SH} {g : Operand} {k : FuncId} {fi cp : Array Value} {ps : Array Tmp} {assign body : Code}
    (hg : e.ev? g = some (.func (.func k) fi cp)) (hE : Ck.Enters P k) (s0 : Sel h (pt l0 (.loop r0)) h0)
    (hct : ∀ (l : Nat) (rec : Loop), rec.state = .ready → rec.pending = none → rec.params = ps → rec.assign = assign → rec.body = body → Kn n [] { tmps := rec.tmps, defers := [] } e →
      ∃ R', Ct P k (fi ++ #[.func (.yield l) #[] #[]] ++ cp) (pt l (.loop rec) :: h) R' ∧
        ∀ v h', R' v h' → ∃ rec h'', Sel h' (pt l (.loop rec)) h'' ∧ rec.state ≠ .busy ∧ (match rec.pending with | none => Xt ⟨P, some l0, n, ds, w0⟩ .normal Q e h'' | some x => Cd ⟨P, some l0, n, ds, w0⟩ x Q e h'')) :
    Cd ⟨P, some l0, n, ds, w0⟩ (.rangeFunc g ps assign body) Q e h := fun a w hk hh hw => by
  have hl0 : w.heap[l0]? = some (.loop r0) := (hh.sel s0).1
  refine wpIn_rangeFunc fun fn _ => ?_
  obtain ⟨R', ct, hR'⟩ := hct w.heap.size { state := .ready, pending := none, fn := fn, tmps := a.tmps, params := ps, assign := assign, body := body, defers := r0.defers } rfl rfl rfl rfl rfl ⟨hk.size, rfl, hk.get⟩
  have h1 := Holds.alloc hh (.loop { state := .ready, pending := none, fn := fn, tmps := a.tmps, params := ps, assign := assign, body := body, defers := r0.defers })
  refine ⟨_, _, _, ⟨.fn (.func k) cp, fi ++ #[.func (.yield w.heap.size) #[] #[]]⟩, w.alloc (.loop { state := .ready, pending := none, fn := fn, tmps := a.tmps, params := ps, assign := assign, body := body, defers := r0.defers }), k, fi ++ #[.func (.yield w.heap.size) #[] #[]] ++ cp, w.alloc (.loop { state := .ready, pending := none, fn := fn, tmps := a.tmps, params := ps, assign := assign, body := body, defers := r0.defers }), run_enterLoop_inner hl0 fn a.tmps ps assign body, ?_, fun _ _ => trivial, ?_, fun h => by simp [Fw, Fence.wide] at h, ?_⟩
  · simp only [resolve, hk.ev hg, Deferred.ofValue, Sem.run_bind, Sem.run_pure, Result.andThen_ok]
    simp [Act.eval]
  · have : (invoke (.fn (.func k) cp) (fi ++ #[.func (.yield w.heap.size) #[] #[]])).run P (w.alloc (.loop { state := .ready, pending := none, fn := fn, tmps := a.tmps, params := ps, assign := assign, body := body, defers := r0.defers })) = .ok (.enter k (fi ++ #[.func (.yield w.heap.size) #[] #[]] ++ cp)) (w.alloc (.loop { state := .ready, pending := none, fn := fn, tmps := a.tmps, params := ps, assign := assign, body := body, defers := r0.defers })) := hE _ _
    exact this
  · have hgr : Same w (w.alloc (.loop { state := .ready, pending := none, fn := fn, tmps := a.tmps, params := ps, assign := assign, body := body, defers := r0.defers })) := (Grew.alloc _ _ rfl).toSame
    have hctw := ct [] _ (by simpa using h1)
    refine callsIn_fw (Calls.mono hctw fun en w' ⟨v, h', he, hRv, hH, hS⟩ => ?_)
    subst he
    obtain ⟨rec, h'', s, hbusy, hj⟩ := hR' v h' hRv
    have hH' := (show Holds w' h' by simpa using hH).sel s
    refine ⟨rec.pending, _, run_endLoop hH'.1 hbusy, ?_⟩
    have hk2 : Kn n ds { a with defers := [] ++ a.defers } e := ⟨hk.size, by simp [hk.defers], hk.get⟩
    have hH2 : ∀ o, Holds (w'.putObj w.heap.size o) h'' := fun o => (Holds.putObj hH' o).2.2
    have hS2 : ∀ r, Same w0 (w'.putObj w.heap.size (.loop r)) := fun r => (hw.trans hgr).trans (hS.trans (Same.putObj _ _ _ hH'.1 rfl rfl))
    generalize rec.pending = j at hj ⊢
    cases j with
    | none => exact hj _ _ hk2 (hH2 _) (hS2 _)
    | some x => exact hj _ _ hk2 (hH2 _) (hS2 _)
/-! ## Structs of texts -/
def isStr : Option TypeDesc → Bool
  | some .string => true
  | _ => false
def okStrs (P : Program) : List Field → Nat → Bool
  | [], _ => true
  | f :: t, i => (f.name != "_") && isStr (P.underlying f.type) && Nat.beq f.offset i && okStrs P t (i + 1)
def EqS (P : Program) (T : TypeId) (n : Nat) : Prop := P.eqGuardType P.depth T = false ∧ ∀ (xs ys : List Bs) (w : World), xs.length = n → ys.length = n →
  (Op.equalIn 10000 T (.agg (xs.map sv).toArray) (.agg (ys.map sv).toArray)).run P w = .ok (xs == ys) w
theorem isStr_of {o : Option TypeDesc} (h : isStr o = true) : o = some .string := by
  unfold isStr at h; split at h
  · rfl
  · cases h
theorem run_part_str {P : Program} {T : TypeId} (hu : P.underlying T = some .string) {xs : List Bs} {i : Nat} {x : Bs} (hx : xs[i]? = some x) (w : World) : (part T (xs.map sv).toArray i).run P w = .ok (sv x) w := by
  have hi : (isAgg T).run P w = .ok false w := by
    unfold isAgg
    simp only [Sem.run_bind, run_underlying hu, Result.andThen_ok]
    rfl
  unfold part
  have : (xs.map sv).toArray[i]? = some (sv x) := by simp [hx]
  simp only [Sem.run_bind, hi, Result.andThen_ok, Bool.false_eq_true, if_false, this, Sem.run_pure]
theorem run_eqStrs {P : Program} {d : Nat} {xs ys : List Bs} {w : World} : ∀ (fs : List Field) (i : Nat), okStrs P fs i = true → xs.length = i + fs.length → ys.length = i + fs.length →
    (Op.eqFields (d + 1) (xs.map sv).toArray (ys.map sv).toArray fs).run P w = .ok (xs.drop i == ys.drop i) w
  | [], i, _, hx, hy => by
    have h1 : xs.drop i = [] := List.drop_of_length_le (by simp at hx; omega)
    have h2 : ys.drop i = [] := List.drop_of_length_le (by simp at hy; omega)
    rw [h1, h2]
    simp [Op.eqFields]
  | f :: t, i, h, hx, hy => by
    simp only [okStrs, Bool.and_eq_true, bne_iff_ne] at h
    obtain ⟨⟨⟨h1, h2⟩, h3⟩, h4⟩ := h
    have h3' := Nat.eq_of_beq_eq_true h3
    simp only [List.length_cons] at hx hy
    have hxi : i < xs.length := by omega
    have hyi : i < ys.length := by omega
    have hu : P.underlying f.type = some .string := isStr_of h2
    unfold Op.eqFields
    rw [if_pos h1, h3']
    simp only [Sem.run_bind, run_part_str hu (List.getElem?_eq_getElem hxi), run_part_str hu (List.getElem?_eq_getElem hyi), Result.andThen_ok, run_equalIn_string w d f.type _ _ hu, toList_bs]
    have hb : (xs.drop i == ys.drop i) = (xs[i] == ys[i] && (xs.drop (i + 1) == ys.drop (i + 1))) := by
      rw [List.drop_eq_getElem_cons hxi, List.drop_eq_getElem_cons hyi]; rfl
    rw [hb]
    by_cases he : xs[i] = ys[i]
    · rw [if_neg (by simp [he]), run_eqStrs t (i + 1) h4 (by omega) (by omega), he]
      simp only [beq_self_eq_true, Bool.true_and]
    · rw [if_pos (by simp [he]), beq_eq_false_iff_ne.2 he]
      rfl
theorem EqS.of {P : Program} {T : TypeId} {fs : Array Field} {n : Nat} (h1 : P.underlying T = some (.struct fs)) (h2 : P.stoodInHeld T = false) (h3 : P.eqGuardType P.depth T = false) (h4 : okStrs P fs.toList 0 = true) (hn : fs.size = n) : EqS P T n := by
  refine ⟨h3, fun xs ys w hx hy => ?_⟩
  have hf : P.fieldsOf T = fs := by simp [Program.fieldsOf, h1]
  rw [run_equalIn_struct w 9999 T _ _ (by rw [hf]; exact h1) h2, hf, run_eqStrs fs.toList 0 h4 (by simp [hx, hn]) (by simp [hy, hn])]
  simp
section
variable {P : Program} {e : Env} {h h' : SH} {ty : TypeId}
theorem v_eql_two {T t' : TypeId} {x y : Operand} {a b c d : Bs} (hE : EqS P T 2) (hx : e.ev? x = some (.agg #[sv a, sv b])) (hy : e.ev? y = some (.agg #[sv c, sv d])) :
    Vop P e h (.binOp .eql T x y t') ty (.bool ([a, b] == [c, d])) :=
  ⟨by simp, by simp, fun ρ w dd pos after g hρ _ => by
    have hq : (Op.equalIn 10000 T (.agg #[sv a, sv b]) (.agg #[sv c, sv d])).run P w = .ok ([a, b] == [c, d]) w := hE.2 [a, b] [c, d] w rfl rfl
    simp only [execOp, hρ x _ hx, hρ y _ hy, Sem.run_bind, run_eqGuard_agg w .eql T x y _ _ hE.1, Result.andThen_ok, run_eql_struct, hq, Sem.run_pure]⟩
theorem v_neq_two {T t' : TypeId} {x y : Operand} {a b c d : Bs} (hE : EqS P T 2) (hx : e.ev? x = some (.agg #[sv a, sv b])) (hy : e.ev? y = some (.agg #[sv c, sv d])) :
    Vop P e h (.binOp .neq T x y t') ty (.bool (!([a, b] == [c, d]))) :=
  ⟨by simp, by simp, fun ρ w dd pos after g hρ _ => by
    have hq : (Op.equalIn 10000 T (.agg #[sv a, sv b]) (.agg #[sv c, sv d])).run P w = .ok ([a, b] == [c, d]) w := hE.2 [a, b] [c, d] w rfl rfl
    simp only [execOp, hρ x _ hx, hρ y _ hy, Sem.run_bind, run_eqGuard_agg w .neq T x y _ _ hE.1, Result.andThen_ok, run_neq_struct, hq, Sem.run_pure]⟩
end
theorem two_beq {a b c d : Bs} : ([a, b] == [c, d]) = (a == c && b == d) := by
  rw [Bool.eq_iff_iff]
  simp
end Go.Ck
namespace Go.Hr
open Go Go.RowKit Go.Ck Go.Proofs Go.Proofs.YtjgiaohieadeiaaGreat Fx
attribute [local irreducible] Go.Ck.Sub St Cd Xt Nx DrL LsW
theorem eqs68 : EqS Tryz.prog 68 2 := EqS.of Tryz.underlying68 (by kernel_rfl) (by kernel_rfl) (by kernel_rfl) rfl
/-- Links that are owned. -/
def lkC (q : Nm × Nm) : List Value := [sv q.1, sv q.2]
def KR (v : Value) (xs : List (Nm × Nm)) : Res := VR v 68 2 (xs.map lkC)
def preN (l : Sys) (i : Nat) : List (Nm × Nm) := ((nms l).take i).flatMap fun c => ((par l c).filter (spare l c)).map fun p => (c, p)
theorem preN_all (l : Sys) : preN l l.length = needless l := by
  unfold preN
  rw [show l.length = (nms l).length by simp [nms], List.take_length]; rfl
theorem preN_succ {l : Sys} {i : Nat} (h : i < l.length) : preN l (i + 1) = preN l i ++ ((par l (l[i]).name).filter (spare l (l[i]).name)).map fun p => ((l[i]).name, p) := by
  unfold preN
  rw [List.take_succ_eq_append_getElem (by simpa [nms] using h), List.flatMap_append]
  simp [nms]
theorem preN_len {l : Sys} (hR : Right l) (i : Nat) : (preN l i).length ≤ 4 * i := by
  unfold preN
  rw [List.length_flatMap]
  refine Nat.le_trans (sum_le (k := 4) fun c _ => ?_) ?_
  · rw [List.length_map]
    exact Nat.le_trans (List.length_filter_le _ _) (hR.par_few c)
  · rw [List.length_take]
    have := Nat.min_le_left i (nms l).length
    omega
theorem flt_yes {f : Nm → Bool} {ps : List Nm} {k : Nat} (hk : k < ps.length) (h : f ps[k] = true) : (ps.take (k + 1)).filter f = (ps.take k).filter f ++ [ps[k]] := by
  rw [List.take_succ_eq_append_getElem hk, List.filter_append, List.filter_cons_of_pos h]; rfl
theorem flt_no {f : Nm → Bool} {ps : List Nm} {k : Nat} (hk : k < ps.length) (h : f ps[k] = false) : (ps.take (k + 1)).filter f = (ps.take k).filter f := by
  rw [List.take_succ_eq_append_getElem hk, List.filter_append, List.filter_cons_of_neg (by rw [h]; decide)]; simp
theorem link_ne {c p q : Nm} {t : Bool} : ((!([c, p] == [c, q])) && t) = (q != p && t) := by
  congr 1
  rw [two_beq]
  simp [bne, Bool.beq_comm]
section
variable {S N T : Res} {v nv : Value} {l : Sys} {ns : List Nm}
set_option maxHeartbeats 2000000 in
set_option maxRecDepth 100000 in
theorem Needless_ct (hv : sysR S v l) : CtN Tryz.prog 23 #[v] [S] fun u T => ∃ w, u = .tuple #[w, .int .i64 (rightE l [])] ∧ w.oneCell' = true ∧ T = KR w (okL (rightE l []) (needless l)) := by
  obtain ⟨a, cap, rfl, _⟩ := id hv
  refine ct_ofM (n := 58) Tryz.func23 rfl rfl (len rfl) fun hr w0 => ?_
  refine cd_seq (cd_region (st_v (v_assign rfl) (st_v (v_assign rfl) (st_nil (nx_then (cd_seq (cd_region (st_v (v_move rfl) (st_vw (vw_unstar (L := [])) (st_cl rfl rfl en32 rfl (right_ct hv (N := Res.star []) (ns := []) Row.nil (by simp)) ?_))))))))))
  rintro u h' (⟨he, rfl, rfl⟩ | ⟨he, mb, rfl, rfl⟩)
  · skip
    simp only [List.cons_append, List.nil_append]
    unfold gr0
    refine st_v (v_move rfl) (st_v (v_extract rfl rfl) (st_v (v_extract rfl rfl) (st_alc al75 fun b4 => ?_)))
    refine st_stoW rfl rfl sz75 rfl rfl ?_
    refine st_v (v_assign rfl) (st_nil (nx_kp [0, 2, 3, 4, 5] rfl (nx_then (cd_seq (cd_seq (cd_region (st_v (v_move rfl) (st_v (v_neq rfl rfl) (st_nil (nx_kp [0, 2, 3, 4, 5, 18] rfl (nx_then ?_)))))))))))
    rw [ne_true he]
    refine cd_true rfl ?_
    refine cd_seq (cd_region (st_v (v_move rfl) (st_v (v_assign rfl) (st_v (v_assign rfl) (st_nil (nx_kp [2, 3] rfl (nx_then (cd_ret (xt_ret_then ?_)))))))))
    rw [okL_ne he]
    refine xt_vw (vw_nil 68 2) ?_
    exact xt_retM (bs := []) rfl rfl ⟨KR (.slice none 0 0) [], rfl, _, rfl, rfl, rfl⟩ (by repeat (first | exact Sub.refl _ | exact Sub.nil _ | refine Sub.sel (by repeat (first | exact Sel.here | apply Sel.there)) ?_ | apply Sub.cons))
  · skip
    obtain ⟨hR, _⟩ := rightE_zero.1 he
    have hFl := hR.len
    have hnl : (nms l).length = l.length := by simp [nms]
    rw [he, okL_eq rfl]
    simp only [List.cons_append, List.nil_append]
    refine st_v (v_move rfl) (st_v (v_extract rfl rfl) (st_v (v_extract rfl rfl) (st_alc al75 fun b4 => ?_)))
    refine st_stoW rfl rfl sz75 rfl rfl ?_
    refine st_v (v_assign rfl) (st_nil (nx_kp [0, 2, 3, 4, 5] rfl (nx_then (cd_seq (cd_seq (cd_region (st_v (v_move rfl) (st_v (v_neq rfl rfl) (st_nil (nx_kp [0, 2, 3, 4, 5, 18] rfl (nx_then (cd_false rfl ?_))))))))))))
    refine cd_skip (xt_then (cd_seq (cd_region (st_alc al57 fun b6 => ?_))))
    refine st_nil (nx_kp [0, 2, 3, 4, 6] rfl (nx_then (cd_seq (cd_seq (cd_region (st_v (v_move rfl) (st_v (v_len rfl Tryz.underlying22) (st_v (v_move rfl) (st_nil (nx_kp [2, 3, 4, 6, 20, 21, 22] rfl (nx_then (cd_block (cd_vw (vw_nil 68 2) (cd_marks0 (cd_loopD (σ := (Nat × Value) × List Nat) (fun q => q.2.map mk) (fun q => [(4, .pointer (some ⟨b4, 0, none⟩)), (6, .pointer (some ⟨b6, 0, none⟩)), (20, .slice a l.length cap), (21, .int .i64 l.length), (22, .int .i64 (q.1.1 : Nat))]) (fun q => Res.star (marks q.2) :: pt b6 (cl [q.1.2] 57) :: KR q.1.2 (preN l q.1.1) :: pt b4 (cl [.slice a l.length cap, .map (some mb)] 75) :: mps mb (kindsM l) :: S :: hr) (fun q => q.1.1 ≤ l.length ∧ q.1.2.oneCell' = true) (fun q => l.length - q.1.1) ((0, .slice none 0 0), []) ⟨Nat.zero_le _, rfl⟩ rfl ⟨rfl, rfl, rfl, rfl, rfl, trivial⟩ (by (repeat (refine Sub.sel (by repeat (first | exact Sel.here | apply Sel.there)) ?_)); (repeat apply Sub.cons); first | exact Sub.refl _ | exact Sub.nil _) ?_)))))))))))))))
    rintro ⟨⟨i, w⟩, bs⟩ ⟨hi, hw⟩
    simp only at hi hw
    dsimp only
    refine cd_seq (cd_region (st_v (v_lss rfl rfl) (st_nil (nx_then (cd_seq (cd_cond rfl (fun hd => ?_) (fun hd => ?_)))))))
    · skip
      have hlt : i < l.length := by simpa using hd
      obtain ⟨b, o, cap2, d, f, pa, pc, c2, fa, fc, j2, hv2, hrd, hP, hone⟩ := sys_at hv (List.getElem?_eq_getElem hlt)
      have hsucc := preN_succ hlt
      have hpl := preN_len hR i
      generalize hcn : (l[i]).name = cn at *
      have hpf := hR.par_few cn
      refine cd_skip (xt_then (cd_seq (cd_block (cd_seq (cd_region (st_v (v_indexAddr (k := i) (congrArg some hv2) rfl sl22 rfl hlt rfl) (st_v (v_ldn rfl ld29 rfl hrd) ?_)))))))
      refine st_alc al29 fun b8 => ?_
      refine st_stoW rfl rfl sz29 rfl hone ?_
      refine st_nil (nx_kp [4, 6, 8, 20, 21, 22] rfl (nx_then (cd_scope (cd_seq (cd_label (xt_then (cd_seq (cd_region (st_v (v_ldn rfl ld75 rfl rds_pt) ?_)))))))))
      refine st_v (v_fieldAddr rfl fa29_0 rfl) (st_v (v_ldy rfl ld9) ?_)
      refine st_cl rfl rfl en37 rfl (parents0_ct rfl) ?_
      rintro u h' ⟨n1, n2, rfl, rfl⟩
      refine st_nil (nx_kp [4, 6, 8, 20, 21, 22, 29] rfl (nx_then (cd_block ?_)))
      simp only [List.cons_append, List.nil_append]
      unfold seqv
      generalize hout : preN l i = out at *
      refine cd_range' rfl en71 fun yl db rec hst hpe hps hasg hbo hkn2 => ?_
      refine ⟨_, Ct.perm (it_ct (σ := Value × List (Nm × Nm)) (b1 := n1) (b2 := n2) (mb := mb) (yl := yl) (c := cn) (fun q => pt yl (.loop rec) :: pt db (.deferred (some [])) :: pt b8 (cl [sv cn, d, f, .slice pa l[i].parents.length pc, c2, .slice fa l[i].feats fc, j2] 29) :: Res.star (marks bs) :: pt b6 (cl [q.1] 57) :: KR q.1 q.2 :: pt b4 (cl [.slice a l.length cap, .map (some mb)] 75) :: hr)
        (fun k q => q.1.oneCell' = true ∧ q.2 = out ++ (((par l cn).take k).filter (spare l cn)).map fun p => (cn, p)) (fun _ _ => False) (w, out) ⟨hw, by simp⟩ hv hR.fine.few ?_) ?_, ?_⟩
      · rintro k ⟨w2, o2⟩ p hk ⟨hw2, ho2⟩
        simp only at hw2 ho2
        obtain ⟨hkl, hke⟩ := List.getElem?_eq_some_iff.1 hk
        have hpm := List.mem_of_getElem? hk
        have hol : o2.length ≤ 4 * i + 4 := by
          rw [ho2, List.length_append, List.length_map]
          have := List.length_filter_le (spare l cn) ((par l cn).take k)
          rw [List.length_take] at this
          omega
        refine Yc.perm (yc_of (n := 58) (rec := rec) (args := [sv p]) (hf := pt db (.deferred (some [])) :: pt b8 (cl [sv cn, d, f, .slice pa l[i].parents.length pc, c2, .slice fa l[i].feats fc, j2] 29) :: Res.star (marks bs) :: pt b6 (cl [w2] 57) :: KR w2 o2 :: pt b4 (cl [.slice a l.length cap, .map (some mb)] 75) :: S :: mps mb (kindsM l) :: hr) (by rw [hps]; rfl) hkn2 (by rw [hps]; decide) ?_) (by exact (by repeat (first | exact Pm.refl | refine Pm.cons (by repeat (first | exact Sel.here | apply Sel.there)) ?_) : Pm _ _).perm)
        intro hr2 w1
        rw [hasg, hps, hbo]
        simp only [List.cons_append, List.nil_append]
        refine cd_region (st_alc al9 fun b9 => ?_)
        refine st_sto rfl rfl sz9 ?_
        refine st_nil (nx_kp [4, 6, 8, 9] rfl (nx_xt (xt_mid rfl (by repeat (first | exact Sel.here | apply Sel.there)) (by first | rfl | assumption) ?_)))
        refine cd_block (cd_seq (cd_region (st_v (v_ldn rfl ld75 rfl rds_pt) ?_)))
        refine st_v (v_fieldAddr rfl fa29_0 rfl) (st_v (v_ldy rfl ld9) ?_)
        refine st_cl rfl rfl en37 rfl (parents0_ct rfl) ?_
        rintro u h' ⟨n3, n4, rfl, rfl⟩
        simp only [List.cons_append, List.nil_append]
        refine st_nil (nx_kp [4, 6, 8, 9, 34] rfl (nx_then (cd_block ?_)))
        unfold seqv
        refine cd_rangeN rfl en71 (by repeat (first | exact Sel.here | apply Sel.there)) fun yl2 rec2 hst2 hpe2 hps2 hasg2 hbo2 hkn3 => ?_
        refine ⟨_, Ct.perm (it_ct (σ := Unit) (b1 := n3) (b2 := n4) (mb := mb) (yl := yl2) (c := cn) (fun _ => pt yl2 (.loop rec2) :: pt b9 (cl [sv p] 9) :: pt yl (.loop { rec with state := .busy }) :: pt db (.deferred (some [])) :: pt b8 (cl [sv cn, d, f, .slice pa l[i].parents.length pc, c2, .slice fa l[i].feats fc, j2] 29) :: Res.star (marks bs) :: pt b6 (cl [w2] 57) :: KR w2 o2 :: pt b4 (cl [.slice a l.length cap, .map (some mb)] 75) :: (hr ++ hr2))
          (fun j _ => ∀ q ∈ (par l cn).take j, (q != p && has l q p) = false) (fun _ t => spare l cn p = true ∧ ∃ rec' w3, t = pt yl2 (.loop rec') :: pt b9 (cl [sv p] 9) :: pt yl (.loop { rec with state := .busy }) :: pt db (.deferred (some [])) :: pt b8 (cl [sv cn, d, f, .slice pa l[i].parents.length pc, c2, .slice fa l[i].feats fc, j2] 29) :: Res.star (marks bs) :: pt b6 (cl [w3] 57) :: KR w3 (o2 ++ [(cn, p)]) :: pt b4 (cl [.slice a l.length cap, .map (some mb)] 75) :: (hr ++ hr2) ∧ rec'.state ≠ .busy ∧ rec'.pending = some (.exit 3) ∧ w3.oneCell' = true) () (fun q hq => by simp at hq) hv hR.fine.few ?_) ?_, ?_⟩
        · rintro j _ q hj hal
          obtain ⟨hjl, hje⟩ := List.getElem?_eq_some_iff.1 hj
          have hqm := List.mem_of_getElem? hj
          refine Yc.perm (yc_of (n := 58) (rec := rec2) (args := [sv q]) (hf := pt b9 (cl [sv p] 9) :: pt yl (.loop { rec with state := .busy }) :: pt db (.deferred (some [])) :: pt b8 (cl [sv cn, d, f, .slice pa l[i].parents.length pc, c2, .slice fa l[i].feats fc, j2] 29) :: Res.star (marks bs) :: pt b6 (cl [w2] 57) :: KR w2 o2 :: pt b4 (cl [.slice a l.length cap, .map (some mb)] 75) :: S :: mps mb (kindsM l) :: (hr ++ hr2)) (by rw [hps2]; rfl) hkn3 (by rw [hps2]; decide) ?_) (by exact (by repeat (first | exact Pm.refl | refine Pm.cons (by repeat (first | exact Sel.here | apply Sel.there)) ?_) : Pm _ _).perm)
          intro hr3 w4
          rw [hasg2, hps2, hbo2]
          simp only [List.cons_append, List.nil_append]
          refine cd_region (st_v (v_assign rfl) (st_nil (nx_kp [4, 6, 8, 9, 10] rfl (nx_xt (xt_mid rfl (by repeat (first | exact Sel.here | apply Sel.there)) (by first | rfl | assumption) ?_)))))
          refine cd_block (cd_seq (cd_region (st_v (v_fieldAddr rfl fa29_0 rfl) (st_v (v_ldy rfl ld9) ?_))))
          refine st_v (v_ldy rfl ld9) ?_
          refine st_v (v_build (cells := [sv cn, sv p]) rfl (fun _ => by kernel_rfl)) ?_
          refine st_alc al68 fun b11 => ?_
          refine st_stoW rfl rfl sz68 rfl rfl ?_
          refine st_nil (nx_kp [4, 6, 8, 9, 10, 11] rfl (nx_then (cd_seq (cd_region (st_v (v_ldn rfl ld68 rfl rds_pt) ?_)))))
          refine st_v (v_fieldAddr rfl fa29_0 rfl) (st_v (v_ldy rfl ld9) ?_)
          refine st_v (v_move rfl) (st_v (v_build (cells := [sv cn, sv q]) rfl (fun _ => by kernel_rfl)) ?_)
          refine st_v (v_neq_two eqs68 rfl rfl) (st_v (v_move rfl) (st_cut (k := 12) (d := 51) (v := .bool ((!([cn, p] == [cn, q])) && has l q p)) (fun hcut => bool_want (b := (!([cn, p] == [cn, q]))) true (fun hg => ?_) (fun hg => ?_)) ?_))
          · refine st_sk rfl rfl hg ?_
            refine st_sk rfl rfl hg ?_
            refine st_sk rfl rfl hg ?_
            refine st_sk rfl rfl hg ?_
            refine st_v (v_pick_false (bool_ev rfl hg) rfl) ?_
            exact hcut _ (ssub_head (by first | rfl | (rw [hg]; rfl) | simp_all) (ssub_skip rfl (ssub_skip rfl (ssub_skip rfl (ssub_skip rfl (ssub_refl))))))
          · skip
            refine st_vg rfl (bool_get rfl hg) (v_ldn rfl ld75 rfl rds_pt) ?_
            refine st_vg rfl (bool_get rfl hg) (v_move rfl) (st_vg rfl (bool_get rfl hg) (v_ldy rfl ld9) ?_)
            refine st_clrg rfl (bool_get rfl hg) rfl rfl en55 rfl (hasR hv hR (par_isC hqm) p) ?_
            refine st_v (v_pick_true (bool_ev rfl hg) rfl) ?_
            exact hcut _ (ssub_head (by first | rfl | (rw [hg]; rfl) | simp_all) (ssub_skip rfl (ssub_skip rfl (ssub_skip rfl (ssub_skip rfl (ssub_refl))))))
          refine st_nil (nx_kp [6, 11, 51] rfl (nx_then ?_))
          rw [link_ne]
          refine cd_cond rfl (fun hq => ?_) (fun hq => ?_)
          · skip
            have hsp : spare l cn p = true := List.any_eq_true.2 ⟨q, hqm, hq⟩
            refine cd_seq (cd_region (st_v (v_ldy rfl ld57) ?_))
            refine st_v (v_ldn rfl ld68 rfl rds_pt) ?_
            refine st_buildSlice (cells := [sv cn, sv p]) rfl Tryz.underlying57 inf68 rfl rfl (by kernel_rfl) (ltn rfl) fun b54 => ?_
            refine st_app [lkC (cn, p)] rfl rfl Tryz.underlying57 inf68 rfl (by decide) (show Sel _ (KR w2 o2) _ from (by repeat (first | exact Sel.here | apply Sel.there))) (by simp [lkC]) rfl (fun j u2 hu2 => at_here (rd_cl (by simpa [lkC] using hu2))) (by simp [lkC, Value.oneCell']) (by rw [List.length_map]; omega) (by rw [List.length_map]; omega) (ltn rfl) fun w3 hw3 _ => ?_
            rw [show o2.map lkC ++ [lkC (cn, p)] = (o2 ++ [(cn, p)]).map lkC by simp]
            refine st_sto rfl rfl sz57 ?_
            refine st_nil (nx_kp [] rfl (nx_then (cd_exit (xt_exit_block_ne (by decide) ?_))))
            refine xt_round_exit (by repeat (first | exact Sel.here | apply Sel.there)) (.inr ⟨rfl, _, rfl, hsp, { ({ rec2 with state := .busy } : Loop) with state := .done, pending := some (.exit 3) }, w3, rfl, by simp, rfl, hw3⟩) ?_
            exact (by repeat (first | exact Sub.refl _ | exact Sub.nil _ | refine Sub.sel (by repeat (first | exact Sel.here | apply Sel.there)) ?_ | apply Sub.cons))
          · skip
            refine cd_skip (xt_normal_block (xt_round (by repeat (first | exact Sel.here | apply Sel.there)) (.inl ⟨rfl, (), fun z hz => ?_, rfl⟩) ?_))
            · rw [List.take_succ_eq_append_getElem hjl, hje] at hz
              rcases List.mem_append.1 hz with hz | hz
              · exact hal z hz
              · simp at hz; rw [hz]; exact hq
            · rw [rec_back hst2 hpe2]
              exact (by repeat (first | exact Sub.refl _ | exact Sub.nil _ | refine Sub.sel (by repeat (first | exact Sel.here | apply Sel.there)) ?_ | apply Sub.cons))
        · exact (by repeat (first | exact Pm.refl | refine Pm.cons (by repeat (first | exact Sel.here | apply Sel.there)) ?_) : Pm _ _).perm
        · rintro u h' ⟨rfl, (⟨_, hal, rfl⟩ | ⟨_, _, ⟨hsp, rec', w3, rfl, h2, h3, hw3⟩, rfl⟩)⟩
          · rw [List.take_length] at hal
            have hsp : spare l cn p = false := List.any_eq_false.2 fun q hq => by rw [hal q hq]; decide
            refine ⟨rec2, _, (by repeat (first | exact Sel.here | apply Sel.there)), (by rw [hst2]; simp), ?_⟩
            rw [hpe2]
            dsimp only
            refine xt_normal_block (xt_normal_block (xt_round (by repeat (first | exact Sel.here | apply Sel.there)) (.inl ⟨rfl, (w2, o2), ⟨hw2, ?_⟩, rfl⟩) ?_))
            · show o2 = _
              rw [flt_no hkl (by rw [hke]; exact hsp)]; exact ho2
            · rw [rec_back hst hpe]
              exact (by repeat (first | exact Sub.refl _ | exact Sub.nil _ | refine Sub.sel (by repeat (first | exact Sel.here | apply Sel.there)) ?_ | apply Sub.cons))
          · refine ⟨rec', _, (by repeat (first | exact Sel.here | apply Sel.there)), h2, ?_⟩
            rw [h3]
            dsimp only
            refine cd_exit (xt_exit_block_ne (by decide) ?_)
            refine xt_exit_block (xt_round (by repeat (first | exact Sel.here | apply Sel.there)) (.inl ⟨rfl, (w3, o2 ++ [(cn, p)]), ⟨hw3, ?_⟩, rfl⟩) ?_)
            · show o2 ++ [(cn, p)] = _
              rw [flt_yes hkl (by rw [hke]; exact hsp), hke, ho2, List.map_append]; simp
            · rw [rec_back hst hpe]
              exact (by repeat (first | exact Sub.refl _ | exact Sub.nil _ | refine Sub.sel (by repeat (first | exact Sel.here | apply Sel.there)) ?_ | apply Sub.cons))
      · exact (by repeat (first | exact Pm.refl | refine Pm.cons (by repeat (first | exact Sel.here | apply Sel.there)) ?_) : Pm _ _).perm
      · rintro u h' ⟨rfl, (⟨⟨w2, o2⟩, ⟨hw2, ho2⟩, rfl⟩ | ⟨_, _, hfalse, _⟩)⟩
        · simp only at hw2 ho2
          rw [List.take_length, ← hsucc] at ho2
          subst ho2
          refine ⟨rec, _, (by repeat (first | exact Sel.here | apply Sel.there)), (by rw [hst]; simp), ?_⟩
          rw [hpe]
          dsimp only
          refine xt_normal_block (xt_normal_scope (xt_normal_block (xt_then (cd_region (st_v (v_add rfl rfl (by unfold I64 at *; omega)) (st_v (v_move rfl) (st_nil (nx_kp [4, 6, 20, 21, 22] rfl (nx_xt (xt_mark (by repeat (first | exact Sel.here | apply Sel.there)) (by repeat (first | exact Sel.here | apply Sel.there)) ?_))))))))))
          refine xt_againD ((i + 1, w2), db :: bs) ⟨hlt, hw2⟩ (by show l.length - (i + 1) < l.length - i; omega) rfl ⟨rfl, rfl, rfl, rfl, rfl, trivial⟩ (by (repeat (refine Sub.sel (by repeat (first | exact Sel.here | apply Sel.there)) ?_)); (repeat apply Sub.cons); first | exact Sub.refl _ | exact Sub.nil _)
        · exact hfalse.elim
    · skip
      have hil : i = l.length := by have : ¬ i < l.length := by simpa using hd
                                    omega
      subst hil
      rw [preN_all]
      refine cd_exit (xt_exit_then (xt_exit_then (xt_exit_block (xt_then (cd_seq (cd_region (st_v (v_ldy rfl ld57) ?_)))))))
      refine st_v (v_assign rfl) (st_v (v_assign rfl) (st_nil (nx_kp [2, 3] rfl (nx_then (cd_ret (xt_retS (bs := bs) rfl rfl ⟨_, rfl, w, rfl, hw, rfl⟩ (by (repeat (refine Sub.sel (by repeat (first | exact Sel.here | apply Sel.there)) ?_)); (repeat apply Sub.cons); first | exact Sub.refl _ | exact Sub.nil _)))))))
end
end Go.Hr
namespace Go.Hr
open Go Go.RowKit Go.Ck Go.Proofs Go.Proofs.YtjgiaohieadeiaaGreat Fx
attribute [local irreducible] Go.Ck.Sub St Cd Xt Nx DrL LsW
def lkX (us : List Value) (q : Nm × Nm) : Prop := us = lkC q
def klR (S : Res) (v : Value) (ks : List (Nm × Nm)) : Prop := Row S 2 lkX v ks
theorem klR.mono {S S' : Res} (hr : ∀ p u, Rd S p u → Rd S' p u) {v : Value} {ks : List (Nm × Nm)} (h : klR S v ks) : klR S' v ks := Row.mono h hr fun _ _ _ h => h
theorem kl_at {S : Res} {v : Value} {ks : List (Nm × Nm)} (h : klR S v ks) {i : Nat} {q : Nm × Nm} (hi : ks[i]? = some q) : ∃ b o cap, v = .slice (some ⟨b, o, none⟩) ks.length cap ∧ Rds S b (o + i * 2) [sv q.1, sv q.2] := by
  obtain ⟨b, o, cap, us, h1, _, h3, h4⟩ := Row.at h hi
  rw [h4] at h3
  exact ⟨b, o, cap, h1, h3⟩
theorem kl_own {v : Value} {ks : List (Nm × Nm)} (hok : ∃ f, (KR v ks).ok f) : klR (KR v ks) v ks :=
  row_vr hok (by simp) (fun _ _ h => h) fun i us x h1 h2 => by
    rw [List.getElem?_map, h2] at h1
    simp only [Option.map_some, Option.some.injEq] at h1
    exact h1.symm
theorem pair_beq {p q : Nm × Nm} : ([p.1, p.2] == [q.1, q.2]) = (p == q) := by
  rw [two_beq, Bool.eq_iff_iff]
  simp [Prod.ext_iff]
theorem same_of {α : Type} {xs ys : List α} (hl : xs.length = ys.length) (h : ∀ j, j < xs.length → xs[j]? = ys[j]?) : xs = ys := by
  apply List.ext_getElem?
  intro j
  rcases Nat.lt_or_ge j xs.length with hj | hj
  · exact h j hj
  · rw [List.getElem?_eq_none hj, List.getElem?_eq_none (by omega)]
section
variable {S S' : Res} {v v' : Value}
set_option maxRecDepth 100000 in
theorem SameLists_ct {xs ys : List (List Nm)} (hv : llR S v xs) (hv' : llR S' v' ys) (hl : xs.length ≤ 1099511627776) (hx : ∀ x ∈ xs, x.length ≤ 1099511627776) : Reads Tryz.prog 28 #[v, v'] [S, S'] (.bool (xs == ys)) := by
  obtain ⟨a, cap, rfl, _⟩ := id hv
  obtain ⟨a', cap', rfl, _⟩ := id hv'
  refine ct_of (n := 29) Tryz.func28 rfl rfl (len rfl) fun hr w0 => ?_
  refine cd_seq (cd_region (st_v (v_assign rfl) (st_nil (nx_then (cd_seq (cd_seq (cd_region (st_v (v_move rfl) (st_v (v_len rfl Tryz.underlying54) (st_v (v_move rfl) (st_v (v_len rfl Tryz.underlying54) (st_v (v_neq rfl rfl) (st_nil (nx_kp [0, 1, 4, 11] rfl (nx_then (cd_cond rfl (fun hn => ?_) (fun hn => ?_)))))))))))))))))
  · skip
    have hn : xs.length ≠ ys.length := by
      intro e
      rw [e] at hn; simp at hn
    refine cd_seq (cd_region (st_v (v_assign rfl) (st_nil (nx_kp [4] rfl (nx_then (cd_ret (xt_ret_then ?_)))))))
    rw [show (xs == ys) = false by
      rw [beq_eq_false_iff_ne]
      exact fun e => hn (by rw [e])]
    exact xt_rt rfl ⟨rfl, rfl⟩ (by (repeat (refine Sub.sel (by repeat (first | exact Sel.here | apply Sel.there)) ?_)); (repeat apply Sub.cons); first | exact Sub.refl _ | exact Sub.nil _)
  · skip
    have hn : xs.length = ys.length := by
      have : (xs.length : Int) = ys.length := by simpa using hn
      omega
    refine cd_skip (xt_then (cd_seq (cd_seq (cd_region (st_v (v_assign rfl) (st_nil (nx_kp [0, 1, 4, 5] rfl (nx_then (cd_block (cd_lq (σ := Nat) (fun i => [(0, .slice a xs.length cap), (1, .slice a' ys.length cap'), (5, .int .i64 (i : Nat))]) (fun _ => S :: S' :: hr) (fun i => i ≤ xs.length ∧ ∀ (j : Nat), j < i → xs[j]? = ys[j]?) (fun i => xs.length - i) 0 ⟨Nat.zero_le _, fun j hj => by omega⟩ ?_))))))))))
    rintro i ⟨hi, hne⟩
    refine cd_seq (cd_seq (cd_region (st_v (v_move rfl) (st_v (v_move rfl) (st_v (v_len rfl Tryz.underlying54) (st_v (v_lss rfl rfl) (st_nil (nx_kp [0, 1, 5, 15] rfl (nx_then (cd_cond rfl (fun hd => ?_) (fun hd => ?_)))))))))))
    · skip
      have hlt : i < xs.length := by simpa using hd
      have hlt' : i < ys.length := by omega
      obtain ⟨b, o, cap2, u, hv2, hrd, hu⟩ := ll_at hv (List.getElem?_eq_getElem hlt)
      obtain ⟨b', o', cap2', u', hv2', hrd', hu'⟩ := ll_at hv' (List.getElem?_eq_getElem hlt')
      refine cd_skip (xt_then (cd_seq (cd_block (cd_seq (cd_drawh (ork [(0, 2), (1, 2), (2, 2), (3, 1), (4, 2), (5, 2), (6, 2), (7, 1), (8, 1), (9, 2)] .nil) (fun _ => true) mixed (by kernel_rfl) ?_)))))
      refine dp_v rfl (v_move rfl) (dp_v rfl (v_move rfl) (dp_v rfl (v_indexAddr (k := i) (congrArg some hv2) rfl sl54 rfl hlt rfl) (dr_v rfl (v_ldy rfl ld25) ?_)))
      refine dp_v rfl (v_move rfl) (dp_v rfl (v_move rfl) (dp_v rfl (v_indexAddr (k := i) (congrArg some hv2') rfl sl54 rfl hlt' rfl) (dr_v rfl (v_ldy rfl ld25) ?_)))
      refine dr_clr rfl rfl rfl en27 rfl (SameNames_ct hu hu' (hx _ (List.getElem_mem hlt))) ?_
      refine dp_v rfl (v_assign rfl) (dr_nil (nx_kp [0, 1, 5, 6] rfl (nx_then (cd_seq (cd_region (st_v (v_move rfl) (st_v (v_not rfl) (st_nil (nx_kp [0, 1, 5, 28] rfl (nx_then (cd_cond rfl (fun he => ?_) (fun he => ?_))))))))))))
      · skip
        have he : xs[i] ≠ ys[i] := fun e => by rw [e] at he; simp at he
        refine cd_seq (cd_region (st_v (v_assign rfl) (st_nil (nx_kp [4] rfl (nx_then (cd_ret (xt_ret_block (xt_ret_then (xt_ret_then (xt_ret_block (xt_ret_then ?_)))))))))))
        rw [show (xs == ys) = false by
          rw [beq_eq_false_iff_ne]
          exact fun e => he (by subst e; rfl)]
        exact xt_rt rfl ⟨rfl, rfl⟩ (by (repeat (refine Sub.sel (by repeat (first | exact Sel.here | apply Sel.there)) ?_)); (repeat apply Sub.cons); first | exact Sub.refl _ | exact Sub.nil _)
      · skip
        have he : xs[i] = ys[i] := by simpa using he
        refine cd_skip (xt_normal_block (xt_then (cd_region (st_v (v_move rfl) (st_v (v_add rfl rfl (by unfold I64 at *; omega)) (st_v (v_assign rfl) (st_nil (nx_kp [0, 1, 5] rfl (nx_xt (xt_aq (i + 1) ⟨hlt, fun j hj => ?_⟩ (by show _ - _ < _ - _; omega)))))))))))
        by_cases hji : j = i
        · subst hji; rw [List.getElem?_eq_getElem hlt, List.getElem?_eq_getElem hlt', he]
        · exact hne j (by omega)
    · skip
      refine cd_exit (xt_exit_then (xt_exit_then (xt_exit_block (xt_then (cd_seq (cd_region (st_v (v_assign rfl) (st_nil (nx_kp [4] rfl (nx_then (cd_ret ?_)))))))))))
      have hil : i = xs.length := by have : ¬ i < xs.length := by simpa using hd
                                     omega
      rw [show (xs == ys) = true by
        rw [beq_iff_eq]
        exact same_of hn fun j hj => hne j (by omega)]
      exact xt_rt rfl ⟨rfl, rfl⟩ (by (repeat (refine Sub.sel (by repeat (first | exact Sel.here | apply Sel.there)) ?_)); (repeat apply Sub.cons); first | exact Sub.refl _ | exact Sub.nil _)
set_option maxRecDepth 100000 in
theorem SameLinks_ct {xs ys : List (Nm × Nm)} (hv : klR S v xs) (hv' : klR S' v' ys) (hl : xs.length ≤ 1099511627776) : Reads Tryz.prog 29 #[v, v'] [S, S'] (.bool (xs == ys)) := by
  obtain ⟨a, cap, rfl, _⟩ := id hv
  obtain ⟨a', cap', rfl, _⟩ := id hv'
  refine ct_of (n := 26) Tryz.func29 rfl rfl (len rfl) fun hr w0 => ?_
  refine cd_seq (cd_region (st_v (v_assign rfl) (st_nil (nx_then (cd_seq (cd_seq (cd_region (st_v (v_move rfl) (st_v (v_len rfl Tryz.underlying57) (st_v (v_move rfl) (st_v (v_len rfl Tryz.underlying57) (st_v (v_neq rfl rfl) (st_nil (nx_kp [0, 1, 4, 10] rfl (nx_then (cd_cond rfl (fun hn => ?_) (fun hn => ?_)))))))))))))))))
  · skip
    have hn : xs.length ≠ ys.length := by
      intro e
      rw [e] at hn; simp at hn
    refine cd_seq (cd_region (st_v (v_assign rfl) (st_nil (nx_kp [4] rfl (nx_then (cd_ret (xt_ret_then ?_)))))))
    rw [show (xs == ys) = false by
      rw [beq_eq_false_iff_ne]
      exact fun e => hn (by rw [e])]
    exact xt_rt rfl ⟨rfl, rfl⟩ (by (repeat (refine Sub.sel (by repeat (first | exact Sel.here | apply Sel.there)) ?_)); (repeat apply Sub.cons); first | exact Sub.refl _ | exact Sub.nil _)
  · skip
    have hn : xs.length = ys.length := by
      have : (xs.length : Int) = ys.length := by simpa using hn
      omega
    refine cd_skip (xt_then (cd_seq (cd_seq (cd_region (st_v (v_assign rfl) (st_nil (nx_kp [0, 1, 4, 5] rfl (nx_then (cd_block (cd_lq (σ := Nat) (fun i => [(0, .slice a xs.length cap), (1, .slice a' ys.length cap'), (5, .int .i64 (i : Nat))]) (fun _ => S :: S' :: hr) (fun i => i ≤ xs.length ∧ ∀ (j : Nat), j < i → xs[j]? = ys[j]?) (fun i => xs.length - i) 0 ⟨Nat.zero_le _, fun j hj => by omega⟩ ?_))))))))))
    rintro i ⟨hi, hne⟩
    refine cd_seq (cd_seq (cd_region (st_v (v_move rfl) (st_v (v_move rfl) (st_v (v_len rfl Tryz.underlying57) (st_v (v_lss rfl rfl) (st_nil (nx_kp [0, 1, 5, 14] rfl (nx_then (cd_cond rfl (fun hd => ?_) (fun hd => ?_)))))))))))
    · skip
      have hlt : i < xs.length := by simpa using hd
      have hlt' : i < ys.length := by omega
      obtain ⟨b, o, cap2, hv2, hrd⟩ := kl_at hv (List.getElem?_eq_getElem hlt)
      obtain ⟨b', o', cap2', hv2', hrd'⟩ := kl_at hv' (List.getElem?_eq_getElem hlt')
      refine cd_skip (xt_then (cd_seq (cd_block (cd_seq (cd_drawh (ork [(0, 2), (1, 2), (2, 2), (3, 1), (4, 2), (5, 2), (6, 2), (7, 1), (8, 1)] .nil) (fun _ => true) mixed (by kernel_rfl) ?_)))))
      refine dp_v rfl (v_move rfl) (dp_v rfl (v_move rfl) (dp_v rfl (v_indexAddr (k := i) (congrArg some hv2) rfl sl57 rfl hlt rfl) (dr_v rfl (v_ldn rfl ld68 rfl hrd) ?_)))
      refine dp_v rfl (v_move rfl) (dp_v rfl (v_move rfl) (dp_v rfl (v_indexAddr (k := i) (congrArg some hv2') rfl sl57 rfl hlt' rfl) (dr_v rfl (v_ldn rfl ld68 rfl hrd') ?_)))
      refine dr_v rfl (v_neq_two eqs68 rfl rfl) (dr_nil (nx_kp [0, 1, 5, 25] rfl (nx_then ?_)))
      rw [pair_beq]
      refine cd_cond rfl (fun he => ?_) (fun he => ?_)
      · skip
        have he : xs[i] ≠ ys[i] := fun e => by rw [e] at he; simp at he
        refine cd_seq (cd_region (st_v (v_assign rfl) (st_nil (nx_kp [4] rfl (nx_then (cd_ret (xt_ret_block (xt_ret_then (xt_ret_then (xt_ret_block (xt_ret_then ?_)))))))))))
        rw [show (xs == ys) = false by
          rw [beq_eq_false_iff_ne]
          exact fun e => he (by subst e; rfl)]
        exact xt_rt rfl ⟨rfl, rfl⟩ (by (repeat (refine Sub.sel (by repeat (first | exact Sel.here | apply Sel.there)) ?_)); (repeat apply Sub.cons); first | exact Sub.refl _ | exact Sub.nil _)
      · skip
        have he : xs[i] = ys[i] := by
          rw [Bool.not_eq_false'] at he
          exact beq_iff_eq.1 he
        refine cd_skip (xt_normal_block (xt_then (cd_region (st_v (v_move rfl) (st_v (v_add rfl rfl (by unfold I64 at *; omega)) (st_v (v_assign rfl) (st_nil (nx_kp [0, 1, 5] rfl (nx_xt (xt_aq (i + 1) ⟨hlt, fun j hj => ?_⟩ (by show _ - _ < _ - _; omega)))))))))))
        by_cases hji : j = i
        · subst hji; rw [List.getElem?_eq_getElem hlt, List.getElem?_eq_getElem hlt', he]
        · exact hne j (by omega)
    · skip
      refine cd_exit (xt_exit_then (xt_exit_then (xt_exit_block (xt_then (cd_seq (cd_region (st_v (v_assign rfl) (st_nil (nx_kp [4] rfl (nx_then (cd_ret ?_)))))))))))
      have hil : i = xs.length := by have : ¬ i < xs.length := by simpa using hd
                                     omega
      rw [show (xs == ys) = true by
        rw [beq_iff_eq]
        exact same_of hn fun j hj => hne j (by omega)]
      exact xt_rt rfl ⟨rfl, rfl⟩ (by (repeat (refine Sub.sel (by repeat (first | exact Sel.here | apply Sel.there)) ?_)); (repeat apply Sub.cons); first | exact Sub.refl _ | exact Sub.nil _)
end
end Go.Hr
namespace Go.Hr
open Go Go.RowKit Go.Ck Go.Proofs Go.Proofs.YtjgiaohieadeiaaGreat Fx
attribute [local irreducible] Go.Ck.Sub St Cd Xt Nx DrL LsW
/-- Parents that are owned, by their names alone. -/
def prC (p : Nm) : List Value := [sv p, .slice none 0 0, .slice none 0 0, .slice none 0 0, .slice none 0 0, .slice none 0 0]
def PaR (v : Value) (ps : List Nm) : Res := VR v 93 6 (ps.map prC)
def czC (n : Nm) (pv : Value) : List Value := [sv n, .bool false, .slice none 0 0, pv, .slice none 0 0, .slice none 0 0, .slice none 0 0]
theorem czC_one {n : Nm} {pv : Value} (h : pv.oneCell' = true) : (czC n pv).all Value.oneCell' = true := by
  unfold czC
  simp only [List.all_cons, List.all_nil, h]
  rfl
section
variable {S S' N : Res} {v v' nv : Value}
set_option maxRecDepth 100000 in
theorem class_ct {ps : List Nm} (n : Nm) (hn : nmsR N nv ps) (hl : ps.length ≤ 1000) : CtN Tryz.prog 25 #[sv n, nv] [N] fun u T => ∃ pv, u = .agg (czC n pv).toArray ∧ pv.oneCell' = true ∧ T = PaR pv ps := by
  obtain ⟨na, ncap, rfl, _⟩ := id hn
  refine ct_of (n := 26) Tryz.func25 rfl rfl (len rfl) fun hr w0 => ?_
  refine cd_seq (cd_region (st_alc al29 fun b4 => ?_))
  refine st_nil (nx_then (cd_seq (cd_region (st_v (v_move rfl) (st_v (v_build (cells := czC n (.slice none 0 0)) rfl (fun _ => by kernel_rfl)) ?_)))))
  unfold czC
  refine st_alc al29 fun b5 => ?_
  refine st_stoW rfl rfl sz29 rfl rfl ?_
  refine st_nil (nx_kp [1, 4, 5] rfl (nx_then (cd_seq (cd_seq (cd_region (st_v (v_assign rfl) (st_nil (nx_then (cd_block (cd_vw (vw_nil 93 6) (cd_lq (σ := Nat × Value) (fun q => [(1, .slice na ps.length ncap), (4, .pointer (some ⟨b4, 0, none⟩)), (5, .pointer (some ⟨b5, 0, none⟩)), (6, .int .i64 (q.1 : Nat))]) (fun q => PaR q.2 (ps.take q.1) :: pt b5 (cl [sv n, .bool false, .slice none 0 0, q.2, .slice none 0 0, .slice none 0 0, .slice none 0 0] 29) :: pt b4 (cl [.string ⟨#[]⟩, .bool false, .slice none 0 0, .slice none 0 0, .slice none 0 0, .slice none 0 0, .slice none 0 0] 29) :: N :: hr) (fun q => q.1 ≤ ps.length ∧ q.2.oneCell' = true) (fun q => ps.length - q.1) (0, .slice none 0 0) ⟨Nat.zero_le _, rfl⟩ ?_)))))))))))
  rintro ⟨i, w⟩ ⟨hi, hw⟩
  simp only at hi hw
  dsimp only
  refine cd_seq (cd_seq (cd_region (st_v (v_move rfl) (st_v (v_move rfl) (st_v (v_len rfl Tryz.underlying25) (st_v (v_lss rfl rfl) (st_nil (nx_kp [1, 4, 5, 6, 12] rfl (nx_then (cd_cond rfl (fun hd => ?_) (fun hd => ?_)))))))))))
  · skip
    have hlt : i < ps.length := by simpa using hd
    obtain ⟨b, o, cap2, hv2, hrd⟩ := nms_at hn (List.getElem?_eq_getElem hlt)
    refine cd_skip (xt_then (cd_seq (cd_block (cd_drawh (ork [(0, 2), (1, 1), (2, 2), (3, 2), (4, 2), (5, 1), (6, 2), (7, 0), (8, 0), (9, 2), (10, 0)] .nil) (fun i => !(Nat.beq i 8 || Nat.beq i 10)) mixed (by kernel_rfl) ?_))))
    refine dp_v rfl (v_fieldAddr rfl fa29_3 rfl) (dr_v rfl (v_ldy rfl ld24) ?_)
    refine dp_v rfl (v_move rfl) (dp_v rfl (v_move rfl) (dp_v rfl (v_indexAddr (k := i) (congrArg some hv2) rfl sl25 rfl hlt rfl) (dr_v rfl (v_ldy rfl ld9) ?_)))
    refine dp_v rfl (v_build (cells := prC ps[i]) rfl (fun _ => by kernel_rfl)) ?_
    refine dr_eff rfl (st_buildSlice (cells := prC ps[i]) rfl Tryz.underlying24 inf93 rfl rfl (by kernel_rfl) (ltn rfl) fun b22 => dr_nx ?_)
    refine dr_eff rfl (st_app [prC ps[i]] rfl rfl Tryz.underlying24 inf93 rfl (by decide) (show Sel _ (PaR w (ps.take i)) _ from (by repeat (first | exact Sel.here | apply Sel.there))) (by simp [prC]) rfl (fun j u2 hu2 => at_here (rd_cl (by simpa using hu2))) (by simp [prC, Value.oneCell']) (by rw [List.length_map, List.length_take]; omega) (by rw [List.length_map, List.length_take]; omega) (ltn rfl) fun w3 hw3 _ => dr_nx ?_)
    rw [show (ps.take i).map prC ++ [prC ps[i]] = (ps.take (i + 1)).map prC by rw [List.take_succ_eq_append_getElem hlt, List.map_append]; rfl]
    refine dp_v rfl (v_fieldAddr rfl fa29_3 rfl) (dr_eff rfl (st_sto rfl rfl sz24 (dr_nx ?_)))
    refine dr_nil (nx_kp [1, 4, 5, 6] rfl (nx_xt (xt_normal_block (xt_then (cd_region (st_v (v_move rfl) (st_v (v_add rfl rfl (by unfold I64 at *; omega)) (st_v (v_assign rfl) (st_nil (nx_kp [1, 4, 5, 6] rfl (nx_xt ?_)))))))))))
    refine xt_aq (i + 1, w3) ⟨hlt, hw3⟩ (by show _ - _ < _ - _; omega)
  · skip
    have hil : i = ps.length := by have : ¬ i < ps.length := by simpa using hd
                                   omega
    subst hil
    rw [List.take_length]
    refine cd_exit (xt_exit_then (xt_exit_then (xt_exit_block (xt_then (cd_seq (cd_region (st_v (v_ldn rfl ld29 rfl rds_pt) ?_)))))))
    refine st_stoW rfl rfl sz29 rfl (czC_one hw) ?_
    refine st_nil (nx_kp [4] rfl (nx_then (cd_ret ?_)))
    exact xt_retV (.cellN rfl ld29 rfl (by repeat (first | exact Sel.here | apply Sel.there)) .nil) ⟨PaR w ps, rfl, w, rfl, hw, rfl⟩ (by repeat (first | exact Sub.refl _ | exact Sub.nil _ | refine Sub.sel (by repeat (first | exact Sel.here | apply Sel.there)) ?_ | apply Sub.cons))
/-- The chapter's five classes. -/
def nmA : Nm := [65]
def nmB : Nm := [66]
def nmK : Nm := [67]
def nmD : Nm := [68]
def nmE : Nm := [69]
def five : Sys := [⟨nmA, [], 0⟩, ⟨nmB, [nmA], 0⟩, ⟨nmK, [nmA], 0⟩, ⟨nmD, [nmB, nmK], 0⟩, ⟨nmE, [nmD, nmA], 0⟩]
def fiveC (p1 p2 p3 p4 p5 : Value) : List (List Value) := [czC nmA p1, czC nmB p2, czC nmK p3, czC nmD p4, czC nmE p5]
def FiveR (b : Nat) (p1 p2 p3 p4 p5 : Value) : Res := Res.star [VR (.slice (some ⟨b, 0, none⟩) 5 5) 29 7 (fiveC p1 p2 p3 p4 p5), PaR p1 [], PaR p2 [nmA], PaR p3 [nmA], PaR p4 [nmB, nmK], PaR p5 [nmD, nmA]]
set_option maxRecDepth 100000 in
theorem Five_ct : Ct Tryz.prog 16 #[] [] fun u h' => ∃ b p1 p2 p3 p4 p5, u = .slice (some ⟨b, 0, none⟩) 5 5 ∧ h' = [FiveR b p1 p2 p3 p4 p5] := by
  refine ct_of (n := 11) Tryz.func16 rfl rfl (len rfl) fun hr w0 => ?_
  refine cd_seq (cd_region (st_v (v_assign rfl) (st_nil (nx_then (cd_seq (cd_region (st_vw (vw_unstar (L := [])) (st_cl rfl rfl en25 rfl (class_ct (N := Res.star []) (ps := []) nmA Row.nil (by simp)) ?_))))))))
  rintro u h' ⟨T, rfl, p1, rfl, hp1, rfl⟩
  simp only [List.cons_append, List.nil_append]
  refine st_buildSlice (cells := [sv nmA]) rfl Tryz.underlying25 inf9 rfl rfl (by kernel_rfl) (ltn rfl) fun b2 => ?_
  refine st_pv (pv_of (b := b2) (n := 1) (sz := 1) (E := 9) [nC nmA] rfl (by simp [nC]) rfl (by decide)) ?_
  simp only [List.cons_append, List.nil_append]
  refine st_ok (r := NR (.slice (some ⟨b2, 0, none⟩) 1 1) [nmA]) (by repeat (first | exact Sel.here | apply Sel.there)) fun hok2 => ?_
  refine st_cl rfl rfl en25 rfl (class_ct nmB (nms_own hok2) (by simp)) ?_
  rintro u h' ⟨T, rfl, p2, rfl, hp2, rfl⟩
  simp only [List.cons_append, List.nil_append]
  refine st_buildSlice (cells := [sv nmA]) rfl Tryz.underlying25 inf9 rfl rfl (by kernel_rfl) (ltn rfl) fun b4 => ?_
  refine st_pv (pv_of (b := b4) (n := 1) (sz := 1) (E := 9) [nC nmA] rfl (by simp [nC]) rfl (by decide)) ?_
  simp only [List.cons_append, List.nil_append]
  refine st_ok (r := NR (.slice (some ⟨b4, 0, none⟩) 1 1) [nmA]) (by repeat (first | exact Sel.here | apply Sel.there)) fun hok3 => ?_
  refine st_cl rfl rfl en25 rfl (class_ct nmK (nms_own hok3) (by simp)) ?_
  rintro u h' ⟨T, rfl, p3, rfl, hp3, rfl⟩
  simp only [List.cons_append, List.nil_append]
  refine st_buildSlice (cells := [sv nmB, sv nmK]) rfl Tryz.underlying25 inf9 rfl rfl (by kernel_rfl) (ltn rfl) fun b6 => ?_
  refine st_pv (pv_of (b := b6) (n := 2) (sz := 1) (E := 9) [nC nmB, nC nmK] rfl (by simp [nC]) rfl (by decide)) ?_
  simp only [List.cons_append, List.nil_append]
  refine st_ok (r := NR (.slice (some ⟨b6, 0, none⟩) 2 2) [nmB, nmK]) (by repeat (first | exact Sel.here | apply Sel.there)) fun hok4 => ?_
  refine st_cl rfl rfl en25 rfl (class_ct nmD (nms_own hok4) (by simp)) ?_
  rintro u h' ⟨T, rfl, p4, rfl, hp4, rfl⟩
  simp only [List.cons_append, List.nil_append]
  refine st_buildSlice (cells := [sv nmD, sv nmA]) rfl Tryz.underlying25 inf9 rfl rfl (by kernel_rfl) (ltn rfl) fun b8 => ?_
  refine st_pv (pv_of (b := b8) (n := 2) (sz := 1) (E := 9) [nC nmD, nC nmA] rfl (by simp [nC]) rfl (by decide)) ?_
  simp only [List.cons_append, List.nil_append]
  refine st_ok (r := NR (.slice (some ⟨b8, 0, none⟩) 2 2) [nmD, nmA]) (by repeat (first | exact Sel.here | apply Sel.there)) fun hok5 => ?_
  refine st_cl rfl rfl en25 rfl (class_ct nmE (nms_own hok5) (by simp)) ?_
  rintro u h' ⟨T, rfl, p5, rfl, hp5, rfl⟩
  simp only [List.cons_append, List.nil_append]
  refine st_buildSlice (cells := czC nmA p1 ++ czC nmB p2 ++ czC nmK p3 ++ czC nmD p4 ++ czC nmE p5) rfl Tryz.underlying22 inf29 rfl rfl (by kernel_rfl) (ltn rfl) fun b10 => ?_
  refine st_pv (pv_of (b := b10) (n := 5) (sz := 7) (E := 29) (fiveC p1 p2 p3 p4 p5) rfl (by simp [fiveC, czC]) rfl (by decide)) ?_
  simp only [List.cons_append, List.nil_append]
  refine st_v (v_assign rfl) (st_nil (nx_kp [0] rfl (nx_then (cd_ret (xt_pv (pv_pack (L := [VR (.slice (some ⟨b10, 0, none⟩) 5 5) 29 7 (fiveC p1 p2 p3 p4 p5), PaR p1 [], PaR p2 [nmA], PaR p3 [nmA], PaR p4 [nmB, nmK], PaR p5 [nmD, nmA]])) ?_)))))
  exact xt_rt rfl ⟨b10, p1, p2, p3, p4, p5, rfl, rfl⟩ (by (repeat (refine Sub.sel (by repeat (first | exact Sel.here | apply Sel.there)) ?_)); (repeat apply Sub.cons); first | exact Sub.refl _ | exact Sub.nil _)
theorem pa_own {v : Value} {ps : List Nm} {f : Nat → Option Obj} (hok : (PaR v ps).ok f) : Row (PaR v ps) 6 parC v ps :=
  row_vr ⟨f, hok⟩ (by simp) (fun _ _ h => h) fun i us x h1 h2 => by
    rw [List.getElem?_map, h2] at h1
    simp only [Option.map_some, Option.some.injEq] at h1
    exact ⟨_, _, _, _, _, h1.symm, rfl⟩
theorem cz_own {S : Res} {n : Nm} {pv : Value} {ps : List Nm} {f : Nat → Option Obj} (hok : (PaR pv ps).ok f) (hS : ∀ p u, Rd (PaR pv ps) p u → Rd S p u) : clsC S (czC n pv) ⟨n, ps, 0⟩ :=
  ⟨.bool false, .slice none 0 0, pv, .slice none 0 0, none, 0, .slice none 0 0, rfl, czC_one (VR.one hok), (pa_own hok).mono hS fun _ _ _ h => h⟩
theorem five_sys {b : Nat} {p1 p2 p3 p4 p5 : Value} (hok : ∃ f, (FiveR b p1 p2 p3 p4 p5).ok f) : sysR (FiveR b p1 p2 p3 p4 p5) (.slice (some ⟨b, 0, none⟩) 5 5) five := by
  obtain ⟨f, h0, _, h1, _, h2, _, h3, _, h4, _, h5, _⟩ := hok
  refine row_vr ⟨f, h0⟩ rfl (fun p u hp => rd_in Sel.here p u hp) fun i us x g1 g2 => ?_
  match i, g1, g2 with
  | 0, g1, g2 => cases g1; cases g2; exact cz_own h1 (rd_in (.there .here))
  | 1, g1, g2 => cases g1; cases g2; exact cz_own h2 (rd_in (.there (.there .here)))
  | 2, g1, g2 => cases g1; cases g2; exact cz_own h3 (rd_in (.there (.there (.there .here))))
  | 3, g1, g2 => cases g1; cases g2; exact cz_own h4 (rd_in (.there (.there (.there (.there .here)))))
  | 4, g1, g2 => cases g1; cases g2; exact cz_own h5 (rd_in (.there (.there (.there (.there (.there .here))))))
end
end Go.Hr
namespace Go.Hr
open Go
def bad5 : Sys := ⟨nmA, [nmD], 0⟩ :: five.drop 1
theorem five_r1 : rightE five [nmE] = 0 := by decide +kernel
theorem five_r2 : rightE five [nmE, nmA] = 0 := by decide +kernel
theorem five_r0 : rightE five [] = 0 := by decide +kernel
theorem five_r3 : rightE five [nmB, nmK] = 0 := by decide +kernel
theorem five_r4 : rightE five [nmD, nmB] = 0 := by decide +kernel
theorem five_above : above five nmE = [nmA, nmB, nmK, nmD, nmE] := by decide +kernel
theorem five_ways : ways five nmE nmA = 3 := by decide +kernel
theorem five_wayE : wayE five nmE nmA = 0 := by decide +kernel
theorem five_way : shortR five nmA nmE = [nmE, nmA] := by decide +kernel
theorem five_order : order five = [nmA, nmB, nmK, nmD, nmE] := by decide +kernel
theorem five_levels : levels five = [[nmA], [nmB, nmK], [nmD], [nmE]] := by decide +kernel
theorem five_least : least five nmB nmK = [nmA] := by decide +kernel
theorem five_least2 : least five nmD nmB = [nmB] := by decide +kernel
theorem five_needless : needless five = [(nmE, nmA)] := by decide +kernel
theorem five_touchE : touchE five [nmK] = 0 := by decide +kernel
theorem five_touched : touched five [nmK] = [nmK, nmD, nmE] := by decide +kernel
theorem bad_check : check bad5 = (7, nmA) := by decide +kernel
theorem bad_ring : ring bad5 = some [nmA, nmD, nmB] := by decide +kernel
end Go.Hr
namespace Go.Hr
open Go Go.RowKit Go.Ck Go.Proofs Go.Proofs.YtjgiaohieadeiaaGreat Fx
attribute [local irreducible] Go.Ck.Sub St Cd Xt Nx DrL LsW
theorem bad_sys {b : Nat} {q p1 p2 p3 p4 p5 w : Value} {f : Nat → Option Obj} (h0 : (VR w 29 7 (czC nmA q :: (fiveC p1 p2 p3 p4 p5).drop 1)).ok f) (h1 : (PaR q [nmD]).ok f) (hF : (FiveR b p1 p2 p3 p4 p5).ok f) : sysR (Res.star [VR w 29 7 (czC nmA q :: (fiveC p1 p2 p3 p4 p5).drop 1), PaR q [nmD], FiveR b p1 p2 p3 p4 p5]) w bad5 := by
  obtain ⟨_, _, _, _, h2, _, h3, _, h4, _, h5, _⟩ := hF
  refine row_vr ⟨f, h0⟩ rfl (fun p u hp => rd_in Sel.here p u hp) fun i us x g1 g2 => ?_
  match i, g1, g2 with
  | 0, g1, g2 => cases g1; cases g2; exact cz_own h1 (rd_in (.there .here))
  | 1, g1, g2 => cases g1; cases g2; exact cz_own h2 fun p u hp => rd_in (.there (.there .here)) p u (rd_in (.there (.there .here)) p u hp)
  | 2, g1, g2 => cases g1; cases g2; exact cz_own h3 fun p u hp => rd_in (.there (.there .here)) p u (rd_in (.there (.there (.there .here))) p u hp)
  | 3, g1, g2 => cases g1; cases g2; exact cz_own h4 fun p u hp => rd_in (.there (.there .here)) p u (rd_in (.there (.there (.there (.there .here)))) p u hp)
  | 4, g1, g2 => cases g1; cases g2; exact cz_own h5 fun p u hp => rd_in (.there (.there .here)) p u (rd_in (.there (.there (.there (.there (.there .here))))) p u hp)
theorem five_rd {b j : Nat} {p1 p2 p3 p4 p5 u : Value} (hu : ((fiveC p1 p2 p3 p4 p5).drop 1).flatten[j]? = some u) : Rd (FiveR b p1 p2 p3 p4 p5) ⟨b, (if 5 = 1 then 0 else 0 + 1 * 7) + j, none⟩ u := by
  have h1 : (fiveC p1 p2 p3 p4 p5).flatten[7 + j]? = some u := by
    rw [show (fiveC p1 p2 p3 p4 p5).flatten = czC nmA p1 ++ ((fiveC p1 p2 p3 p4 p5).drop 1).flatten from rfl, List.getElem?_append_right (by simp [czC]), show 7 + j - (czC nmA p1).length = j by simp [czC]]
    exact hu
  have h2 := rd_vr_flat (b := b) (o := 0) (n := 5) (cp := 5) (E := 29) (sz := 7) h1
  rw [show (if 5 = 1 then 0 else 0 + 1 * 7) + j = 0 + (7 + j) by simp]
  exact rd_in Sel.here _ _ h2
theorem five_one {b : Nat} {p1 p2 p3 p4 p5 : Value} (hok : ∃ f, (FiveR b p1 p2 p3 p4 p5).ok f) : ∀ u ∈ ((fiveC p1 p2 p3 p4 p5).drop 1).flatten, u.oneCell' = true := by
  obtain ⟨f, _, _, _, _, h2, _, h3, _, h4, _, h5, _⟩ := hok
  intro u hu
  obtain ⟨r, hr, hu⟩ := List.mem_flatten.1 hu
  have : r.all Value.oneCell' = true := by
    simp only [fiveC, List.drop_succ_cons, List.drop_zero, List.mem_cons, List.not_mem_nil, or_false] at hr
    rcases hr with rfl | rfl | rfl | rfl
    · exact czC_one (VR.one h2)
    · exact czC_one (VR.one h3)
    · exact czC_one (VR.one h4)
    · exact czC_one (VR.one h5)
  exact List.all_eq_true.1 this u hu
theorem bad_fine : Fine bad5 := ⟨by decide, by decide⟩
set_option maxHeartbeats 4000000 in
set_option maxRecDepth 100000 in
theorem sanity_ct : Ct Tryz.prog 6 #[] [] fun u h' => u = .bool true ∧ h' = [] := by
  refine ct_of (n := 189) Tryz.func6 rfl rfl (len rfl) fun hr w0 => ?_
  refine cd_seq (cd_region (st_v (v_assign rfl) (st_nil (nx_then (cd_seq (cd_region (st_cl rfl rfl en16 rfl (Five_ct) ?_)))))))
  rintro u h' ⟨bF, p1, p2, p3, p4, p5, rfl, rfl⟩
  simp only [List.cons_append, List.nil_append]
  refine st_ok (r := FiveR bF p1 p2 p3 p4 p5) (by repeat (first | exact Sel.here | apply Sel.there)) fun hok => ?_
  have hv := five_sys hok
  refine st_v (v_assign rfl) (st_nil (nx_kp [0, 1] rfl (nx_then (cd_seq (cd_region (st_v (v_move rfl) (st_cl rfl rfl en17 rfl (Above_ct hv nmE) ?_)))))))
  rintro u h' ⟨T, rfl, w2, rfl, hw2, rfl⟩
  simp only [List.cons_append, List.nil_append]
  rw [five_r1, okL_eq rfl, five_above]
  refine st_ok (r := NR w2 [nmA, nmB, nmK, nmD, nmE]) (by repeat (first | exact Sel.here | apply Sel.there)) fun hok2 => ?_
  refine st_v (v_move rfl) (st_v (v_extract rfl rfl) (st_v (v_extract rfl rfl) (st_v (v_assign rfl) (st_v (v_assign rfl) (st_nil (nx_kp [0, 1, 2, 3] rfl (nx_then (cd_seq (cd_region (st_v (v_move rfl) (st_cl rfl rfl en18 rfl (Ways_ct hv nmE nmA) ?_)))))))))))
  rintro u h' ⟨rfl, rfl⟩
  simp only [List.cons_append, List.nil_append]
  rw [show okN (rightE five [nmE, nmA]) (ways five nmE nmA) = 3 by rw [five_r2, five_ways]; rfl, five_r2]
  refine st_v (v_move rfl) (st_v (v_extract rfl rfl) (st_v (v_extract rfl rfl) (st_v (v_assign rfl) (st_v (v_assign rfl) (st_nil (nx_kp [0, 1, 2, 3, 4, 5] rfl (nx_then (cd_seq (cd_region (st_v (v_move rfl) (st_cl rfl rfl en19 rfl (Way_ct hv nmE nmA) ?_)))))))))))
  rintro u h' ⟨T, rfl, w6, rfl, hw6, rfl⟩
  simp only [List.cons_append, List.nil_append]
  rw [five_r2, okL_eq rfl, five_way, five_wayE]
  refine st_ok (r := NR w6 [nmE, nmA]) (by repeat (first | exact Sel.here | apply Sel.there)) fun hok6 => ?_
  refine st_v (v_move rfl) (st_v (v_extract rfl rfl) (st_v (v_extract rfl rfl) (st_v (v_assign rfl) (st_v (v_assign rfl) (st_nil (nx_kp [0, 1, 2, 3, 4, 5, 6, 7] rfl (nx_then (cd_seq (cd_region (st_v (v_move rfl) (st_cl rfl rfl en20 rfl (Order_ct hv) ?_)))))))))))
  rintro u h' ⟨T, rfl, w8, rfl, hw8, rfl⟩
  simp only [List.cons_append, List.nil_append]
  rw [five_r0, okL_eq rfl, five_order]
  refine st_ok (r := NR w8 [nmA, nmB, nmK, nmD, nmE]) (by repeat (first | exact Sel.here | apply Sel.there)) fun hok8 => ?_
  refine st_v (v_move rfl) (st_v (v_extract rfl rfl) (st_v (v_extract rfl rfl) (st_v (v_assign rfl) (st_v (v_assign rfl) (st_nil (nx_kp [0, 1, 2, 3, 4, 5, 6, 7, 8, 9] rfl (nx_then (cd_seq (cd_region (st_v (v_move rfl) (st_cl rfl rfl en21 rfl (Levels_ct hv) ?_)))))))))))
  rintro u h' ⟨w10, va10, rfl, hw10, hvl10, rfl⟩
  simp only [List.cons_append, List.nil_append]
  rw [five_r0, okL_eq rfl, five_levels] at hvl10
  rw [five_r0, okL_eq rfl, five_levels]
  refine st_ok (r := LR w10 va10 [[nmA], [nmB, nmK], [nmD], [nmE]]) (by repeat (first | exact Sel.here | apply Sel.there)) fun hok10 => ?_
  refine st_v (v_move rfl) (st_v (v_extract rfl rfl) (st_v (v_extract rfl rfl) (st_v (v_assign rfl) (st_v (v_assign rfl) (st_nil (nx_kp [0, 1, 2, 3, 4, 5, 6, 7, 8, 9, 10, 11] rfl (nx_then (cd_seq (cd_region (st_v (v_move rfl) (st_cl rfl rfl en22 rfl (Least_ct hv nmB nmK) ?_)))))))))))
  rintro u h' ⟨T, rfl, w12, rfl, hw12, rfl⟩
  simp only [List.cons_append, List.nil_append]
  rw [five_r3, okL_eq rfl, five_least]
  refine st_ok (r := NR w12 [nmA]) (by repeat (first | exact Sel.here | apply Sel.there)) fun hok12 => ?_
  refine st_v (v_move rfl) (st_v (v_extract rfl rfl) (st_v (v_extract rfl rfl) (st_v (v_assign rfl) (st_v (v_assign rfl) (st_nil (nx_kp [0, 1, 2, 3, 4, 5, 6, 7, 8, 9, 10, 11, 12, 13] rfl (nx_then (cd_seq (cd_region (st_v (v_move rfl) (st_cl rfl rfl en22 rfl (Least_ct hv nmD nmB) ?_)))))))))))
  rintro u h' ⟨T, rfl, w14, rfl, hw14, rfl⟩
  simp only [List.cons_append, List.nil_append]
  rw [five_r4, okL_eq rfl, five_least2]
  refine st_ok (r := NR w14 [nmB]) (by repeat (first | exact Sel.here | apply Sel.there)) fun hok14 => ?_
  refine st_v (v_move rfl) (st_v (v_extract rfl rfl) (st_v (v_extract rfl rfl) (st_v (v_assign rfl) (st_v (v_assign rfl) (st_nil (nx_kp [0, 1, 2, 3, 4, 5, 6, 7, 8, 9, 10, 11, 12, 13, 14, 15] rfl (nx_then (cd_seq (cd_region (st_v (v_move rfl) (st_cl rfl rfl en23 rfl (Needless_ct hv) ?_)))))))))))
  rintro u h' ⟨T, rfl, w16, rfl, hw16, rfl⟩
  simp only [List.cons_append, List.nil_append]
  rw [five_r0, okL_eq rfl, five_needless]
  refine st_ok (r := KR w16 [(nmE, nmA)]) (by repeat (first | exact Sel.here | apply Sel.there)) fun hok16 => ?_
  refine st_v (v_move rfl) (st_v (v_extract rfl rfl) (st_v (v_extract rfl rfl) (st_v (v_assign rfl) (st_v (v_assign rfl) (st_nil (nx_kp [0, 1, 2, 3, 4, 5, 6, 7, 8, 9, 10, 11, 12, 13, 14, 15, 16, 17] rfl (nx_then (cd_seq (cd_region (st_v (v_move rfl) (st_buildSlice (cells := [sv nmK]) rfl Tryz.underlying25 inf9 rfl rfl (by kernel_rfl) (ltn rfl) fun b70 => ?_)))))))))))
  refine st_pv (pv_of (b := b70) (n := 1) (sz := 1) (E := 9) [nC nmK] rfl (by simp [nC]) rfl (by decide)) ?_
  simp only [List.cons_append, List.nil_append]
  refine st_ok (r := NR (.slice (some ⟨b70, 0, none⟩) 1 1) [nmK]) (by repeat (first | exact Sel.here | apply Sel.there)) fun hok70 => ?_
  refine st_cl rfl rfl en24 rfl (Touched_ct hv (nms_own hok70)) ?_
  rintro u h' ⟨T, rfl, w18, rfl, hw18, rfl⟩
  simp only [List.cons_append, List.nil_append]
  rw [five_touchE, okL_eq rfl, five_touched]
  refine st_ok (r := NR w18 [nmK, nmD, nmE]) (by repeat (first | exact Sel.here | apply Sel.there)) fun hok18 => ?_
  refine st_v (v_move rfl) (st_v (v_extract rfl rfl) (st_v (v_extract rfl rfl) (st_v (v_assign rfl) (st_v (v_assign rfl) (st_nil (nx_kp [0, 1, 2, 3, 4, 5, 6, 7, 8, 9, 10, 11, 12, 13, 14, 15, 16, 17, 18, 19] rfl (nx_then (cd_seq (cd_seq (cd_region (st_v (v_move rfl) (st_v (v_neq rfl rfl) (st_v (v_move rfl) (st_vg rfl rfl (v_move rfl) (st_vg rfl rfl (v_neq rfl rfl) ?_)))))))))))))))
  refine st_v (v_pick_false rfl rfl) (st_v (v_move rfl) (st_vg rfl rfl (v_move rfl) (st_vg rfl rfl (v_neq rfl rfl) (st_v (v_pick_false rfl rfl) (st_v (v_move rfl) (st_vg rfl rfl (v_move rfl) (st_vg rfl rfl (v_neq rfl rfl) (st_v (v_pick_false rfl rfl) (st_v (v_move rfl) (st_vg rfl rfl (v_move rfl) (st_vg rfl rfl (v_neq rfl rfl) (st_v (v_pick_false rfl rfl) (st_v (v_move rfl) ?_)))))))))))))
  refine st_vg rfl rfl (v_move rfl) (st_vg rfl rfl (v_neq rfl rfl) (st_v (v_pick_false rfl rfl) (st_v (v_move rfl) (st_vg rfl rfl (v_move rfl) (st_vg rfl rfl (v_neq rfl rfl) (st_v (v_pick_false rfl rfl) (st_v (v_move rfl) (st_vg rfl rfl (v_move rfl) (st_vg rfl rfl (v_neq rfl rfl) (st_v (v_pick_false rfl rfl) (st_v (v_move rfl) (st_vg rfl rfl (v_move rfl) (st_vg rfl rfl (v_neq rfl rfl) ?_)))))))))))))
  refine st_v (v_pick_false rfl rfl) (st_nil (nx_kp [0, 1, 2, 4, 6, 8, 10, 12, 14, 16, 18, 107] rfl (nx_then (cd_false rfl ?_))))
  refine cd_skip (xt_then (cd_seq (cd_drawh (ork [(3, 2), (4, 1), (0, 0), (1, 0), (2, 0), (5, 0), (6, 2)] .nil) (fun i => !(Nat.beq i 5)) mixed (by kernel_rfl) ?_)))
  refine dp_v rfl (v_move rfl) (dr_v rfl (v_sliceTail rfl rfl sl22 rfl (by decide) (by decide)) ?_)
  refine dr_eff rfl (st_buildSlice (cells := [sv nmD]) rfl Tryz.underlying25 inf9 rfl rfl (by kernel_rfl) (ltn rfl) fun b108 => ?_)
  refine st_pv (pv_of (b := b108) (n := 1) (sz := 1) (E := 9) [nC nmD] rfl (by simp [nC]) rfl (by decide)) ?_
  simp only [List.cons_append, List.nil_append]
  refine st_ok (r := NR (.slice (some ⟨b108, 0, none⟩) 1 1) [nmD]) (by repeat (first | exact Sel.here | apply Sel.there)) fun hok108 => ?_
  refine dr_nx ?_
  refine dr_eff rfl (st_cl rfl rfl en25 rfl (class_ct nmA (nms_own hok108) (by simp)) ?_)
  rintro u h' ⟨T, rfl, q, rfl, hq, rfl⟩
  simp only [List.cons_append, List.nil_append]
  refine dr_nx ?_
  refine dr_eff rfl (st_buildSlice (cells := czC nmA q) rfl Tryz.underlying22 inf29 rfl rfl (by kernel_rfl) (ltn rfl) fun b110 => ?_)
  refine st_pv (pv_of (b := b110) (n := 1) (sz := 7) (E := 29) [czC nmA q] rfl (by simp [czC]) rfl (by decide)) ?_
  simp only [List.cons_append, List.nil_append]
  refine dr_nx ?_
  refine dr_eff rfl (st_app ((fiveC p1 p2 p3 p4 p5).drop 1) rfl rfl Tryz.underlying22 inf29 rfl (by decide) (show Sel _ (VR (.slice (some ⟨b110, 0, none⟩) 1 1) 29 7 [czC nmA q]) _ from (by repeat (first | exact Sel.here | apply Sel.there))) (by simp [fiveC, czC]) rfl (fun j u2 hu2 => by repeat (first | exact at_here (five_rd hu2) | apply at_there)) (five_one hok) (by simp) (by simp) (ltn rfl) fun w20 hw20 _ => ?_)
  rw [show [czC nmA q] ++ (fiveC p1 p2 p3 p4 p5).drop 1 = czC nmA q :: (fiveC p1 p2 p3 p4 p5).drop 1 from rfl]
  refine st_pv (pv_pack (L := [VR w20 29 7 (czC nmA q :: (fiveC p1 p2 p3 p4 p5).drop 1), PaR q [nmD], FiveR bF p1 p2 p3 p4 p5])) ?_
  simp only [List.cons_append, List.nil_append]
  refine st_ok (r := Res.star [VR w20 29 7 (czC nmA q :: (fiveC p1 p2 p3 p4 p5).drop 1), PaR q [nmD], FiveR bF p1 p2 p3 p4 p5]) (by repeat (first | exact Sel.here | apply Sel.there)) fun ⟨fb, g0, _, g1, _, gF, _⟩ => ?_
  have hvb := bad_sys g0 g1 gF
  generalize Res.star [VR w20 29 7 (czC nmA q :: (fiveC p1 p2 p3 p4 p5).drop 1), PaR q [nmD], FiveR bF p1 p2 p3 p4 p5] = SB at *
  refine dr_nx ?_
  refine dp_v rfl (v_assign rfl) (dr_nil (nx_kp [0, 2, 4, 6, 8, 10, 12, 14, 16, 18, 20] rfl (nx_then (cd_seq (cd_region (st_v (v_move rfl) (st_cl rfl rfl en13 rfl (Check_ct hvb) ?_)))))))
  rintro u h' ⟨rfl, rfl⟩
  simp only [List.cons_append, List.nil_append]
  rw [bad_check]
  refine st_v (v_move rfl) (st_v (v_extract rfl rfl) (st_v (v_extract rfl rfl) (st_v (v_assign rfl) (st_v (v_assign rfl) (st_nil (nx_kp [0, 2, 4, 6, 8, 10, 12, 14, 16, 18, 20, 21, 22] rfl (nx_then (cd_seq (cd_region (st_v (v_move rfl) (st_cl rfl rfl en26 rfl (Ring_ct hvb bad_fine) ?_)))))))))))
  rintro u h' ⟨T, rfl, w23, rfl, hw23, rfl⟩
  simp only [List.cons_append, List.nil_append]
  rw [bad_ring]
  simp only [Option.getD_some, Option.isSome_some]
  refine st_ok (r := NR w23 [nmA, nmD, nmB]) (by repeat (first | exact Sel.here | apply Sel.there)) fun hok23 => ?_
  refine st_v (v_move rfl) (st_v (v_extract rfl rfl) (st_v (v_extract rfl rfl) (st_v (v_assign rfl) (st_v (v_assign rfl) (st_nil (nx_kp [0, 2, 4, 6, 8, 10, 12, 14, 16, 18, 21, 22, 23, 24] rfl (nx_then (cd_seq (cd_region (st_v (v_move rfl) (st_buildSlice (cells := [sv nmA, sv nmB, sv nmK, sv nmD, sv nmE]) rfl Tryz.underlying25 inf9 rfl rfl (by kernel_rfl) (ltn rfl) fun b125 => ?_)))))))))))
  refine st_pv (pv_of (b := b125) (n := 5) (sz := 1) (E := 9) [nC nmA, nC nmB, nC nmK, nC nmD, nC nmE] rfl (by simp [nC]) rfl (by decide)) ?_
  simp only [List.cons_append, List.nil_append]
  refine st_ok (r := NR (.slice (some ⟨b125, 0, none⟩) 5 5) [nmA, nmB, nmK, nmD, nmE]) (by repeat (first | exact Sel.here | apply Sel.there)) fun hok125 => ?_
  refine st_clr rfl rfl en27 rfl (SameNames_ct (nms_own hok2) (nms_own hok125) (by simp)) ?_
  rw [show (([nmA, nmB, nmK, nmD, nmE] : List Nm) == [nmA, nmB, nmK, nmD, nmE]) = true from by decide]
  refine st_v (v_move rfl) (st_vg rfl rfl (v_move rfl) (st_vg rfl rfl (v_eql rfl rfl) (st_v (v_pick_true rfl rfl) (st_v (v_move rfl) (st_vg rfl rfl (v_move rfl) (st_grd rfl rfl (st_buildSlice (cells := [sv nmE, sv nmA]) rfl Tryz.underlying25 inf9 rfl rfl (by kernel_rfl) (ltn rfl) fun b133 => ?_)))))))
  refine st_pv (pv_of (b := b133) (n := 2) (sz := 1) (E := 9) [nC nmE, nC nmA] rfl (by simp [nC]) rfl (by decide)) ?_
  simp only [List.cons_append, List.nil_append]
  refine st_ok (r := NR (.slice (some ⟨b133, 0, none⟩) 2 2) [nmE, nmA]) (by repeat (first | exact Sel.here | apply Sel.there)) fun hok133 => ?_
  refine st_clrg rfl rfl rfl rfl en27 rfl (SameNames_ct (nms_own hok6) (nms_own hok133) (by simp)) ?_
  rw [show (([nmE, nmA] : List Nm) == [nmE, nmA]) = true from by decide]
  refine st_v (v_pick_true rfl rfl) (st_v (v_move rfl) (st_vg rfl rfl (v_move rfl) (st_vg rfl rfl (v_move rfl) (st_clrg rfl rfl rfl rfl en27 rfl (SameNames_ct (nms_own hok8) (nms_own hok2) (by simp)) ?_))))
  rw [show (([nmA, nmB, nmK, nmD, nmE] : List Nm) == [nmA, nmB, nmK, nmD, nmE]) = true from by decide]
  refine st_v (v_pick_true rfl rfl) (st_v (v_move rfl) (st_vg rfl rfl (v_move rfl) (st_grd rfl rfl (st_buildSlice (cells := [sv nmA]) rfl Tryz.underlying25 inf9 rfl rfl (by kernel_rfl) (ltn rfl) fun b143 => ?_))))
  refine st_pv (pv_of (b := b143) (n := 1) (sz := 1) (E := 9) [nC nmA] rfl (by simp [nC]) rfl (by decide)) ?_
  simp only [List.cons_append, List.nil_append]
  refine st_ok (r := NR (.slice (some ⟨b143, 0, none⟩) 1 1) [nmA]) (by repeat (first | exact Sel.here | apply Sel.there)) fun hok143 => ?_
  refine st_grd rfl rfl (st_buildSlice (cells := [sv nmB, sv nmK]) rfl Tryz.underlying25 inf9 rfl rfl (by kernel_rfl) (ltn rfl) fun b144 => ?_)
  refine st_pv (pv_of (b := b144) (n := 2) (sz := 1) (E := 9) [nC nmB, nC nmK] rfl (by simp [nC]) rfl (by decide)) ?_
  simp only [List.cons_append, List.nil_append]
  refine st_ok (r := NR (.slice (some ⟨b144, 0, none⟩) 2 2) [nmB, nmK]) (by repeat (first | exact Sel.here | apply Sel.there)) fun hok144 => ?_
  refine st_grd rfl rfl (st_buildSlice (cells := [sv nmD]) rfl Tryz.underlying25 inf9 rfl rfl (by kernel_rfl) (ltn rfl) fun b145 => ?_)
  refine st_pv (pv_of (b := b145) (n := 1) (sz := 1) (E := 9) [nC nmD] rfl (by simp [nC]) rfl (by decide)) ?_
  simp only [List.cons_append, List.nil_append]
  refine st_ok (r := NR (.slice (some ⟨b145, 0, none⟩) 1 1) [nmD]) (by repeat (first | exact Sel.here | apply Sel.there)) fun hok145 => ?_
  refine st_grd rfl rfl (st_buildSlice (cells := [sv nmE]) rfl Tryz.underlying25 inf9 rfl rfl (by kernel_rfl) (ltn rfl) fun b146 => ?_)
  refine st_pv (pv_of (b := b146) (n := 1) (sz := 1) (E := 9) [nC nmE] rfl (by simp [nC]) rfl (by decide)) ?_
  simp only [List.cons_append, List.nil_append]
  refine st_ok (r := NR (.slice (some ⟨b146, 0, none⟩) 1 1) [nmE]) (by repeat (first | exact Sel.here | apply Sel.there)) fun hok146 => ?_
  refine st_grd rfl rfl (st_buildSlice (cells := [.slice (some ⟨b143, 0, none⟩) 1 1, .slice (some ⟨b144, 0, none⟩) 2 2, .slice (some ⟨b145, 0, none⟩) 1 1, .slice (some ⟨b146, 0, none⟩) 1 1]) rfl Tryz.underlying54 inf25 rfl rfl (by kernel_rfl) (ltn rfl) fun b147 => ?_)
  refine st_pv (pv_of (b := b147) (n := 4) (sz := 1) (E := 25) ([.slice (some ⟨b143, 0, none⟩) 1 1, .slice (some ⟨b144, 0, none⟩) 2 2, .slice (some ⟨b145, 0, none⟩) 1 1, .slice (some ⟨b146, 0, none⟩) 1 1].map fun u => [u]) rfl (by simp) rfl (by decide)) ?_
  refine st_pv (pv_pack (L := [NR (.slice (some ⟨b143, 0, none⟩) 1 1) [nmA], NR (.slice (some ⟨b144, 0, none⟩) 2 2) [nmB, nmK], NR (.slice (some ⟨b145, 0, none⟩) 1 1) [nmD], NR (.slice (some ⟨b146, 0, none⟩) 1 1) [nmE]])) ?_
  simp only [List.cons_append, List.nil_append]
  refine st_pv (pv_pack (L := [VR (.slice (some ⟨b147, 0, none⟩) 4 4) 25 1 ([.slice (some ⟨b143, 0, none⟩) 1 1, .slice (some ⟨b144, 0, none⟩) 2 2, .slice (some ⟨b145, 0, none⟩) 1 1, .slice (some ⟨b146, 0, none⟩) 1 1].map fun u => [u]), Res.star [NR (.slice (some ⟨b143, 0, none⟩) 1 1) [nmA], NR (.slice (some ⟨b144, 0, none⟩) 2 2) [nmB, nmK], NR (.slice (some ⟨b145, 0, none⟩) 1 1) [nmD], NR (.slice (some ⟨b146, 0, none⟩) 1 1) [nmE]]])) ?_
  refine st_pv (pv_eq (show Res.star [VR (.slice (some ⟨b147, 0, none⟩) 4 4) 25 1 ([.slice (some ⟨b143, 0, none⟩) 1 1, .slice (some ⟨b144, 0, none⟩) 2 2, .slice (some ⟨b145, 0, none⟩) 1 1, .slice (some ⟨b146, 0, none⟩) 1 1].map fun u => [u]), Res.star [NR (.slice (some ⟨b143, 0, none⟩) 1 1) [nmA], NR (.slice (some ⟨b144, 0, none⟩) 2 2) [nmB, nmK], NR (.slice (some ⟨b145, 0, none⟩) 1 1) [nmD], NR (.slice (some ⟨b146, 0, none⟩) 1 1) [nmE]]] = LR (.slice (some ⟨b147, 0, none⟩) 4 4) [.slice (some ⟨b143, 0, none⟩) 1 1, .slice (some ⟨b144, 0, none⟩) 2 2, .slice (some ⟨b145, 0, none⟩) 1 1, .slice (some ⟨b146, 0, none⟩) 1 1] [[nmA], [nmB, nmK], [nmD], [nmE]] from rfl)) ?_
  simp only [List.cons_append, List.nil_append]
  refine st_ok (r := LR (.slice (some ⟨b147, 0, none⟩) 4 4) [.slice (some ⟨b143, 0, none⟩) 1 1, .slice (some ⟨b144, 0, none⟩) 2 2, .slice (some ⟨b145, 0, none⟩) 1 1, .slice (some ⟨b146, 0, none⟩) 1 1] [[nmA], [nmB, nmK], [nmD], [nmE]]) (by repeat (first | exact Sel.here | apply Sel.there)) fun hok147 => ?_
  refine st_clrg rfl rfl rfl rfl en28 rfl (SameLists_ct (ll_own hok10 hvl10) (ll_own hok147 rfl) (by simp) (by simp)) ?_
  rw [show (([[nmA], [nmB, nmK], [nmD], [nmE]] : List (List Nm)) == [[nmA], [nmB, nmK], [nmD], [nmE]]) = true from by decide]
  refine st_v (v_pick_true rfl rfl) (st_v (v_assign rfl) (st_nil (nx_kp [0, 12, 14, 16, 18, 21, 22, 23, 24, 25] rfl (nx_then (cd_seq (cd_region (st_v (v_move rfl) (st_buildSlice (cells := [sv nmA]) rfl Tryz.underlying25 inf9 rfl rfl (by kernel_rfl) (ltn rfl) fun b151 => ?_))))))))
  refine st_pv (pv_of (b := b151) (n := 1) (sz := 1) (E := 9) [nC nmA] rfl (by simp [nC]) rfl (by decide)) ?_
  simp only [List.cons_append, List.nil_append]
  refine st_ok (r := NR (.slice (some ⟨b151, 0, none⟩) 1 1) [nmA]) (by repeat (first | exact Sel.here | apply Sel.there)) fun hok151 => ?_
  refine st_clr rfl rfl en27 rfl (SameNames_ct (nms_own hok12) (nms_own hok151) (by simp)) ?_
  rw [show (([nmA] : List Nm) == [nmA]) = true from by decide]
  refine st_v (v_move rfl) (st_vg rfl rfl (v_move rfl) (st_grd rfl rfl (st_buildSlice (cells := [sv nmB]) rfl Tryz.underlying25 inf9 rfl rfl (by kernel_rfl) (ltn rfl) fun b155 => ?_)))
  refine st_pv (pv_of (b := b155) (n := 1) (sz := 1) (E := 9) [nC nmB] rfl (by simp [nC]) rfl (by decide)) ?_
  simp only [List.cons_append, List.nil_append]
  refine st_ok (r := NR (.slice (some ⟨b155, 0, none⟩) 1 1) [nmB]) (by repeat (first | exact Sel.here | apply Sel.there)) fun hok155 => ?_
  refine st_clrg rfl rfl rfl rfl en27 rfl (SameNames_ct (nms_own hok14) (nms_own hok155) (by simp)) ?_
  rw [show (([nmB] : List Nm) == [nmB]) = true from by decide]
  refine st_v (v_pick_true rfl rfl) (st_v (v_move rfl) (st_vg rfl rfl (v_move rfl) (st_vg rfl rfl (v_build (cells := [sv nmE, sv nmA]) rfl (fun _ => by kernel_rfl)) ?_)))
  refine st_grd rfl rfl (st_buildSlice (cells := [sv nmE, sv nmA]) rfl Tryz.underlying57 inf68 rfl rfl (by kernel_rfl) (ltn rfl) fun b161 => ?_)
  refine st_pv (pv_of (b := b161) (n := 1) (sz := 2) (E := 68) [lkC (nmE, nmA)] rfl (by simp [lkC]) rfl (by decide)) ?_
  simp only [List.cons_append, List.nil_append]
  refine st_ok (r := KR (.slice (some ⟨b161, 0, none⟩) 1 1) [(nmE, nmA)]) (by repeat (first | exact Sel.here | apply Sel.there)) fun hok161 => ?_
  refine st_clrg rfl rfl rfl rfl en29 rfl (SameLinks_ct (kl_own hok16) (kl_own hok161) (by simp)) ?_
  rw [show (([(nmE, nmA)] : List (Nm × Nm)) == [(nmE, nmA)]) = true from by decide]
  refine st_v (v_pick_true rfl rfl) (st_v (v_move rfl) (st_vg rfl rfl (v_move rfl) (st_grd rfl rfl (st_buildSlice (cells := [sv nmK, sv nmD, sv nmE]) rfl Tryz.underlying25 inf9 rfl rfl (by kernel_rfl) (ltn rfl) fun b166 => ?_))))
  refine st_pv (pv_of (b := b166) (n := 3) (sz := 1) (E := 9) [nC nmK, nC nmD, nC nmE] rfl (by simp [nC]) rfl (by decide)) ?_
  simp only [List.cons_append, List.nil_append]
  refine st_ok (r := NR (.slice (some ⟨b166, 0, none⟩) 3 3) [nmK, nmD, nmE]) (by repeat (first | exact Sel.here | apply Sel.there)) fun hok166 => ?_
  refine st_clrg rfl rfl rfl rfl en27 rfl (SameNames_ct (nms_own hok18) (nms_own hok166) (by simp)) ?_
  rw [show (([nmK, nmD, nmE] : List Nm) == [nmK, nmD, nmE]) = true from by decide]
  refine st_v (v_pick_true rfl rfl) (st_v (v_assign rfl) (st_nil (nx_kp [0, 21, 22, 23, 24, 25, 26] rfl (nx_then (cd_seq (cd_region (st_v (v_move rfl) (st_v (v_move rfl) (st_vg rfl rfl (v_move rfl) (st_v (v_pick_true rfl rfl) (st_v (v_move rfl) (st_vg rfl rfl (v_move rfl) (st_vg rfl rfl (v_eql rfl rfl) (st_v (v_pick_true rfl rfl) (st_v (v_move rfl) ?_)))))))))))))))
  refine st_vg rfl rfl (v_move rfl) (st_vg rfl rfl (v_seql rfl rfl) (st_v (v_pick_true rfl rfl) (st_v (v_move rfl) (st_vg rfl rfl (v_move rfl) (st_v (v_pick_true rfl rfl) (st_v (v_move rfl) (st_vg rfl rfl (v_move rfl) (st_grd rfl rfl (st_buildSlice (cells := [sv nmA, sv nmD, sv nmB]) rfl Tryz.underlying25 inf9 rfl rfl (by kernel_rfl) (ltn rfl) fun b186 => ?_)))))))))
  refine st_pv (pv_of (b := b186) (n := 3) (sz := 1) (E := 9) [nC nmA, nC nmD, nC nmB] rfl (by simp [nC]) rfl (by decide)) ?_
  simp only [List.cons_append, List.nil_append]
  refine st_ok (r := NR (.slice (some ⟨b186, 0, none⟩) 3 3) [nmA, nmD, nmB]) (by repeat (first | exact Sel.here | apply Sel.there)) fun hok186 => ?_
  refine st_clrg rfl rfl rfl rfl en27 rfl (SameNames_ct (nms_own hok23) (nms_own hok186) (by simp)) ?_
  rw [show (([nmA, nmD, nmB] : List Nm) == [nmA, nmD, nmB]) = true from by decide]
  refine st_v (v_pick_true rfl rfl) (st_v (v_assign rfl) (st_nil (nx_kp [0] rfl (nx_then (cd_ret ?_)))))
  exact xt_rt rfl ⟨rfl, rfl⟩ (by (repeat (refine Sub.sel (by repeat (first | exact Sel.here | apply Sel.there)) ?_)); (repeat apply Sub.cons); first | exact Sub.refl _ | exact Sub.nil _)
end Go.Hr
namespace Go.Ck
open Go
section
variable {P : Program} {e : Env} {h : SH} {ty : TypeId}
theorem v_conv {src dst : TypeId} {x : Operand} {q q' k : IntKind} {n m : Int} (hx : e.ev? x = some (.int q n)) (hs : P.underlying src = some (.int q')) (hd : P.underlying dst = some (.int k)) (hw : k.wrap n = m) : Vop P e h (.convert src dst x) ty (.int k m) :=
  ⟨by simp, by simp, fun ρ w d pos after g hρ _ => by
    simp [execOp, hρ x _ hx, Go.convert, Sem.run_bind, run_underlying hs, run_underlying hd, Result.andThen_ok, Conv.intToInt, hw]⟩
end
end Go.Ck
namespace Go.Hr
open Go Go.RowKit Go.Ck Go.Proofs Go.Proofs.YtjgiaohieadeiaaGreat Fx
attribute [local irreducible] Go.Ck.Sub St Cd Xt Nx DrL LsW
/-- The class that a small number chooses. -/
def clAt (l : Sys) (m : Nat) : Cls := l.getD (m % l.length) ⟨[], [], 0⟩
def nmAt (l : Sys) (m : Nat) : Nm := (clAt l m).name
theorem clAt_get {l : Sys} (h : 0 < l.length) (m : Nat) : l[m % l.length]? = some (clAt l m) := getD_of _ (Nat.mod_lt _ h)
theorem clAt_mem {l : Sys} (h : 0 < l.length) (m : Nat) : clAt l m ∈ l := List.mem_of_getElem? (clAt_get h m)
theorem nmAt_isC {l : Sys} (h : 0 < l.length) (m : Nat) : isC l (nmAt l m) = true := isC_iff.2 (List.mem_map.2 ⟨_, clAt_mem h m, rfl⟩)
theorem wrap_small {m : Nat} (h : m ≤ 255) : IntKind.i64.wrap (m : Int) = (m : Int) := I64.wrap (by unfold I64; omega)
theorem tmod_nat (m n : Nat) : (m : Int).tmod n = ((m % n : Nat) : Int) := (Int.ofNat_tmod m n).symm
theorem right2 {l : Sys} (hR : Right l) {c a : Nm} (hc : isC l c = true) (ha : isC l a = true) : rightE l [c, a] = 0 := rightE_zero.2 ⟨hR, fun n hn => by
  simp at hn
  rcases hn with rfl | rfl <;> assumption⟩
theorem right1 {l : Sys} (hR : Right l) {c : Nm} (hc : isC l c = true) : rightE l [c] = 0 := rightE_zero.2 ⟨hR, fun n hn => by
  simp at hn
  rcases hn with rfl; assumption⟩
theorem right0 {l : Sys} (hR : Right l) : rightE l [] = 0 := rightE_zero.2 ⟨hR, fun n hn => by cases hn⟩
theorem sanityR : Reads Tryz.prog 6 #[] [] (.bool true) := sanity_ct
section
variable {S : Res} {v : Value} {l : Sys}
set_option maxRecDepth 100000 in
theorem name_ct (hv : sysR S v l) (h0 : 0 < l.length) (hl : l.length ≤ 1000000) {m : Nat} (hm : m ≤ 255) : Reads Tryz.prog 14 #[v, .int .u8 (m : Int)] [S] (sv (nmAt l m)) := by
  obtain ⟨a, cap, rfl, _⟩ := id hv
  have hlt := Nat.mod_lt m h0
  obtain ⟨b, o, cap2, d, f, pa, pc, c2, fa, fc, j2, hv2, hrd, hP, hone⟩ := sys_at hv (clAt_get h0 m)
  refine ct_of (n := 14) Tryz.func14 rfl rfl (len rfl) fun hr w0 => ?_
  refine cd_seq (cd_region (st_v (v_assign rfl) (st_nil (nx_then (cd_seq (cd_region (st_v (v_move rfl) (st_v (v_move rfl) (st_v (v_conv rfl Tryz.underlying5 Tryz.underlying3 (wrap_small hm)) (st_v (v_move rfl) (st_v (v_len rfl Tryz.underlying22) (st_v (v_rem rfl rfl (by omega) (by rw [tmod_nat]; exact I64.wrap (by unfold I64; omega))) ?_))))))))))))
  refine st_v (v_indexAddr (k := m % l.length) (congrArg some hv2) rfl sl22 (tmod_nat m l.length) hlt rfl) (st_v (v_fieldAddr rfl fa29_0 rfl) (st_v (v_ldy rfl ld9) ?_))
  refine st_v (v_assign rfl) (st_nil (nx_kp [4] rfl (nx_then (cd_ret ?_))))
  exact xt_rt rfl ⟨rfl, rfl⟩ (by (repeat (refine Sub.sel (by repeat (first | exact Sel.here | apply Sel.there)) ?_)); (repeat apply Sub.cons); first | exact Sub.refl _ | exact Sub.nil _)
set_option maxRecDepth 100000 in
theorem is_ct (hv : sysR S v l) (hR : Right l) {c a : Nm} (hc : isC l c = true) (ha : isC l a = true) : Reads Tryz.prog 15 #[v, sv c, sv a] [S] (.bool (has l c a)) := by
  obtain ⟨la, cap, rfl, _⟩ := id hv
  have he := right2 hR hc ha
  refine ct_of (n := 21) Tryz.func15 rfl rfl (len rfl) fun hr w0 => ?_
  refine cd_seq (cd_region (st_v (v_assign rfl) (st_nil (nx_then (cd_seq (cd_region (st_v (v_move rfl) (st_v (v_move rfl) (st_v (v_move rfl) (st_cl rfl rfl en45 rfl (Is_ct hv c a) ?_))))))))))
  rintro u h' ⟨rfl, rfl⟩
  simp only [List.cons_append, List.nil_append]
  rw [he, decide_eq_true rfl, Bool.true_and]
  refine st_v (v_move rfl) (st_v (v_extract rfl rfl) (st_v (v_extract rfl rfl) (st_v (v_assign rfl) (st_v (v_assign rfl) (st_nil (nx_kp [6, 7, 8] rfl (nx_then (cd_seq (cd_region (st_v (v_move rfl) (st_v (v_move rfl) ?_)))))))))))
  cases hh : has l c a
  · skip
    refine st_sk rfl rfl rfl ?_
    refine st_sk rfl rfl rfl ?_
    refine st_v (v_pick_false rfl rfl) (st_v (v_assign rfl) (st_nil (nx_kp [6] rfl (nx_then (cd_ret ?_)))))
    exact xt_rt rfl ⟨rfl, rfl⟩ (by (repeat (refine Sub.sel (by repeat (first | exact Sel.here | apply Sel.there)) ?_)); (repeat apply Sub.cons); first | exact Sub.refl _ | exact Sub.nil _)
  · skip
    refine st_vg rfl rfl (v_move rfl) (st_vg rfl rfl (v_eql rfl rfl) (st_v (v_pick_true rfl rfl) (st_v (v_assign rfl) (st_nil (nx_kp [6] rfl (nx_then (cd_ret ?_)))))))
    exact xt_rt rfl ⟨rfl, rfl⟩ (by (repeat (refine Sub.sel (by repeat (first | exact Sel.here | apply Sel.there)) ?_)); (repeat apply Sub.cons); first | exact Sub.refl _ | exact Sub.nil _)
end
end Go.Hr
namespace Go.Hr
open Go Go.RowKit Go.Ck Go.Proofs Go.Proofs.YtjgiaohieadeiaaGreat Fx
attribute [local irreducible] Go.Ck.Sub St Cd Xt Nx DrL LsW
theorem rightR {S : Res} {v : Value} {l : Sys} (hv : sysR S v l) : Reads Tryz.prog 12 #[v] [S] (.bool (rightB l)) := rightL_ct hv
theorem below_at {l : Sys} {a b : Nm} (hb : isC l b = true) : decide (0 ≤ ixS (below l a) b) = has l b a := by
  rw [ixS_has, Bool.eq_iff_iff, List.contains_iff_mem, mem_below]
  exact ⟨fun h => h.2, fun h => ⟨isC_iff.1 hb, h⟩⟩
theorem and_trans {l : Sys} {a b c : Nm} : ((has l a b && has l b c) && !has l a c) = false := by
  cases h1 : has l a b <;> cases h2 : has l b c <;> simp
  exact has_trans h1 h2
theorem and_anti {l : Sys} (hR : Right l) {a b : Nm} : (((a != b) && has l a b) && has l b a) = false := by
  cases h1 : has l a b <;> cases h2 : has l b a <;> simp
  exact has_antisymm hR.acyc h1 h2
section
variable {S : Res} {v : Value} {l : Sys}
end
end Go.Hr
