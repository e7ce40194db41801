/-
  minor: the walk. Conditions: what the heap holds, that sizes are small, that there is room at each step.
  The memory of package heap (lists) and the plain machine (functions): what they have in common, one step at a time. Nothing of the program's text is named here. No condition.
  The memory of package heap and the plain machine: words are forwarded alike. Nothing of the program's text is named here. No condition.
  The memory of package heap and the plain machine: lists of words, new objects, what is needed, the young space emptied. Nothing of the program's text is named here. No condition.
  The memory of package heap and the plain machine: Minor and Flip. Nothing of the program's text is named here. No condition.
  The memory of package heap and the plain machine: Alloc, Shape, Get, Set, Step. Nothing of the program's text is named here. No condition.
-/
import Derived.Test.YtmhmpjgkkpbnnaaM7
import Derived.Test.YtmhmpjgkkpbnnaaM4
namespace Go.Proofs.Ytmhmpjgkkpbnnaa
open Go.Ck Fx Go.Hm
attribute [local irreducible] St Cd Xt Nx DrL LsW

/-- What stays while words are forwarded out of the young space. -/
structure YPre (μ0 μ : Mem) (sh : List (List Bool)) : Prop where
  y : μ.y = μ0.y
  n : μ.n.Ok
  sh : μ.sh = sh
  le : 0 ≤ μ.le ∧ μ.le ≤ 1000000
  kn : μ.kn = μ0.kn
  fr : μ.n.fr = μ0.n.fr
  len : μ.n.ws.length = μ0.n.ws.length
theorem src_y (μ : Mem) : μ.src false = μ.y := rfl
theorem YPre.fwd {μ0 μ : Mem} {sh : List (List Bool)} {t : Int} (h : YPre μ0 μ sh) (oy : μ0.y.Ok) (py : SpOk sh μ0.y) (hr : μ.roomFor false t) : YPre μ0 (μ.fwd μ.y false t).2 sh := by
  have hs : (μ.src false).Ok := by rw [src_y, h.y]; exact oy
  have hp : SpOk μ.sh (μ.src false) := by rw [src_y, h.y, h.sh]; exact py
  refine ⟨by rw [fwd_y]; exact h.y, fwd_nok h.n hs hp hr, by rw [fwd_sh]; exact h.sh, by rw [fwd_le0]; exact h.le, by rw [fwd_kn]; exact h.kn, by rw [fwd_fr]; exact h.fr, ?_⟩
  rw [fwd_len (fun h1 h2 => ?_)]
  · exact h.len
  · have h3 := (hr h1 h2).1
    have h4 := hp t h1
    have h5 := begins_bd (s := μ.src false) h1
    have h6 := hs.us
    rw [src_y] at *
    rw [obj_length (by unfold Mem.osz; omega)]
    exact h3
theorem setw_ok {s : Sp} {k : Nat} {v : Int} (h : s.Ok) : (s.setw k v).Ok := ⟨by simp only [Sp.setw, List.length_set]; exact h.st, by simp only [Sp.setw, List.length_set]; exact h.us, h.fr, by simp only [Sp.setw, List.length_set]; exact h.ws⟩
theorem YPre.fwdAt {μ0 μ : Mem} {sh : List (List Bool)} {k : Nat} (h : YPre μ0 μ sh) (oy : μ0.y.Ok) (py : SpOk sh μ0.y) (hr : μ.roomFor false (μ.n.ws.getD k 0)) : YPre μ0 (μ.fwdAt false k) sh := by
  have h' := h.fwd oy py hr
  exact ⟨h'.y, setw_ok h'.n, h'.sh, h'.le, h'.kn, h'.fr, by show (List.set _ _ _).length = _; rw [List.length_set]; exact h'.len⟩

def minSH (L : MemL) (μ : Mem) (S R : Res) : SH := [mb L μ, sb L.y μ.y, wb L.y μ.y, tb L.y μ.y, sb L.n μ.n, wb L.n μ.n, tb L.n μ.n, sb L.o μ.o, mpr L.mvb (mvv μ.mv), knR L μ, S, R]
set_option maxHeartbeats 4000000 in
set_option maxRecDepth 100000 in
theorem minor_ct {L : MemL} {μ : Mem} {S R : Res} {v : Value} {roots : List Int} (oy : μ.y.Ok) (on : μ.n.Ok) (hS : Shp S L.vs μ.sh) (hl : ShOk μ.sh) (py : SpOk μ.sh μ.y) (hle : 0 ≤ μ.le ∧ μ.le ≤ 1000000) (hv : RowI R v roots) (hrl : roots.length ≤ 1000000) (hkl : μ.kn.length ≤ 1000000)
    (hkn : ∀ k ∈ μ.kn, (μ.n.fr : Int) ≤ k.1 ∧ 0 ≤ k.2 ∧ k.1 + 1 + k.2 < (μ.n.fr : Int) + μ.n.ws.length) (hok2 : Mem.fwdNsOk false μ.kidxs (μ.minor1 roots).1)
    (hok3 : Mem.lookOk μ.n.ws.length μ.n.us (Mem.fwdNs false μ.kidxs (μ.minor1 roots).1)) (hypos : 0 < μ.y.st.length)
    (hok1 : Mem.fwdRowOk false roots.length 0 { μ with mv := [] } roots) :
    Ct Try.prog 86 #[.pointer (some ⟨L.mb, 0, none⟩), v] (minSH L μ S R) fun u h' => ∃ vk, h' = vec u 3 1 roots.length (ints (μ.minor roots).2) :: minSH { L with vk := vk } (μ.minor roots).1 S R := by
  have h1y := oy.us; have h2y := oy.fr; have h3y := oy.ws; have h1n := on.us; have h2n := on.fr; have h3n := on.ws
  unfold minSH
  refine ct_ofM (n := 141) Try.func86 rfl rfl (len rfl) fun hr w0 => ?_
  refine cd_seq (cd_region (st_bx rfl rfl fun b2 => ?_))
  refine st_v (v_assign rfl) (st_nil (nx_kp [1, 2, 4] rfl (nx_then (cd_seq (cd_region (st_v (v_move rfl) (st_cl rfl rfl en76 rfl (clone_ct hv hrl) ?_)))))))
  rintro u h' rfl
  simp only [List.cons_append, List.nil_append]
  refine st_v (v_assign rfl) (st_nil (nx_kp [2, 4, 5] rfl (nx_then (cd_seq (cd_drawh (ork [(0, 1), (1, 2), (2, 2), (3, 1), (4, 2), (5, 2), (6, 2), (7, 1), (8, 1), (9, 2), (10, 2), (11, 1), (12, 2), (13, 2), (14, 2), (15, 1), (16, 2), (17, 2)] .nil) (fun _ => true) mixed (by kernel_rfl) ?_)))))
  refine dr_v rfl (v_ld rfl ld27) ?_
  refine dp_v rfl (v_nilCheck rfl) (dp_v rfl (v_fieldAddr rfl fa100_2 rfl) (dr_v rfl (v_ld rfl ld95) ?_))
  refine dp_v rfl (v_nilCheck rfl) (dp_v rfl (v_fieldAddr rfl fa117_0 rfl) (dp_v rfl (v_fieldAddr rfl fa115_1 rfl) (dr_v rfl (v_ld rfl ld3) ?_)))
  refine dr_v rfl (v_ld rfl ld27) ?_
  refine dp_v rfl (v_nilCheck rfl) (dp_v rfl (v_fieldAddr rfl fa100_2 rfl) (dr_v rfl (v_ld rfl ld95) ?_))
  refine dp_v rfl (v_nilCheck rfl) (dp_v rfl (v_fieldAddr rfl fa117_0 rfl) (dp_v rfl (v_fieldAddr rfl fa115_2 rfl) (dr_v rfl (v_ld rfl ld3) ?_)))
  refine dp_v rfl (v_add rfl rfl (by unfold I64 at *; omega)) (dp_v rfl (v_assign rfl) (dr_nil (nx_kp [2, 4, 5, 6] rfl (nx_then (cd_seq (cd_region (st_v (v_ld rfl ld27) ?_)))))))
  refine st_v (v_nilCheck rfl) (st_v (v_fieldAddr rfl fa100_7 rfl) (st_v (v_ld rfl ld97) ?_))
  refine st_v (v_assign rfl) (st_nil (nx_kp [2, 4, 5, 6, 7] rfl (nx_then (cd_seq (cd_region (st_v (v_ld rfl ld27) ?_))))))
  refine st_makeMap (ltn rfl) fun mp => ?_
  refine st_v (v_nilCheck rfl) (st_v (v_fieldAddr rfl fa100_7 rfl) (st_sto rfl rfl sz97 ?_))
  refine st_nil (nx_kp [2, 4, 5, 6, 7] rfl (nx_then (cd_seq (cd_seq (cd_vform (v := u) (E := 3) (sz := 1) (n := roots.length) (l := ints roots) (by repeat (first | exact Sel.here | apply Sel.there)) fun huf => ?_)))))
  obtain ⟨ua, ucp, hus⟩ : ∃ a cp, u = .slice a roots.length cp := by
    rcases huf with ⟨h1, h2, _⟩ | ⟨b, cp, h1⟩
    · exact ⟨none, 0, by rw [h1, h2]⟩
    · exact ⟨_, cp, h1⟩
  refine cd_region (st_v (v_move rfl) (st_v (v_len (congrArg some hus) Try.underlying34) (st_v (v_move rfl) (st_nil (nx_kp [2, 4, 5, 6, 7, 41, 42] rfl (nx_then (cd_block (cd_loop (σ := Nat × Mem × List Int) (fun q => [(2, .pointer (some ⟨b2, 0, none⟩)), (5, u), (6, .int .i64 ((μ.n.fr : Int) + (μ.n.us : Int))), (7, .map (some L.mvb)), (41, .int .i64 roots.length), (42, .int .i64 (q.1 : Nat))]) (fun q => (fwSHY { L with mvb := mp } q.2.1 S ++ (vec u 3 1 roots.length (ints q.2.2) :: pt b2 (cl [.pointer (some ⟨L.mb, 0, none⟩)] 27) :: mpr L.mvb (mvv μ.mv) :: knR L μ :: R :: hr))) (fun q => q.1 ≤ roots.length ∧ q.2.2.length = roots.length ∧ YPre μ q.2.1 μ.sh ∧ Mem.fwdRowOk false (roots.length - q.1) q.1 q.2.1 q.2.2 ∧ Mem.fwdRow false (roots.length - q.1) q.1 q.2.1 q.2.2 = μ.minor1 roots) (fun q => roots.length - q.1) (0, { μ with mv := [] }, roots) ⟨Nat.zero_le _, rfl, ⟨rfl, on, rfl, hle, rfl, rfl, rfl⟩, hok1, rfl⟩ ⟨rfl, rfl, rfl, rfl, rfl, rfl, trivial⟩ (by unfold fwSHY; exact (by repeat (first | exact Sub.refl _ | exact Sub.nil _ | refine Sub.sel (by repeat (first | exact Sel.here | apply Sel.there)) ?_ | apply Sub.cons))) ?_))))))))
  rintro ⟨i, ν, l⟩ ⟨hi, hll, hY, hok, hrun⟩
  dsimp only at hi hll hY hok hrun ⊢
  unfold fwSHY
  simp only [List.cons_append, List.nil_append]
  refine cd_seq (cd_region (st_v (v_lss rfl rfl) (st_nil (nx_then (cd_seq (cd_cond rfl (fun hc => ?_) (fun hc => ?_)))))))
  · skip
    have hlt : i < roots.length := by simpa using hc
    have hil : i < l.length := by omega
    rw [show roots.length - i = (roots.length - (i + 1)) + 1 by omega] at hok hrun
    obtain ⟨hrm, hok'⟩ := hok
    refine cd_open (v := u) (E := 3) (sz := 1) (n := roots.length) (l := ints l) (by repeat (first | exact Sel.here | apply Sel.there)) (fun _ h0 _ => by omega) fun rb rcp rj ho => ?_
    refine cd_skip (xt_then (cd_seq (cd_block (cd_seq (cd_region (st_v (v_move rfl) (st_v (v_assign rfl) (st_nil (nx_kp [2, 5, 6, 7, 8, 41, 42] rfl (nx_then (cd_drawh (ork [(0, 1), (1, 1), (2, 2), (3, 2), (4, 1), (5, 2), (6, 2), (7, 2), (8, 0)] .nil) (fun i => !(Nat.beq i 8)) mixed (by kernel_rfl) ?_)))))))))))
    refine dr_v rfl (v_ld rfl ld27) ?_
    refine dr_v rfl (v_ld rfl ld27) ?_
    refine dp_v rfl (v_nilCheck rfl) (dp_v rfl (v_fieldAddr rfl fa100_1 rfl) (dr_v rfl (v_ld rfl ld95) ?_))
    refine dp_v rfl (v_move rfl) (dp_v rfl (v_move rfl) (dp_v rfl (v_idx i (congrArg some ho.1) rfl sl34 rfl hlt) ?_))
    have hls : (ints l ++ rj)[i]? = some (.int .i64 (l.getD i 0)) := by
      rw [List.getElem?_append_left (by rw [ints_length]; exact hil), getD_lt hil]; simp [ints, hil]
    have hYf := hY.fwd oy py hrm
    refine dr_eff rfl (st_cl rfl rfl en81 rfl (fwdY_ct (L := { L with mvb := mp }) (μ := ν) (S := S) (t := l.getD i 0) (b := rb) (off := i) (T := 3) hls (by rw [hY.y]; exact oy) hY.n (by rw [hY.sh]; exact hS) (by rw [hY.sh]; exact hl) (by rw [hY.y, hY.sh]; exact py) hY.le (fun h1 h2 => (hrm h1 h2).1)) ?_)
    rintro v' h' ⟨rfl, rfl⟩
    unfold fwSHY
    simp only [List.cons_append, List.nil_append]
    rw [set_ints hil]
    refine dr_nx ?_
    refine dr_nil (nx_kp [2, 5, 6, 7, 41, 42] rfl (nx_xt (xt_normal_block (xt_then (cd_region (st_v (v_add rfl rfl (by unfold I64 at *; omega)) (st_v (v_move rfl) (st_nil (nx_kp [2, 5, 6, 7, 41, 42] rfl (nx_xt (xt_shut (E := 3) (l' := ints (l.set i (ν.fwd ν.y false (l.getD i 0)).1)) ho (by simp [ints]) (by repeat (first | exact Sel.here | apply Sel.there)) ?_)))))))))))
    refine xt_again (i + 1, (ν.fwd ν.y false (l.getD i 0)).2, l.set i (ν.fwd ν.y false (l.getD i 0)).1) ⟨hlt, by simp [hll], hYf, hok', hrun⟩ (by show _ - _ < _ - _; omega) ⟨rfl, rfl, rfl, rfl, rfl, rfl, trivial⟩ (by repeat (first | exact Sub.refl _ | exact Sub.nil _ | refine Sub.sel (by repeat (first | exact Sel.here | apply Sel.there)) ?_ | apply Sub.cons))
  · skip
    refine cd_vecshape (v := L.vk) (by unfold knR; repeat (first | exact Sel.here | apply Sel.there)) fun ka kcp hkv hka => ?_
    refine cd_exit (xt_exit_then (xt_exit_then (xt_exit_block (xt_then (cd_seq (cd_seq (cd_region (st_v (v_ld rfl ld27) ?_))))))))
    refine st_v (v_nilCheck rfl) (st_v (v_fieldAddr rfl fa100_4 rfl) (st_v (v_ld rfl ld98) ?_))
    refine st_v (v_len (congrArg some hkv) Try.underlying98) (st_v (v_move rfl) (st_nil (nx_kp [2, 5, 6, 7, 58, 59, 60] rfl (nx_then (cd_block ?_)))))
    have hm1 : μ.minor1 roots = (ν, l) := by
      have h0 : roots.length ≤ i := by simpa using hc
      rw [← hrun, show roots.length - i = 0 by omega]; rfl
    rw [hm1] at hok2
    have hkl2 : μ.kidxs.length = μ.kn.length := by simp [Mem.kidxs]
    refine cd_loop (σ := Nat × Mem) (fun q => [(2, .pointer (some ⟨b2, 0, none⟩)), (5, u), (6, .int .i64 ((μ.n.fr : Int) + (μ.n.us : Int))), (7, .map (some L.mvb)), (58, L.vk), (59, .int .i64 μ.kn.length), (60, .int .i64 (q.1 : Nat))]) (fun q => (fwSHY { L with mvb := mp } q.2 S ++ (vec u 3 1 roots.length (ints l) :: pt b2 (cl [.pointer (some ⟨L.mb, 0, none⟩)] 27) :: mpr L.mvb (mvv μ.mv) :: knR L μ :: R :: hr))) (fun q => q.1 ≤ μ.kn.length ∧ YPre μ q.2 μ.sh ∧ Mem.fwdNsOk false (μ.kidxs.drop q.1) q.2 ∧ Mem.fwdNs false (μ.kidxs.drop q.1) q.2 = Mem.fwdNs false μ.kidxs (μ.minor1 roots).1) (fun q => μ.kn.length - q.1) (0, ν) ⟨Nat.zero_le _, hY, hok2, by rw [hm1]; rfl⟩ ⟨rfl, rfl, rfl, rfl, rfl, rfl, rfl, trivial⟩ (by unfold fwSHY; exact (by repeat (first | exact Sub.refl _ | exact Sub.nil _ | refine Sub.sel (by repeat (first | exact Sel.here | apply Sel.there)) ?_ | apply Sub.cons))) ?_
    rintro ⟨i2, ξ⟩ ⟨hi2, hX, hxok, hxrun⟩
    dsimp only at hi2 hX hxok hxrun ⊢
    unfold fwSHY
    simp only [List.cons_append, List.nil_append]
    refine cd_seq (cd_region (st_v (v_lss rfl rfl) (st_nil (nx_then (cd_seq (cd_cond rfl (fun hc2 => ?_) (fun hc2 => ?_)))))))
    · skip
      have hlt : i2 < μ.kn.length := by simpa using hc2
      obtain ⟨kb, rfl⟩ := hka (by omega)
      have hp : μ.kn[i2]? = some μ.kn[i2] := List.getElem?_eq_getElem hlt
      have hkk := hkn μ.kn[i2] (List.getElem_mem hlt)
      have hdr : μ.kidxs.drop i2 = (μ.kn[i2].1 + 1 + μ.kn[i2].2 - (μ.n.fr : Int)).toNat :: μ.kidxs.drop (i2 + 1) := by
        rw [List.drop_eq_getElem_cons (by omega)]; simp [Mem.kidxs]
      rw [hdr] at hxok hxrun
      obtain ⟨hrm, hxok'⟩ := hxok
      have hXf := hX.fwdAt oy py hrm
      have hfrx := hX.fr
      have hlnx := hX.len
      refine cd_skip (xt_then (cd_seq (cd_block (cd_seq (cd_region (st_v (v_indexAddr (congrArg some hkv) rfl sl98 rfl hlt (Nat.zero_add _)) (st_v (v_loadR (r := knR L μ) rfl ld131 rfl (by repeat (first | exact Sel.here | apply Sel.there)) (kn_rds hkv hp)) ?_)))))))
      refine st_alc al131 fun b10 => ?_
      refine st_stoW rfl rfl sz131 rfl rfl ?_
      refine st_nil (nx_kp [2, 5, 6, 7, 10, 58, 59, 60] rfl (nx_then (cd_drawh (ork [(0, 1), (1, 1), (2, 2), (3, 2), (4, 1), (5, 1), (6, 2), (7, 2), (8, 1), (9, 2), (10, 2), (11, 2), (12, 1), (13, 2), (14, 2), (15, 1), (16, 2), (17, 1), (18, 0)] .nil) (fun i => !(Nat.beq i 18)) mixed (by kernel_rfl) ?_)))
      refine dr_v rfl (v_ld rfl ld27) ?_
      refine dr_v rfl (v_ld rfl ld27) ?_
      refine dp_v rfl (v_nilCheck rfl) (dp_v rfl (v_fieldAddr rfl fa100_1 rfl) (dr_v rfl (v_ld rfl ld95) ?_))
      refine dr_v rfl (v_ld rfl ld27) ?_
      refine dp_v rfl (v_nilCheck rfl) (dp_v rfl (v_fieldAddr rfl fa100_2 rfl) (dr_v rfl (v_ld rfl ld95) ?_))
      refine dp_v rfl (v_nilCheck rfl) (dp_v rfl (v_fieldAddr rfl fa117_0 rfl) (dp_v rfl (v_fieldAddr rfl fa131_0 rfl) (dr_v rfl (v_ld rfl ld3) ?_)))
      refine dp_v rfl (v_add rfl rfl (by unfold I64 at *; omega)) (dp_v rfl (v_fieldAddr rfl fa131_1 rfl) (dr_v rfl (v_ld rfl ld3) ?_))
      refine dp_v rfl (v_add rfl rfl (by unfold I64 at *; omega)) (dr_clr rfl rfl rfl en61 rfl (word_ct (l := L.n) (s := ξ.n) hX.n (by omega) (by omega)) ?_)
      rw [hfrx]
      refine dr_eff rfl (st_cl rfl rfl en81 rfl (fwdYn_ct (L := { L with mvb := mp }) (μ := ξ) (S := S) (t := ξ.n.ws.getD (μ.kn[i2].1 + 1 + μ.kn[i2].2 - (μ.n.fr : Int)).toNat 0) (off := (μ.kn[i2].1 + 1 + μ.kn[i2].2 - (μ.n.fr : Int)).toNat) (by omega) rfl (by rw [hX.y]; exact oy) hX.n (by rw [hX.sh]; exact hS) (by rw [hX.sh]; exact hl) (by rw [hX.y, hX.sh]; exact py) hX.le (fun h1 h2 => (hrm h1 h2).1)) ?_)
      rintro v' h' ⟨rfl, rfl⟩
      unfold fwSHY
      simp only [List.cons_append, List.nil_append]
      refine dr_nx ?_
      refine dr_nil (nx_kp [2, 5, 6, 7, 58, 59, 60] rfl (nx_xt (xt_normal_block (xt_then (cd_region (st_v (v_add rfl rfl (by unfold I64 at *; omega)) (st_v (v_move rfl) (st_nil (nx_kp [2, 5, 6, 7, 58, 59, 60] rfl (nx_xt (xt_again (i2 + 1, ξ.fwdAt false (μ.kn[i2].1 + 1 + μ.kn[i2].2 - (μ.n.fr : Int)).toNat) ⟨hlt, hXf, hxok', hxrun⟩ (by show _ - _ < _ - _; omega) ⟨rfl, rfl, rfl, rfl, rfl, rfl, rfl, trivial⟩ (by repeat (first | exact Sub.refl _ | exact Sub.nil _ | refine Sub.sel (by repeat (first | exact Sel.here | apply Sel.there)) ?_ | apply Sub.cons)))))))))))))
    · skip
      refine cd_exit (xt_exit_then (xt_exit_then (xt_exit_block (xt_then (cd_seq (cd_block ?_))))))
      have hx1 : ξ = Mem.fwdNs false μ.kidxs (μ.minor1 roots).1 := by
        have h0 : μ.kn.length ≤ i2 := by simpa using hc2
        rw [← hxrun, List.drop_of_length_le (by omega)]; rfl
      rw [← hx1] at hok3
      refine cd_marks0 (cd_loopD (σ := Nat × Nat × Mem × List Nat) (fun q => q.2.2.2.map mk) (fun q => [(2, .pointer (some ⟨b2, 0, none⟩)), (5, u), (6, .int .i64 ((μ.n.fr : Int) + (q.2.1 : Nat))), (7, .map (some L.mvb))]) (fun q => (Res.star (marks q.2.2.2) :: (fwSHY { L with mvb := mp } q.2.2.1 S ++ (vec u 3 1 roots.length (ints l) :: pt b2 (cl [.pointer (some ⟨L.mb, 0, none⟩)] 27) :: mpr L.mvb (mvv μ.mv) :: knR L μ :: R :: hr)))) (fun q => YPre μ q.2.2.1 μ.sh ∧ Mem.lookOk (μ.n.ws.length - q.1) q.2.1 q.2.2.1 ∧ Mem.look (μ.n.ws.length - q.1) q.2.1 q.2.2.1 = Mem.look μ.n.ws.length μ.n.us ξ ∧ q.1 ≤ q.2.1 ∧ q.2.1 ≤ 1000200) (fun q => μ.n.ws.length - q.1) (0, μ.n.us, ξ, []) ⟨hX, hok3, rfl, Nat.zero_le _, by dsimp only; omega⟩ rfl ⟨rfl, rfl, rfl, rfl, trivial⟩ (by unfold fwSHY; exact (by repeat (first | exact Sub.refl _ | exact Sub.nil _ | refine Sub.sel (by repeat (first | exact Sel.here | apply Sel.there)) ?_ | apply Sub.cons))) ?_)
      rintro ⟨cc, a, ζ, bs⟩ ⟨hZ, hzok, hzrun, hca, hab⟩
      dsimp only at hZ hzok hzrun hca hab ⊢
      have hzn := hZ.n.us; have hzf := hZ.fr; have hzl := hZ.len
      unfold fwSHY
      simp only [List.cons_append, List.nil_append]
      refine cd_seq (cd_seq (cd_drawh (ork [(0, 2), (1, 1), (2, 2), (3, 2), (4, 1), (5, 2), (6, 2), (7, 2), (8, 1), (9, 1), (10, 2), (11, 2), (12, 1), (13, 2), (14, 2), (15, 2), (16, 1), (17, 2), (18, 2)] .nil) (fun _ => true) mixed (by kernel_rfl) ?_))
      refine dp_v rfl (v_move rfl) (dr_v rfl (v_ld rfl ld27) ?_)
      refine dp_v rfl (v_nilCheck rfl) (dp_v rfl (v_fieldAddr rfl fa100_2 rfl) (dr_v rfl (v_ld rfl ld95) ?_))
      refine dp_v rfl (v_nilCheck rfl) (dp_v rfl (v_fieldAddr rfl fa117_0 rfl) (dp_v rfl (v_fieldAddr rfl fa115_1 rfl) (dr_v rfl (v_ld rfl ld3) ?_)))
      refine dr_v rfl (v_ld rfl ld27) ?_
      refine dp_v rfl (v_nilCheck rfl) (dp_v rfl (v_fieldAddr rfl fa100_2 rfl) (dr_v rfl (v_ld rfl ld95) ?_))
      refine dp_v rfl (v_nilCheck rfl) (dp_v rfl (v_fieldAddr rfl fa117_0 rfl) (dp_v rfl (v_fieldAddr rfl fa115_2 rfl) (dr_v rfl (v_ld rfl ld3) ?_)))
      refine dp_v rfl (v_add rfl rfl (by unfold I64 at *; omega)) (dp_v rfl (v_lss rfl rfl) (dr_nil (nx_kp [2, 5, 6, 7, 102] rfl (nx_then (cd_cond rfl (fun hc3 => ?_) (fun hc3 => ?_))))))
      · skip
        have hlt : a < ζ.n.us := by simp at hc3; omega
        refine cd_skip (xt_then (cd_seq (cd_block (cd_seq (cd_drawh (ork [(0, 1), (1, 1), (2, 2), (3, 2), (4, 1), (5, 2), (6, 0)] .nil) (fun i => !(Nat.beq i 6)) mixed (by kernel_rfl) ?_)))))
        refine dr_v rfl (v_ld rfl ld27) ?_
        refine dr_v rfl (v_ld rfl ld27) ?_
        refine dp_v rfl (v_nilCheck rfl) (dp_v rfl (v_fieldAddr rfl fa100_2 rfl) (dr_v rfl (v_ld rfl ld95) ?_))
        refine dp_v rfl (v_move rfl) ?_
        rw [show μ.n.ws.length - cc = (μ.n.ws.length - (cc + 1)) + 1 by omega] at hzok hzrun
        obtain ⟨⟨hx0, hx1', hxf⟩, hno, ⟨hy0, hy1⟩, hzok'⟩ := hzok hlt
        have hzrun' : Mem.look (μ.n.ws.length - (cc + 1)) (a + 1 + ((ζ.look1 a).nrow a).length) (ζ.look1 a) = Mem.look μ.n.ws.length μ.n.us ξ := by
          rw [← hzrun]
          show _ = if a < ζ.n.us then _ else _
          rw [if_pos hlt]
        have hwd : ∀ χ : Mem, χ.n.fr = μ.n.fr → χ.n.wd ((μ.n.fr : Int) + (a : Nat)) = χ.n.ws.getD a 0 := fun χ hχ => by
          unfold Sp.wd; rw [hχ, show ((μ.n.fr : Int) + (a : Nat) - (μ.n.fr : Int)).toNat = a by omega]
        refine dr_eff rfl (st_cl rfl rfl en70 rfl (refs_ct (mp := .pointer (some ⟨L.mb, 0, none⟩)) (sp := .pointer (some ⟨L.n.sb, 0, none⟩)) (t := (μ.n.fr : Int) + (a : Nat)) rfl rfl) ?_)
        rintro v' h' ⟨c1, c2, c3, rfl, rfl⟩
        simp only [List.cons_append, List.nil_append]
        refine dr_nx ?_
        refine dr_nil (nx_kp [2, 5, 6, 7, 118] rfl (nx_then (cd_block (cd_range' rfl en108 fun yl db rec hst hpe hps has hbo hkn2 => ?_))))
        refine ⟨_, Ct.perm (refs1_ct (σ := Mem) (L := { L with mvb := mp }) (S := S) (sh := μ.sh) (l := L.n) (b1 := c1) (b2 := c2) (b3 := c3) (yl := yl) (fr := μ.n.fr) (ln := μ.n.ws.length) (t := (μ.n.fr : Int) + (a : Nat)) (row := ζ.nrow a) (fun χ => χ) (fun χ => χ.n)
          (fun χ => pt yl (.loop rec) :: pt db (.deferred (some [])) :: Res.star (marks bs) :: sb L.y χ.y :: wb L.y χ.y :: tb L.y χ.y :: tb L.n χ.n :: mpr mp (mvv χ.mv) :: sb L.o χ.o :: vec u 3 1 roots.length (ints l) :: pt b2 (cl [.pointer (some ⟨L.mb, 0, none⟩)] 27) :: mpr L.mvb (mvv μ.mv) :: knR L μ :: R :: hr)
          (fun j χ => YPre μ χ μ.sh ∧ Mem.fwdNsOk false (refIdx a j ((ζ.nrow a).drop j)) χ ∧ Mem.fwdNs false (refIdx a j ((ζ.nrow a).drop j)) χ = ζ.look1 a) (fun _ => False) ζ ⟨hZ, hno, rfl⟩ hS hl (by rw [hwd ζ hzf]; exact hx0) (by rw [hwd ζ hzf, ← hZ.sh]; exact hx1') (by rw [hwd ζ hzf]; unfold Mem.nrow; rw [hZ.sh]) (fun _ χ hχ => ⟨hχ.1.n, hχ.1.fr, hχ.1.len⟩) (by omega) (by omega) ?_ ?_) ?_, ?_⟩
        · rintro j χ hj hrow ⟨hχ, hχok, hχrun⟩
          rw [List.drop_eq_getElem_cons hj] at hχok hχrun
          unfold refIdx at hχok hχrun
          rw [hrow, if_pos rfl] at hχok hχrun
          obtain ⟨hrm, hχok'⟩ := hχok
          have hcf := hχ.fr; have hcl := hχ.len
          have hF := hχ.fwdAt oy py hrm
          have hix : ((μ.n.fr : Int) + (a : Nat) + 1 + (j : Nat) - χ.n.fr).toNat = a + 1 + j := by omega
          rw [hix]
          refine Yc.perm (yc_of (n := 141) (rec := rec) (args := [.int .i64 j, .pointer (some ⟨L.n.wb, a + 1 + j, none⟩)])
            (hf := pt c1 (cl [.pointer (some ⟨L.mb, 0, none⟩)] 27) :: pt c2 (cl [.pointer (some ⟨L.n.sb, 0, none⟩)] 95) :: pt c3 (cl [.int .i64 ((μ.n.fr : Int) + (a : Nat))] 3) :: mb { L with mvb := mp } χ :: sb L.n χ.n :: wb L.n χ.n :: S :: pt db (.deferred (some [])) :: Res.star (marks bs) :: sb L.y χ.y :: wb L.y χ.y :: tb L.y χ.y :: tb L.n χ.n :: mpr mp (mvv χ.mv) :: sb L.o χ.o :: vec u 3 1 roots.length (ints l) :: pt b2 (cl [.pointer (some ⟨L.mb, 0, none⟩)] 27) :: mpr L.mvb (mvv μ.mv) :: knR L μ :: R :: hr) (by rw [hps]; rfl) hkn2 (by rw [hps]; decide) ?_) ?_
          · intro hr2 w1
            rw [has, hps, hbo]
            simp only [List.cons_append, List.nil_append]
            refine cd_region (st_v (v_assign rfl) (st_nil (nx_kp [2, 12] rfl (nx_xt (xt_mid rfl (by repeat (first | exact Sel.here | apply Sel.there)) (by first | rfl | assumption) ?_)))))
            refine cd_block (cd_drawh (ork [(0, 1), (1, 1), (2, 2), (3, 2), (4, 1), (5, 2), (6, 0)] .nil) (fun i => !(Nat.beq i 6)) mixed (by kernel_rfl) ?_)
            refine dr_v rfl (v_ld rfl ld27) ?_
            refine dr_v rfl (v_ld rfl ld27) ?_
            refine dp_v rfl (v_nilCheck rfl) (dp_v rfl (v_fieldAddr rfl fa100_1 rfl) (dr_v rfl (v_ld rfl ld95) ?_))
            refine dp_v rfl (v_move rfl) (dr_eff rfl (st_cl rfl rfl en81 rfl (fwdYn_ct (L := { L with mvb := mp }) (μ := χ) (S := S) (t := χ.n.ws.getD (a + 1 + j) 0) (off := a + 1 + j) (by omega) rfl (by rw [hχ.y]; exact oy) hχ.n (by rw [hχ.sh]; exact hS) (by rw [hχ.sh]; exact hl) (by rw [hχ.y, hχ.sh]; exact py) hχ.le (fun h1 h2 => (hrm h1 h2).1)) ?_))
            rintro v' h' ⟨rfl, rfl⟩
            unfold fwSHY
            simp only [List.cons_append, List.nil_append]
            refine dr_nx ?_
            refine dr_nil (nx_kp [] rfl (nx_xt (xt_normal_block (xt_round (by repeat (first | exact Sel.here | apply Sel.there)) ⟨χ.fwdAt false (a + 1 + j), rfl, .inl ⟨rfl, hF, hχok', hχrun⟩⟩ ?_))))
            rw [rec_back hst hpe]
            unfold refH
            dsimp only
            exact (by repeat (first | exact Sub.refl _ | exact Sub.nil _ | refine Sub.sel (by repeat (first | exact Sel.here | apply Sel.there)) ?_ | apply Sub.cons))
          · unfold refH
            exact (by repeat (first | exact Pm.refl | refine Pm.cons (by repeat (first | exact Sel.here | apply Sel.there)) ?_) : Pm _ _).perm
        · rintro j χ hj hrow ⟨hχ, hχok, hχrun⟩
          rw [List.drop_eq_getElem_cons hj] at hχok hχrun
          unfold refIdx at hχok hχrun
          rw [hrow] at hχok hχrun
          exact ⟨hχ, hχok, hχrun⟩
        · unfold refH
          exact (by repeat (first | exact Pm.refl | refine Pm.cons (by repeat (first | exact Sel.here | apply Sel.there)) ?_) : Pm _ _).perm
        · rintro v' h' ⟨rfl, χ, rfl, (⟨hχ, hχok, hχrun⟩ | hf)⟩
          · have hχe : χ = ζ.look1 a := by rw [← hχrun, List.drop_of_length_le (Nat.le_refl _)]; rfl
            rw [← hχe] at hy0 hy1 hzok' hzrun'
            have hcf := hχ.fr; have hcl := hχ.len; have hcw := hwd χ hcf
            have hnl : ((χ.nrow a).length : Int) ≤ 100 := by
              have := hl.at (χ.n.ws.getD a 0); unfold Mem.nrow; rw [hχ.sh]; omega
            have hrowe : shAt χ.sh (χ.n.wd ((μ.n.fr : Int) + (a : Nat))) = χ.nrow a := by rw [hcw]; rfl
            refine ⟨rec, _, (by unfold refH; repeat (first | exact Sel.here | apply Sel.there)), (by rw [hst]; simp), ?_⟩
            rw [hpe]
            dsimp only
            refine xt_mark (by repeat (first | exact Sel.here | apply Sel.there)) (by repeat (first | exact Sel.here | apply Sel.there)) ?_
            refine xt_normal_block (xt_normal_block (xt_then (cd_drawh (ork [(0, 2), (1, 1), (2, 1), (3, 2), (4, 2), (5, 1), (6, 2), (7, 1), (8, 2), (9, 2)] .nil) (fun _ => true) mixed (by kernel_rfl) ?_)))
            refine dp_v rfl (v_move rfl) (dr_v rfl (v_ld rfl ld27) ?_)
            refine dr_v rfl (v_ld rfl ld27) ?_
            refine dp_v rfl (v_nilCheck rfl) (dp_v rfl (v_fieldAddr rfl fa100_2 rfl) (dr_v rfl (v_ld rfl ld95) ?_))
            refine dp_v rfl (v_move rfl) (dr_clr rfl rfl rfl en112 rfl (size_ct (L := { L with mvb := mp }) (μ := χ) (S := S) (l := L.n) (s := χ.n) (t := (μ.n.fr : Int) + (a : Nat)) hχ.n (by omega) (by omega) (by rw [hχ.sh]; exact hS) (by rw [hχ.sh]; exact hl) (by rw [hcw]; exact hy0) (by rw [hcw, hχ.sh, ← hZ.sh]; exact hy1)) ?_)
            rw [hrowe]
            refine dp_v rfl (v_add rfl rfl (by unfold I64 at *; omega)) (dp_v rfl (v_assign rfl) (dr_nil (nx_kp [2, 5, 6, 7] rfl (nx_xt ?_))))
            rw [show (μ.n.fr : Int) + (a : Nat) + (1 + ((χ.nrow a).length : Int)) = (μ.n.fr : Int) + ((a + 1 + (χ.nrow a).length : Nat) : Int) by omega]
            refine xt_againD (cc + 1, a + 1 + (χ.nrow a).length, χ, db :: bs) ⟨hχ, hzok', hzrun', by dsimp only; omega, by dsimp only; omega⟩ (by show _ - _ < _ - _; omega) rfl ⟨rfl, rfl, rfl, rfl, trivial⟩ ?_
            dsimp only
            exact (by repeat (first | exact Sub.refl _ | exact Sub.nil _ | refine Sub.sel (by repeat (first | exact Sel.here | apply Sel.there)) ?_ | apply Sub.cons))
          · exact hf.elim
      · skip
        refine cd_exit (xt_exit_then (xt_exit_then (xt_exit_block (xt_then (cd_seq (cd_region (st_v (v_ld rfl ld27) ?_)))))))
        refine st_v (v_move rfl) (st_v (v_nilCheck rfl) (st_v (v_fieldAddr rfl fa100_7 rfl) (st_sto rfl rfl sz97 ?_)))
        refine st_nil (nx_kp [2, 5] rfl (nx_then (cd_seq (cd_region (st_v (v_ld rfl ld27) ?_)))))
        refine st_v (v_nilCheck rfl) (st_v (v_fieldAddr rfl fa100_1 rfl) (st_v (v_ld rfl ld95) ?_))
        have hfin : Mem.look μ.n.ws.length μ.n.us ξ = ζ := by
          rw [← hzrun]
          cases hk : μ.n.ws.length - cc with
          | zero => rfl
          | succ k =>
            show (if a < ζ.n.us then _ else _) = _
            rw [if_neg (by simp at hc3; omega)]
        have hmin : μ.minor roots = ({ ζ with mv := μ.mv, y := ζ.y.empty, kn := [] }, l) := by
          show (({ Mem.look μ.n.ws.length μ.n.us (Mem.fwdNs false μ.kidxs (μ.minor1 roots).1) with mv := μ.mv, y := (Mem.look μ.n.ws.length μ.n.us (Mem.fwdNs false μ.kidxs (μ.minor1 roots).1)).y.empty, kn := [] } : Mem), (μ.minor1 roots).2) = _
          rw [← hx1, hfin, hm1]
        refine st_cl rfl rfl en82 rfl (empty_ct (l := L.y) (s := ζ.y) (by rw [hZ.y]; exact oy) (by rw [hZ.y]; exact hypos)) ?_
        rintro v' h' ⟨rfl, rfl⟩
        simp only [List.cons_append, List.nil_append]
        refine st_nil (nx_kp [2, 5] rfl (nx_then (cd_seq (cd_region (st_v (v_ld rfl ld27) ?_)))))
        refine st_v (v_nilCheck rfl) (st_v (v_fieldAddr rfl fa100_4 rfl) (st_sto rfl rfl sz98 ?_))
        refine st_nil (nx_kp [5] rfl (nx_then (cd_seq (cd_region (st_v (v_move rfl) (st_v (v_assign rfl) (st_nil (nx_kp [4] rfl (nx_then (cd_ret (xt_vecnil 131 2 (xt_retS (bs := bs) rfl rfl ⟨.slice none 0 0, rfl⟩ ?_))))))))))))
        rw [hmin]
        exact (by repeat (first | exact Sub.refl _ | exact Sub.nil _ | refine Sub.sel (by repeat (first | exact Sel.here | apply Sel.there)) ?_ | apply Sub.cons))
end Go.Proofs.Ytmhmpjgkkpbnnaa
namespace Go.Proofs.Ytmhmpjgkkpbnnaa
open Go.Ck Go.Hm Go.Hm.AM

/-- What a word holds in package heap. -/
def hw (word head : Int → Int) (t : Int) : Int := if 0 < head t then head t - 1 else word t
/-- A space of package heap is that region of the machine. -/
structure SpR (s : Sp) (word head : Int → Int) (lo used len : Int) : Prop where
  fr : (s.fr : Int) = lo
  us : (s.us : Int) = used
  ln : (s.ws.length : Int) = len
  st : s.st.length = s.ws.length
  le : s.us ≤ s.ws.length
  sts : ∀ i, i < s.st.length → s.st.getD i false = decide (0 < head (lo + i))
  wd : ∀ i, i < s.us → s.ws.getD i 0 = hw word head (lo + i)
theorem SpR.ok {s : Sp} {word head : Int → Int} {lo used len : Int} (h : SpR s word head lo used len) (h1 : lo ≤ 1000000) (h2 : len ≤ 1000000) : s.Ok :=
  ⟨h.st, h.le, by have := h.fr; omega, by have := h.ln; omega⟩
theorem SpR.begins {s : Sp} {word head : Int → Int} {lo used len : Int} (h : SpR s word head lo used len) (hz : ∀ t, lo + used ≤ t → t < lo + len → head t ≤ 0) (t : Int) :
    s.begins t = ((decide (lo ≤ t) && decide (t ≤ lo + len - 1)) && decide (0 < head t)) := by
  have h1 := h.fr; have h2 := h.us; have h3 := h.ln; have h4 := h.le; have h5 := h.st
  unfold Sp.begins Sp.has
  by_cases hlo : lo ≤ t
  · by_cases hhi : t < lo + used
    · have hs := h.sts (t - s.fr).toNat (by omega)
      rw [hs, show lo + ((t - s.fr).toNat : Int) = t by omega]
      have e1 : decide ((s.fr : Int) ≤ t) = true := by simp; omega
      have e2 : decide (t < (s.fr : Int) + s.us) = true := by simp; omega
      have e3 : decide (lo ≤ t) = true := by simp; omega
      have e4 : decide (t ≤ lo + len - 1) = true := by simp; omega
      rw [e1, e2, e3, e4]
    · have e2 : decide (t < (s.fr : Int) + s.us) = false := by simp; omega
      rw [e2]
      by_cases hl : t < lo + len
      · have := hz t (by omega) hl
        have e5 : decide (0 < head t) = false := by simp; omega
        rw [e5]; simp
      · have e4 : decide (t ≤ lo + len - 1) = false := by simp; omega
        rw [e4]; simp
  · have e1 : decide ((s.fr : Int) ≤ t) = false := by simp; omega
    have e3 : decide (lo ≤ t) = false := by simp; omega
    rw [e1, e3]; simp
/-- The memory is the machine; its map of new addresses is that of one region. -/
structure Rel (yb : Bool) (μ : Mem) (m : AM) : Prop where
  sh : μ.sh = m.sh
  y : SpR μ.y m.word m.head 1 (m.new - 1) m.Y
  n : SpR μ.n m.word m.head m.base (m.old - m.base) m.H
  o : ∃ u, SpR μ.o m.word m.head m.former u m.H ∧ ∀ t, m.former ≤ t → t < m.former + m.H → 0 < m.head t → t + m.size t ≤ m.former + u
  kn : μ.kn = m.rem
  bu : μ.bu = m.busy
  sc : μ.sc = m.scan
  mv : ∀ t, m.ours yb t = true → ml μ.mv t = if m.moved t = 0 then none else some (m.moved t)
  le : μ.le = m.left
  ob : m.busy = false → μ.o.us = 0
section
variable {y : Bool} {μ : Mem} {m : AM} {ly ln lf N rl rs : List Int} {sp a : Int} {φ : Int → Option Nat} {A : Store}
theorem Gd.yz (h : Gd m ly ln lf N rl sp rs) (t : Int) (h1 : 1 + (m.new - 1) ≤ t) (h2 : t < 1 + m.Y) : m.head t ≤ 0 := by
  have hn := h.newle
  by_cases hp : 0 < m.head t
  · have := h.ybd ((h.y.hd t (by omega) (by omega)).1 hp); omega
  · omega
theorem Gd.oz (h : Gd m ly ln lf N rl sp rs) (t : Int) (h1 : m.base + (m.old - m.base) ≤ t) (h2 : t < m.base + m.H) : m.head t ≤ 0 := by
  have hn := h.oldle
  by_cases hp : 0 < m.head t
  · have := h.obd ((h.o.hd t (by omega) (by omega)).1 hp); omega
  · omega
theorem Rel.by_ (r : Rel y μ m) (h : Gd m ly ln lf N rl sp rs) (t : Int) : μ.y.begins t = (m.isY t && decide (0 < m.head t)) := by
  rw [r.y.begins (Gd.yz h)]; unfold isY
  rw [show (1 : Int) + m.Y - 1 = m.Y by omega]
theorem Rel.bn (r : Rel y μ m) (h : Gd m ly ln lf N rl sp rs) (t : Int) : μ.n.begins t = (m.isO t && decide (0 < m.head t)) := by
  rw [r.n.begins (Gd.oz h)]; rfl
theorem Rel.bo (r : Rel y μ m) (t : Int) : μ.o.begins t = (m.isF t && decide (0 < m.head t)) := by
  obtain ⟨u, h1, h2⟩ := r.o
  have hu := h1.us
  rw [h1.begins fun t g1 g2 => by
    by_cases hp : 0 < m.head t
    · have := h2 t (by omega) g2 hp; have := m.size_pos t; omega
    · omega]
  rfl
theorem Rel.cur (r : Rel y μ m) (h : Gd m ly ln lf N rl sp rs) (t : Int) : μ.cur t = m.cur t := by
  unfold Mem.cur AM.cur
  rw [r.by_ h, r.bn h]
  cases m.isY t <;> cases m.isO t <;> simp
theorem Rel.oky (r : Rel y μ m) (h : Gd m ly ln lf N rl sp rs) : μ.y.Ok := r.y.ok (by omega) (by have := h.sz.Y1; omega)
theorem Rel.okn (r : Rel y μ m) (h : Gd m ly ln lf N rl sp rs) : μ.n.Ok := r.n.ok (by have := m.base_former; have := h.sz.Y1; have := h.sz.H1; omega) (by have := h.sz.H1; omega)
theorem Rel.oko (r : Rel y μ m) (h : Gd m ly ln lf N rl sp rs) : μ.o.Ok := by
  obtain ⟨u, h1, h2⟩ := r.o
  exact h1.ok (by have := m.base_former; have := h.sz.Y1; have := h.sz.H1; omega) (by have := h.sz.H1; omega)
theorem wd_of {s : Sp} {word head : Int → Int} {lo used len : Int} (h : SpR s word head lo used len) {t : Int} (h1 : lo ≤ t) (h2 : t < lo + used) : s.wd t = hw word head t := by
  have e1 := h.fr; have e2 := h.us
  unfold Sp.wd
  rw [h.wd (t - s.fr).toNat (by omega)]
  congr 1; omega
theorem hw_head {word head : Int → Int} {t : Int} (h : 0 < head t) : hw word head t = head t - 1 := if_pos h
theorem hw_word {word head : Int → Int} {t : Int} (h : head t = 0) : hw word head t = word t := if_neg (by omega)
theorem Rel.wdy (r : Rel y μ m) (h : Gd m ly ln lf N rl sp rs) {t : Int} (ht : t ∈ ly) : μ.y.wd t = m.head t - 1 := by
  have := h.ybd ht
  rw [wd_of r.y (by omega) (by omega), hw_head (h.yhead ht)]
theorem Rel.wdn (r : Rel y μ m) (h : Gd m ly ln lf N rl sp rs) {t : Int} (ht : t ∈ ln) : μ.n.wd t = m.head t - 1 := by
  have := h.obd ht
  rw [wd_of r.n (by omega) (by omega), hw_head (h.ohead ht)]
theorem Rel.wdo (r : Rel y μ m) (h : Gd m ly ln lf N rl sp rs) {t : Int} (ht : t ∈ lf) : μ.o.wd t = m.head t - 1 := by
  obtain ⟨u, h1, h2⟩ := r.o
  have := h.fbd ht
  have hh := h.fhead ht
  have hu : t < m.former + u := by have := h2 t (by omega) (by omega) hh; omega
  rw [wd_of h1 (by omega) hu, hw_head hh]
theorem shAt_row (r : Rel y μ m) (t : Int) : shAt μ.sh (m.head t - 1) = m.row t := by unfold shAt AM.row; rw [r.sh]
/-- Objects lie within what is taken, and have shapes. -/
theorem Rel.spy (r : Rel y μ m) (h : Gd m ly ln lf N rl sp rs) : SpOk μ.sh μ.y := fun t ht => by
  rw [r.by_ h, Bool.and_eq_true, decide_eq_true_eq] at ht
  have hm := (h.isY_iff ht.2).1 ht.1
  have hb := h.ybd hm
  have hok := h.y.ok t hm
  have e1 := r.y.fr; have e2 := r.y.us
  rw [r.wdy h hm, shAt_row r, r.sh]
  unfold AM.size at hb
  exact ⟨by omega, by omega, by omega⟩
theorem Rel.spn (r : Rel y μ m) (h : Gd m ly ln lf N rl sp rs) : SpOk μ.sh μ.n := fun t ht => by
  rw [r.bn h, Bool.and_eq_true, decide_eq_true_eq, isO_iff] at ht
  have hm := (h.o.hd t ht.1.1 ht.1.2).1 ht.2
  have hb := h.obd hm
  have hok := h.o.ok t hm
  have e1 := r.n.fr; have e2 := r.n.us
  rw [r.wdn h hm, shAt_row r, r.sh]
  unfold AM.size at hb
  exact ⟨by omega, by omega, by omega⟩
theorem Rel.spo (r : Rel y μ m) (h : Gd m ly ln lf N rl sp rs) : SpOk μ.sh μ.o := fun t ht => by
  rw [r.bo, Bool.and_eq_true, decide_eq_true_eq, isF_iff] at ht
  obtain ⟨fe, f1, f2⟩ := h.f
  have hm := (f2.hd t ht.1.1 ht.1.2).1 ht.2
  have hok := f2.ok t hm
  obtain ⟨u, o1, o2⟩ := r.o
  have := o2 t ht.1.1 (by omega) ht.2
  have e1 := o1.fr; have e2 := o1.us
  rw [r.wdo h hm, shAt_row r, r.sh]
  unfold AM.size at this
  exact ⟨by omega, by omega, by omega⟩
theorem ml_mu (l : List (Int × Int)) (k v x : Int) : ml (mu l k v) x = if x = k then some v else ml l x := by
  induction l with
  | nil =>
    unfold mu ml
    by_cases h : x = k
    · subst h; simp
    · simp [h, Ne.symm h]
  | cons p t ih =>
    unfold mu
    by_cases hp : p.1 = k
    · rw [if_pos hp]
      unfold ml
      by_cases h : x = k
      · subst h; simp
      · simp [h, Ne.symm h, hp]
    · rw [if_neg hp]
      unfold ml at ih ⊢
      by_cases h : x = k
      · subst h
        rw [if_pos rfl] at ih ⊢
        simp only [List.find?_cons]
        rw [show (p.1 == x) = false by simp [hp]]
        exact ih
      · rw [if_neg h] at ih ⊢
        simp only [List.find?_cons]
        cases hq : (p.1 == x) with
        | true => rfl
        | false => exact ih

/-- The source of what is moved. -/
theorem Rel.src (r : Rel y μ m) (h : Gd m ly ln lf N rl sp rs) (t : Int) : (μ.src (!y)).begins t = (m.ours y t && decide (0 < m.head t)) := by
  unfold Mem.src ours
  cases y with
  | true => exact r.by_ h t
  | false => exact r.bo t
theorem getD_spl (l : List Int) (o : Nat) (vs : List Int) (k : Nat) (h : o + vs.length ≤ l.length) : (spl l o vs).getD k 0 = if k < o then l.getD k 0 else if k < o + vs.length then vs.getD (k - o) 0 else l.getD k 0 := by
  simp only [List.getD_eq_getElem?_getD, spl_get l o vs k h]
  split
  · rfl
  · split <;> rfl
/-- An object is laid from words. -/
theorem SpR.move {s : Sp} {word head : Int → Int} {lo used len n : Int} (h : SpR s word head lo used len) {src : List Int} (hn : (src.length : Int) = n) (hn1 : 1 ≤ n) (hfit : used + n ≤ len) {word' head' : Int → Int}
    (hw1 : ∀ t, lo ≤ t → t < lo + used → word' t = word t) (hh1 : ∀ t, lo ≤ t → t < lo + len → t ≠ lo + used → head' t = head t) (hh2 : 0 < head' (lo + used)) (hz : ∀ t, lo + used ≤ t → t < lo + len → head t ≤ 0)
    (hsrc : ∀ j, j < src.length → src.getD j 0 = hw word' head' (lo + used + j)) : SpR (s.move src) word' head' lo (used + n) len := by
  have e1 := h.fr; have e2 := h.us; have e3 := h.ln; have e4 := h.le; have e5 := h.st
  have hl : (spl s.ws s.us src).length = s.ws.length := spl_length _ _ _ (by omega)
  refine ⟨e1, by show ((s.us + src.length : Nat) : Int) = _; omega, by show ((spl s.ws s.us src).length : Int) = _; rw [hl]; exact e3, by show (s.st.set s.us true).length = (spl s.ws s.us src).length; rw [List.length_set, hl]; exact e5, by show s.us + src.length ≤ (spl s.ws s.us src).length; rw [hl]; omega, fun i hi => ?_, fun i hi => ?_⟩
  · have hi' : i < s.st.length := by simpa [Sp.move] using hi
    show (s.st.set s.us true).getD i false = _
    by_cases hiu : i = s.us
    · subst hiu
      rw [show lo + (s.us : Int) = lo + used by omega]
      simp [List.getD_eq_getElem?_getD, hi', hh2]
    · rw [List.getD_eq_getElem?_getD, List.getElem?_set_ne (Ne.symm hiu), ← List.getD_eq_getElem?_getD, h.sts i hi', hh1 _ (by omega) (by omega) (by omega)]
  · have hi' : i < s.us + src.length := hi
    show (spl s.ws s.us src).getD i 0 = _
    rw [getD_spl _ _ _ _ (by omega)]
    by_cases h1 : i < s.us
    · rw [if_pos h1, h.wd i h1]
      unfold hw
      rw [hh1 _ (by omega) (by omega) (by omega), hw1 _ (by omega) (by omega)]
    · rw [if_neg h1, if_pos hi', hsrc _ (by omega)]
      congr 1; omega
theorem SpR.other {s : Sp} {word head word' head' : Int → Int} {lo used len : Int} (h : SpR s word head lo used len) (hw1 : ∀ t, lo ≤ t → t < lo + used → word' t = word t) (hh1 : ∀ t, lo ≤ t → t < lo + len → head' t = head t) : SpR s word' head' lo used len := by
  have e1 := h.fr; have e2 := h.us; have e3 := h.ln; have e4 := h.le; have e5 := h.st
  refine ⟨e1, e2, e3, e5, e4, fun i hi => ?_, fun i hi => ?_⟩
  · rw [h.sts i hi, hh1 _ (by omega) (by omega)]
  · rw [h.wd i hi]; unfold hw; rw [hh1 _ (by omega) (by omega), hw1 _ (by omega) (by omega)]
/-- The words of an object. -/
theorem SpR.obj {s : Sp} {word head : Int → Int} {lo used len : Int} (h : SpR s word head lo used len) {t : Int} {n : Nat} (h1 : lo ≤ t) (h2 : t + n ≤ lo + used) : (s.obj t n).length = n ∧ ∀ j, j < n → (s.obj t n).getD j 0 = hw word head (t + j) := by
  have e1 := h.fr; have e2 := h.us; have e4 := h.le
  have hl : (s.obj t n).length = n := obj_length (by omega)
  refine ⟨hl, fun j hj => ?_⟩
  have := h.wd ((t - s.fr).toNat + j) (by omega)
  unfold Sp.obj
  rw [List.getD_eq_getElem?_getD, List.getElem?_take, if_pos hj, List.getElem?_drop, ← List.getD_eq_getElem?_getD, this]
  congr 1; omega
end
end Go.Proofs.Ytmhmpjgkkpbnnaa
namespace Go.Proofs.Ytmhmpjgkkpbnnaa
open Go.Ck Go.Hm Go.Hm.AM
section
variable {y : Bool} {μ : Mem} {m : AM} {ly ln lf N rl rs : List Int} {sp a : Int} {φ : Int → Option Nat} {A : Store}
theorem Gd.innery (h : Gd m ly ln lf N rl sp rs) {t x : Int} (ht : t ∈ ly) (h1 : t < x) (h2 : x < t + m.size t) : m.head x = 0 := by
  have hn := h.hn x
  have := h.ybd ht; have := h.yl
  by_cases hp : 0 < m.head x
  · have hx := (h.y.hd x (by omega) (by omega)).1 hp
    have := h.y.tl.inside ht hx (by omega) h2
    omega
  · omega
theorem Gd.innerf (h : Gd m ly ln lf N rl sp rs) {t x : Int} (ht : t ∈ lf) (h1 : t < x) (h2 : x < t + m.size t) : m.head x = 0 := by
  have hn := h.hn x
  obtain ⟨fe, f1, f2⟩ := h.f
  have := h.fbd ht
  by_cases hp : 0 < m.head x
  · have hx := (f2.hd x (by omega) (by omega)).1 hp
    have := f2.tl.inside ht hx (by omega) h2
    omega
  · omega
/-- What the source holds of an object. -/
theorem Rel.srcobj (r : Rel y μ m) (h : Gd m ly ln lf N rl sp rs) {v : Int} (hv : if y then v ∈ N else v ∈ lf) :
    (μ.osz (μ.src (!y)) v : Int) = m.size v ∧ ((μ.src (!y)).obj v (μ.osz (μ.src (!y)) v)).length = μ.osz (μ.src (!y)) v ∧ ∀ j, j < μ.osz (μ.src (!y)) v → ((μ.src (!y)).obj v (μ.osz (μ.src (!y)) v)).getD j 0 = if j = 0 then m.head v - 1 else m.word (v + j) := by
  have hgen : ∀ (s : Sp) (lo used len : Int), SpR s m.word m.head lo used len → s.wd v = m.head v - 1 → lo ≤ v → v + m.size v ≤ lo + used → 0 < m.head v → (∀ x, v < x → x < v + m.size v → m.head x = 0) →
      (μ.osz s v : Int) = m.size v ∧ (s.obj v (μ.osz s v)).length = μ.osz s v ∧ ∀ j, j < μ.osz s v → (s.obj v (μ.osz s v)).getD j 0 = if j = 0 then m.head v - 1 else m.word (v + j) := by
    intro s lo used len hs hw h1 h2 hp hi
    have hz : (μ.osz s v : Int) = m.size v := by unfold Mem.osz AM.size; rw [hw, shAt_row r]; omega
    obtain ⟨g1, g2⟩ := hs.obj (t := v) (n := μ.osz s v) h1 (by omega)
    refine ⟨hz, g1, fun j hj => ?_⟩
    rw [g2 j hj]
    by_cases h0 : j = 0
    · subst h0
      rw [if_pos rfl, show v + ((0 : Nat) : Int) = v by omega, hw_head hp]
    · rw [if_neg h0, hw_word (hi _ (by omega) (by omega))]
  cases y with
  | true =>
    have hv' : v ∈ ly := h.NY v (by simpa using hv)
    have hb := h.ybd hv'
    exact hgen μ.y _ _ _ r.y (r.wdy h hv') hb.1 (by omega) (h.yhead hv') fun x => Gd.innery h hv'
  | false =>
    have hv' : v ∈ lf := by simpa using hv
    obtain ⟨u, o1, o2⟩ := r.o
    have hb := h.fbd hv'
    have := o2 v hb.1 (by omega) (h.fhead hv')
    exact hgen μ.o _ _ _ o1 (r.wdo h hv') hb.1 this (h.fhead hv') fun x => Gd.innerf h hv'
/-- A word is forwarded. -/
theorem Rel.fwd (r : Rel y μ m) (h : Gd m ly ln lf N rl sp rs) {v : Int} (hv : m.ours y v = true → if y then v ∈ N ∧ v ∈ rs else v ∈ lf) :
    (μ.fwd (μ.src (!y)) (!y) v).1 = (m.fwd y v).1 ∧ Rel y (μ.fwd (μ.src (!y)) (!y) v).2 (m.fwd y v).2 ∧ μ.roomFor (!y) v := by
  have hb := m.base_former; have h0 := h.oldle; have hyl := h.yl; have hn1 := h.newle; have hH := h.sz.H0
  have hsrc := r.src h v
  have hnu := r.n.us; have hnf := r.n.fr; have hnl := r.n.ln
  by_cases ho : m.ours y v = true
  · have hvv := hv ho
    have hvs : if y then v ∈ N else v ∈ lf := by
      cases y with
      | true => exact (show _ ∧ _ by simpa using hvv).1
      | false => exact hvv
    have hp : 0 < m.head v := by
      cases y with
      | true => exact h.yhead (h.NY v (by simpa using hvs))
      | false => exact h.fhead (by simpa using hvs)
    have hbg : (μ.src (!y)).begins v = true := by rw [hsrc, ho]; simp [hp]
    have hml := r.mv v ho
    obtain ⟨z1, z2, z3⟩ := r.srcobj h hvs
    by_cases hm : m.moved v = 0
    · rw [if_pos hm] at hml
      have hfit : m.old + m.size v ≤ m.base + m.H := by
        cases y with
        | true => exact h.nfit (show _ ∧ _ by simpa using hvv).2 hm
        | false => exact h.hfit (by simpa using hvs) hm
      have hle : y = false → m.size v ≤ m.left := fun hy => by
        subst hy
        rw [h.left]; exact usum_le (by simpa using hvs) hm
      have hroom : μ.roomFor (!y) v := fun _ _ => ⟨by omega, fun hy => by
        have : y = false := by simpa using hy
        have := hle this
        rw [r.le]; omega⟩
      have hnx : μ.n.next = m.old := by unfold Sp.next; omega
      have e1 : μ.fwd (μ.src (!y)) (!y) v = (μ.n.next, { μ with n := μ.n.move ((μ.src (!y)).obj v (μ.osz (μ.src (!y)) v)), mv := mu μ.mv v μ.n.next, le := if (!y) then μ.le - μ.osz (μ.src (!y)) v else μ.le }) := by
        unfold Mem.fwd; rw [if_pos hbg, hml]
      have e2 : m.fwd y v = m.move v := by unfold AM.fwd; rw [if_pos ho, if_neg (by omega)]
      rw [e1, e2]
      refine ⟨hnx, ?_, hroom⟩
      have hx := move_ext (m := m) (a := v) hm
      have hsz := m.size_pos v
      have hhd : ∀ t, t ≠ m.old → (m.move v).2.head t = m.head t := fun t ht => fup_other ht
      have hwd : ∀ t, t < m.old ∨ m.old + m.size v ≤ t → (m.move v).2.word t = m.word t := fun t ht => hx.word t ht
      refine ⟨r.sh, ?_, ?_, ?_, r.kn, r.bu, r.sc, fun t ht => ?_, ?_, r.ob⟩
      · exact r.y.other (fun t g1 g2 => hwd t (by omega)) (fun t g1 g2 => hhd t (by omega))
      · have := r.n.move (src := (μ.src (!y)).obj v (μ.osz (μ.src (!y)) v)) (n := m.size v) (word' := (m.move v).2.word) (head' := (m.move v).2.head) (by rw [z2]; exact z1) hsz (by omega)
          (fun t g1 g2 => hwd t (by omega)) (fun t g1 g2 g3 => hhd t (by omega)) (by rw [show m.base + (m.old - m.base) = m.old by omega, move_head]; exact hp) (Gd.oz h)
          (fun j hj => by
            rw [z2] at hj
            rw [z3 j hj, show m.base + (m.old - m.base) + (j : Int) = m.old + j by omega]
            by_cases hj0 : j = 0
            · subst hj0
              rw [if_pos rfl, show m.old + ((0 : Nat) : Int) = m.old by omega, hw_head (by rw [move_head]; exact hp), move_head]
            · rw [if_neg hj0, hw_word (by rw [hhd _ (by omega)]; have := Gd.oz h (m.old + j) (by omega) (by omega); have := h.hn (m.old + j); omega), move_word (by omega) (by omega)])
        show SpR _ _ _ m.base (m.old + m.size v - m.base) m.H
        rw [show m.old + m.size v - m.base = m.old - m.base + m.size v by omega]; exact this
      · obtain ⟨u, o1, o2⟩ := r.o
        have ou := o1.us; have ol := o1.le; have oln := o1.ln
        refine ⟨u, o1.other (fun t g1 g2 => hwd t (by omega)) (fun t g1 g2 => hhd t (by omega)), fun t g1 g2 g3 => ?_⟩
        have g1' : m.former ≤ t := g1
        have g2' : t < m.former + m.H := g2
        rw [hhd t (by omega)] at g3
        have hsz' : (m.move v).2.size t = m.size t := by
          unfold AM.size AM.row; rw [hhd t (by omega)]; rfl
        rw [hsz']; exact o2 t g1' g2' g3
      · have ht' : m.ours y t = true := by rw [← ht]; unfold ours; rw [hx.isY, hx.isF]
        rw [ml_mu]
        by_cases hq : t = v
        · subst hq
          rw [if_pos rfl, move_moved, if_neg (by have := h.sz.Y0; omega), hnx]
        · rw [if_neg hq, move_moved_ne m hq]; exact r.mv t ht'
      · show (if (!y) = true then μ.le - μ.osz (μ.src (!y)) v else μ.le) = if m.isF v then m.left - m.size v else m.left
        cases y with
        | true =>
          have : m.isF v = false := h.isFn (.inr (.inl (h.NY v (by simpa using hvs))))
          rw [this]; simpa using r.le
        | false =>
          have : m.isF v = true := ho
          rw [this, if_pos rfl, ← z1, ← r.le]; rfl
    · have hp' := h.mpos v hm
      rw [if_neg hm] at hml
      have e1 : μ.fwd (μ.src (!y)) (!y) v = (m.moved v, μ) := by
        unfold Mem.fwd; rw [if_pos hbg, hml]
      have e2 : m.fwd y v = (m.moved v, m) := by unfold AM.fwd; rw [if_pos ho, if_pos hp']
      rw [e1, e2]
      exact ⟨rfl, r, fun _ hn => by rw [hml] at hn; cases hn⟩
  · have hbg : (μ.src (!y)).begins v = false := by
      rw [hsrc]; cases hq : m.ours y v with
      | true => exact absurd hq ho
      | false => rfl
    have e1 : μ.fwd (μ.src (!y)) (!y) v = (v, μ) := by unfold Mem.fwd; rw [hbg]; rfl
    have e2 : m.fwd y v = (v, m) := by unfold AM.fwd; rw [if_neg ho]
    rw [e1, e2]
    exact ⟨rfl, r, fun hb' => by rw [hbg] at hb'; cases hb'⟩
/-- A word is set. -/
theorem SpR.setw {s : Sp} {word head : Int → Int} {lo used len p v : Int} {i : Nat} (h : SpR s word head lo used len) (hi : p = lo + i) (hh : head p = 0) : SpR (s.setw i v) (fup word p v) head lo used len := by
  have e1 := h.fr; have e2 := h.us; have e3 := h.ln; have e4 := h.le; have e5 := h.st
  refine ⟨e1, e2, by show ((s.ws.set i v).length : Int) = len; rw [List.length_set]; exact e3, by show s.st.length = (s.ws.set i v).length; rw [List.length_set]; exact e5, by show s.us ≤ (s.ws.set i v).length; rw [List.length_set]; exact e4, h.sts, fun j hj => ?_⟩
  have hj' : j < s.us := hj
  show (s.ws.set i v).getD j 0 = _
  by_cases hji : j = i
  · subst hji
    rw [List.getD_eq_getElem?_getD, List.getElem?_set_self (by omega), ← hi, hw_word hh, fup_same]; rfl
  · rw [List.getD_eq_getElem?_getD, List.getElem?_set_ne (Ne.symm hji), ← List.getD_eq_getElem?_getD, h.wd j hj']
    unfold hw; rw [fup_other (by omega)]
theorem SpR.setother {s : Sp} {word head : Int → Int} {lo used len p v : Int} (h : SpR s word head lo used len) (hp : p < lo ∨ lo + used ≤ p) : SpR s (fup word p v) head lo used len :=
  h.other (fun t h1 h2 => fup_other (by omega)) fun _ _ _ => rfl
theorem Rel.putn (r : Rel y μ m) (h : Gd m ly ln lf N rl sp rs) {p v : Int} {i : Nat} (hi : p = m.base + i) (hp : p < m.old) (hh : m.head p = 0) : Rel y { μ with n := μ.n.setw i v } (m.put p v) := by
  have hb := m.base_former; have h0 := h.oldle; have hyl := h.yl; have hH := h.sz.H0
  obtain ⟨u, o1, o2⟩ := r.o
  have ou := o1.us; have ol := o1.le; have oln := o1.ln
  exact ⟨r.sh, r.y.setother (by omega), r.n.setw hi hh, ⟨u, o1.setother (by omega), o2⟩, r.kn, r.bu, r.sc, r.mv, r.le, r.ob⟩
theorem Rel.puty (r : Rel y μ m) (h : Gd m ly ln lf N rl sp rs) {p v : Int} {i : Nat} (hi : p = 1 + i) (hp : p < m.new) (hh : m.head p = 0) : Rel y { μ with y := μ.y.setw i v } (m.put p v) := by
  have hb := m.base_former; have h0 := h.oldle; have hyl := h.yl; have hH := h.sz.H0
  obtain ⟨u, o1, o2⟩ := r.o
  have ou := o1.us; have ol := o1.le; have oln := o1.ln
  exact ⟨r.sh, r.y.setw hi hh, r.n.setother (by omega), ⟨u, o1.setother (by omega), o2⟩, r.kn, r.bu, r.sc, r.mv, r.le, r.ob⟩
/-- The word of a place of the present half. -/
theorem Rel.wordn (r : Rel y μ m) {p : Int} {i : Nat} (hi : p = m.base + i) (hp : p < m.old) (hh : m.head p = 0) : μ.n.ws.getD i 0 = m.word p := by
  have := r.n.us
  rw [r.n.wd i (by omega), ← hi, hw_word hh]
theorem Rel.wordy (r : Rel y μ m) {p : Int} {i : Nat} (hi : p = 1 + i) (hp : p < m.new) (hh : m.head p = 0) : μ.y.ws.getD i 0 = m.word p := by
  have := r.y.us
  rw [r.y.wd i (by omega), ← hi, hw_word hh]
/-- A field of the present half is forwarded in its place. -/
theorem Rel.fwdAt (r : Rel y μ m) (h : J m ly ln lf N rl sp rs φ A) {t p : Int} {i : Nat} (hi : p = m.base + i) (ht : t ∈ ln) (hp : p ∈ m.pl t) (hyr : y = true → rs = N ∧ sp ≤ m.old) (hfr : y = false → rs = []) :
    Rel y (μ.fwdAt (!y) i) (m.fwdAt y p) ∧ μ.roomFor (!y) (μ.n.ws.getD i 0) := by
  have hpb := pl_bd hp
  have hob := h.g.obd ht
  have hh := h.g.inner ht hpb.1 hpb.2
  have hw := r.wordn hi (by omega) hh
  have hv : m.ours y (m.word p) = true → if y then m.word p ∈ N ∧ m.word p ∈ rs else m.word p ∈ lf := fun ho => by
    cases y with
    | true =>
      have hY : m.isY (m.word p) = true := ho
      rw [(hyr rfl).1]
      rcases h.g.wo t ht p hp with g | g | g | g
      · rw [h.g.isYn (.inl g)] at hY; cases hY
      · rw [h.g.isYn (.inr (.inl g))] at hY; cases hY
      · simpa using g.1
      · rw [h.g.isYn (.inr (.inr g.1))] at hY; cases hY
    | false =>
      have hF : m.isF (m.word p) = true := ho
      rcases h.g.wo t ht p hp with g | g | g | g
      · rw [h.g.isFn (.inl g)] at hF; cases hF
      · rw [h.g.isFn (.inr (.inr g))] at hF; cases hF
      · rw [h.g.isFn (.inr (.inl (h.g.NY _ g.1)))] at hF; cases hF
      · simpa using g.1
  obtain ⟨r1, r2, r3⟩ := r.fwd h.g hv
  refine ⟨?_, by rw [hw]; exact r3⟩
  have hrs' : rs = [] ∨ rs = N := by
    cases y with
    | true => exact .inr (hyr rfl).1
    | false => exact .inl (hfr rfl)
  obtain ⟨ln', φ', hJ, hG, hE, _⟩ := h.fwd y hv (fun hy => (hyr hy).2) hrs'
  have hold := hG.old
  have := r2.putn (p := p) (v := (m.fwd y (m.word p)).1) (i := i) hJ.g (by rw [hE.base]; exact hi) (by omega) (by rw [hE.head p (by omega)]; exact hh)
  unfold Mem.fwdAt AM.fwdAt
  rw [hw, r1]
  exact this
end
end Go.Proofs.Ytmhmpjgkkpbnnaa
namespace Go.Proofs.Ytmhmpjgkkpbnnaa
open Go.Ck Go.Hm Go.Hm.AM
section
variable {y : Bool} {μ : Mem} {m : AM} {ly ln lf N rl rs : List Int} {sp a : Int} {φ : Int → Option Nat} {A : Store}
theorem getD_mid (d t : List Int) (v : Int) : (d ++ v :: t).getD d.length 0 = v := by simp [List.getD_eq_getElem?_getD]
theorem set_mid (d t : List Int) (v w : Int) : (d ++ v :: t).set d.length w = (d ++ [w]) ++ t := by simp
theorem Rel.fwdRow : ∀ (todo d : List Int) {μ : Mem} {m : AM} {ln : List Int} {φ : Int → Option Nat}, Rel y μ m → J m ly ln lf N rl sp rs φ A → (y = true → rs = N ∧ sp ≤ m.old) → (y = false → rs = []) →
    (∀ v ∈ todo, m.ours y v = true → if y then v ∈ N else v ∈ lf) →
    (Mem.fwdRow (!y) todo.length d.length μ (d ++ todo)).2 = d ++ (AM.fwdL y todo m).1 ∧ Rel y (Mem.fwdRow (!y) todo.length d.length μ (d ++ todo)).1 (AM.fwdL y todo m).2 ∧ Mem.fwdRowOk (!y) todo.length d.length μ (d ++ todo)
  | [], d, μ, m, ln, φ, r, h, _, _, _ => ⟨rfl, r, trivial⟩
  | v :: t, d, μ, m, ln, φ, r, h, hy, hf, hv => by
    have hv0 : m.ours y v = true → if y then v ∈ N ∧ v ∈ rs else v ∈ lf := fun ho => by
      have := hv v (List.mem_cons_self ..) ho
      cases y with
      | true => rw [(hy rfl).1]; simpa using this
      | false => simpa using this
    have hrs : rs = [] ∨ rs = N := by
      cases y with
      | true => exact .inr (hy rfl).1
      | false => exact .inl (hf rfl)
    obtain ⟨r1, r2, r3⟩ := r.fwd h.g hv0
    obtain ⟨ln1, φ1, h1, g1, e1, _⟩ := h.fwd y hv0 (fun hq => (hy hq).2) hrs
    have hours : ∀ q, (m.fwd y v).2.ours y q = m.ours y q := fun q => by unfold AM.ours; rw [e1.isY, e1.isF]
    have ho := g1.old
    have ih := Rel.fwdRow t (d ++ [(m.fwd y v).1]) r2 h1 (fun hq => ⟨(hy hq).1, by have := (hy hq).2; omega⟩) hf (fun q hq hoq => hv q (List.mem_cons_of_mem _ hq) (by rw [← hours]; exact hoq))
    have hl : (d ++ [(m.fwd y v).1]).length = d.length + 1 := by simp
    rw [hl] at ih
    have e : Mem.fwdRow (!y) (v :: t).length d.length μ (d ++ v :: t) = Mem.fwdRow (!y) t.length (d.length + 1) (μ.fwd (μ.src (!y)) (!y) v).2 ((d ++ [(m.fwd y v).1]) ++ t) := by
      show Mem.fwdRow (!y) (t.length + 1) d.length μ (d ++ v :: t) = _
      rw [Mem.fwdRow, getD_mid, set_mid, r1]
    rw [e]
    refine ⟨by rw [ih.1]; show _ = d ++ ((m.fwd y v).1 :: _); simp, ih.2.1, ?_⟩
    show μ.roomFor (!y) _ ∧ Mem.fwdRowOk _ _ _ _ _
    rw [getD_mid, set_mid, r1]
    exact ⟨r3, ih.2.2⟩
/-- Places of the present half. -/
theorem Rel.fwdNs : ∀ (ps : List Int) {μ : Mem} {m : AM} {ln : List Int} {φ : Int → Option Nat}, Rel true μ m → J m ly ln lf N ps sp N φ A → sp ≤ m.old → (∀ p ∈ ps, ∃ t ∈ ln, p ∈ m.pl t) →
    Rel true (Mem.fwdNs false (ps.map fun p => (p - m.base).toNat) μ) (AM.fwdP true ps m) ∧ Mem.fwdNsOk false (ps.map fun p => (p - m.base).toNat) μ
  | [], μ, m, ln, φ, r, h, _, _ => ⟨r, trivial⟩
  | p :: ps, μ, m, ln, φ, r, h, hsp, hps => by
    obtain ⟨t, ht, hp⟩ := hps p (List.mem_cons_self ..)
    have hpb := pl_bd hp
    have hob := h.g.obd ht
    obtain ⟨r1, r2⟩ := r.fwdAt h (i := (p - m.base).toNat) (by omega) ht hp (fun _ => ⟨rfl, hsp⟩) (fun hq => by cases hq)
    obtain ⟨ln1, φ1, h1, g1, s1, w1, _⟩ := h.fwdAt true (rl' := ps) (sp' := sp) (.inl ht) hp (fun _ => ⟨rfl, hsp⟩) (fun hq => by cases hq) (fun q hq hqq => by
      rcases hqq with g | g
      · rcases List.mem_cons.1 g with g | g
        · exact absurd g (hq rfl)
        · exact .inl g
      · exact .inr g)
    have ho := g1.old
    have ih := Rel.fwdNs ps r1 h1 (by omega) (fun q hq => by
      obtain ⟨t', ht', hq'⟩ := hps q (List.mem_cons_of_mem _ hq)
      refine ⟨t', g1.sub ht', ?_⟩
      rw [g1.pl (.inl (by have := h.g.obd ht'; omega))]; exact hq')
    rw [g1.base] at ih
    exact ⟨ih.1, r2, ih.2⟩
theorem refIdx_eq (b : Int) (a : Nat) : ∀ (j : Nat) (r : List Bool), refIdx a j r = ((refsFrom j r).map fun i => (b + a + 1 + i - b).toNat)
  | _, [] => rfl
  | j, x :: t => by
    unfold refIdx refsFrom
    rw [refIdx_eq b a (j + 1) t]
    split
    · simp only [List.map_cons, List.cons.injEq, and_true]; omega
    · rfl
theorem Rel.nrow (r : Rel y μ m) (h : Gd m ly ln lf N rl sp rs) {a : Nat} (ha : m.base + a ∈ ln) : μ.nrow a = m.row (m.base + a) := by
  have hb := h.obd ha
  have := r.n.us
  unfold Mem.nrow
  rw [r.n.wd a (by omega), hw_head (h.ohead ha), shAt_row r]
theorem Rel.refs (r : Rel y μ m) (h : Gd m ly ln lf N rl sp rs) {a : Nat} (ha : m.base + a ∈ ln) : refIdx a 0 (μ.nrow a) = (m.pl (m.base + a)).map fun p => (p - m.base).toNat := by
  rw [r.nrow h ha, refIdx_eq m.base a]
  unfold AM.pl
  rw [List.map_map]
  rfl
/-- New objects are looked through. -/
theorem Rel.look : ∀ (f : Nat) {μ : Mem} {m : AM} {ln : List Int} {φ : Int → Option Nat} {a : Nat}, Rel true μ m → J m ly ln lf N [] (m.base + a) N φ A → (m.base + a ∈ ln ∨ m.base + a = m.old) → m.H ≤ a + f →
    Rel true (Mem.look f a μ) (AM.look true f (m.base + a) m) ∧ Mem.lookOk f a μ
  | 0, μ, m, ln, φ, a, r, h, ha, hf => ⟨r, trivial⟩
  | f + 1, μ, m, ln, φ, a, r, h, ha, hf => by
    have h0 := h.g.oldle
    have hus := r.n.us
    by_cases hlt : m.base + a < m.old
    · have ha' : m.base + a ∈ ln := ha.resolve_right (by omega)
      have hab := h.g.obd ha'
      have h' : J m ly ln lf N (m.pl (m.base + a)) (m.base + a + m.size (m.base + a)) N φ A := ⟨h.g.weak fun t ht p hp hq => by
        rcases hq with hq | hq
        · simp at hq
        · by_cases hpa : p < m.base + a + m.size (m.base + a)
          · left
            have hpb := pl_bd hp
            have := h.g.same (.inr (.inl ht)) (.inr (.inl ha')) (p := p) (by omega) (by omega) hq hpa
            subst this; exact hp
          · right; omega, h.s⟩
      obtain ⟨r1, r2⟩ := r.fwdNs (m.pl (m.base + a)) h' (by omega) (fun p hp => ⟨_, ha', hp⟩)
      obtain ⟨ln1, φ1, h1, g1, s1, w1⟩ := J.fwdP (m.pl (m.base + a)) h' (by omega) (fun p hp => ⟨_, ha', hp⟩)
      have ho := g1.old
      have hsz : (AM.fwdP true (m.pl (m.base + a)) m).size (m.base + a) = m.size (m.base + a) := g1.size (.inl hlt)
      have hb1 := g1.base
      have hszn : ∃ k : Nat, m.size (m.base + a) = k ∧ k = 1 + (m.row (m.base + a)).length := ⟨1 + (m.row (m.base + a)).length, by unfold AM.size; omega, rfl⟩
      obtain ⟨k, hk1, hk2⟩ := hszn
      have hnext : (AM.fwdP true (m.pl (m.base + a)) m).base + ((a + k : Nat) : Int) ∈ ln1 ∨ (AM.fwdP true (m.pl (m.base + a)) m).base + ((a + k : Nat) : Int) = (AM.fwdP true (m.pl (m.base + a)) m).old := by
        have := Tl.next h1.g.o.tl _ (g1.sub ha')
        rw [hsz] at this
        rw [hb1, show m.base + ((a + k : Nat) : Int) = m.base + a + m.size (m.base + a) by omega]; exact this
      have heq : μ.look1 a = Mem.fwdNs false ((m.pl (m.base + a)).map fun p => (p - m.base).toNat) μ := by unfold Mem.look1; rw [r.refs h.g ha']
      have r1' : Rel true (μ.look1 a) (AM.fwdP true (m.pl (m.base + a)) m) := by rw [heq]; exact r1
      have hrow1 : (μ.look1 a).nrow a = m.row (m.base + a) := by
        have := r1'.nrow h1.g (a := a) (by rw [hb1]; exact g1.sub ha')
        rw [this, hb1]; exact g1.row (.inl hlt)
      have ih := Rel.look f (a := a + k) r1' (by rw [hb1, show m.base + ((a + k : Nat) : Int) = m.base + a + m.size (m.base + a) by omega]; exact h1) hnext (by rw [g1.H]; omega)
      rw [hb1, show m.base + ((a + k : Nat) : Int) = m.base + a + m.size (m.base + a) by omega] at ih
      have e1 : AM.look true (f + 1) (m.base + a) m = AM.look true f (m.base + a + m.size (m.base + a)) (AM.fwdP true (m.pl (m.base + a)) m) := by
        show (if _ then _ else _) = _
        rw [if_pos hlt]
      have e2 : Mem.look (f + 1) a μ = Mem.look f (a + k) (μ.look1 a) := by
        show (if a < μ.n.us then _ else _) = _
        rw [if_pos (by omega), hrow1, show a + 1 + (m.row (m.base + a)).length = a + k by omega]
      rw [e1, e2]
      refine ⟨ih.1, fun _ => ⟨?_, ?_, ?_, ?_⟩⟩
      · have hnn := r.n.wd a (by omega)
        rw [hw_head (h.g.ohead ha')] at hnn
        have hok := h.g.o.ok _ ha'
        have hhp := h.g.ohead ha'
        have hln := r.n.ln
        rw [hnn, r.nrow h.g ha', r.sh]
        unfold AM.size at hab
        exact ⟨by omega, by omega, by omega⟩
      · rw [r.refs h.g ha']; exact r2
      · have hus1 := r1'.n.us
        have hb1' : (AM.fwdP true (m.pl (m.base + a)) m).base + (a : Int) ∈ ln1 := by rw [hb1]; exact g1.sub ha'
        have hbd1 := h1.g.obd hb1'
        have hnn := r1'.n.wd a (by omega)
        rw [hw_head (h1.g.ohead hb1')] at hnn
        have hok := h1.g.o.ok _ hb1'
        have hhp := h1.g.ohead hb1'
        rw [hnn]
        have : μ.sh.length = (AM.fwdP true (m.pl (m.base + a)) m).sh.length := by rw [g1.sh, r.sh]
        omega
      · rw [hrow1, show a + 1 + (m.row (m.base + a)).length = a + k by omega]; exact ih.2
    · have e1 : AM.look true (f + 1) (m.base + a) m = m := by
        show (if _ then _ else _) = _
        rw [if_neg hlt]
      have e2 : Mem.look (f + 1) a μ = μ := by
        show (if a < μ.n.us then _ else _) = _
        rw [if_neg (by omega)]
      rw [e1, e2]
      exact ⟨r, fun hlt' => by omega⟩

/-! ### What is needed -/
theorem Rel.meet (r : Rel y μ m) (h : Gd m ly ln lf N rl sp rs) (l : List Int) {t : Int} (ht : m.isY t = true → t ∈ ly) : μ.meet l t = m.meet l t := by
  unfold Mem.meet AM.meet
  rw [r.by_ h]
  cases hq : m.isY t with
  | false => rfl
  | true => simp [h.yhead (ht hq)]
theorem Rel.meets (r : Rel y μ m) (h : Gd m ly ln lf N rl sp rs) : ∀ (ts l : List Int), (∀ t ∈ ts, m.isY t = true → t ∈ ly) → μ.meets l ts = ts.foldl m.meet l
  | [], l, _ => rfl
  | t :: ts, l, ht => by
    show Mem.meets μ (μ.meet l t) ts = ts.foldl m.meet (m.meet l t)
    rw [r.meet h l (ht t (List.mem_cons_self ..)), Rel.meets r h ts _ fun x hx => ht x (List.mem_cons_of_mem _ hx)]
theorem refsFrom_range (r : List Bool) : ∀ (j n : Nat), n = r.length → refsFrom j r = (List.range n).filterMap fun k => if r.getD k false then some ((j + k : Nat) : Int) else none := by
  induction r with
  | nil => intro j n hn; subst hn; rfl
  | cons b t ih =>
    intro j n hn
    subst hn
    rw [List.length_cons, List.range_succ_eq_map, List.filterMap_cons, List.filterMap_map]
    unfold refsFrom
    rw [ih (j + 1) t.length rfl]
    have e : (List.filterMap ((fun k => if (b :: t).getD k false = true then some ((j + k : Nat) : Int) else none) ∘ Nat.succ) (List.range t.length)) = List.filterMap (fun k => if t.getD k false = true then some ((j + 1 + k : Nat) : Int) else none) (List.range t.length) := by
      congr 1
      funext k
      simp only [Function.comp]
      rw [show (b :: t).getD k.succ false = t.getD k false by simp [List.getD_eq_getElem?_getD]]
      split
      · congr 1; omega
      · rfl
    rw [e]
    cases b <;> simp
theorem filterMap_congr' {α β : Type} {f g : α → Option β} : ∀ {l : List α}, (∀ x ∈ l, f x = g x) → l.filterMap f = l.filterMap g
  | [], _ => rfl
  | x :: t, h => by rw [List.filterMap_cons, List.filterMap_cons, h x (List.mem_cons_self ..), filterMap_congr' fun z hz => h z (List.mem_cons_of_mem _ hz)]
theorem Rel.refsOf (r : Rel y μ m) (h : Gd m ly ln lf N rl sp rs) {t : Int} (ht : t ∈ ly) : μ.refsOf μ.y t = (m.pl t).map m.word := by
  have hb := h.ybd ht
  unfold Mem.refsOf Mem.refsTo AM.pl
  rw [r.wdy h ht, shAt_row r, refsFrom_range (m.row t) 0 _ rfl, List.map_map, List.map_filterMap]
  refine filterMap_congr' fun k hk => ?_
  have hk' : k < (m.row t).length := by simpa using hk
  have hw : μ.y.wd (t + 1 + k) = m.word (t + 1 + k) := by
    unfold AM.size at hb
    rw [wd_of r.y (by omega) (by omega), hw_word (Gd.innery h ht (by omega) (by unfold AM.size; omega))]
  rw [hw]
  split
  · simp
  · rfl
theorem Rel.needLoop (r : Rel y μ m) (h : AM.Good m ly ln lf φ A) : ∀ (k f i : Nat) (l : List Int) (n : Int), ly.length < k + i → ly.length < f + i → l.Nodup → (∀ t ∈ l, t ∈ ly) → i ≤ l.length →
    μ.needLoop k i l n = n + AM.sum m.size ((m.close f i l).drop i)
  | 0, f, i, l, n, hk, hf, hn, hs, hi => by have := nodup_len hn hs; omega
  | k + 1, 0, i, l, n, hk, hf, hn, hs, hi => by have := nodup_len hn hs; omega
  | k + 1, f + 1, i, l, n, hk, hf, hn, hs, hi => by
    unfold AM.close
    show (if i < l.length then _ else n) = _
    by_cases hlt : i < l.length
    · rw [dif_pos hlt, if_pos hlt]
      have hli : l[i] ∈ ly := hs _ (List.getElem_mem hlt)
      have hgd : l.getD i 0 = l[i] := by simp [List.getD_eq_getElem?_getD, hlt]
      rw [hgd, r.refsOf h.g hli]
      have hmm : ∀ t ∈ (m.pl l[i]).map m.word, m.isY t = true → t ∈ ly := fun t ht hY => by
        obtain ⟨p, hp, rfl⟩ := List.mem_map.1 ht
        exact h.word_y hli hp hY
      rw [r.meets h.g _ _ hmm]
      obtain ⟨k2, hk2⟩ := m.meets_pre ((m.pl l[i]).map m.word) l
      have ih := Rel.needLoop r h k f (i + 1) (((m.pl l[i]).map m.word).foldl m.meet l) (n + μ.osz μ.y l[i]) (by omega) (by omega) (meets_nodup m _ _ hn) (fun t ht => by
          rcases meets_mem m _ _ ht with h1 | ⟨h1, h2⟩
          · exact hs t h1
          · exact hmm t h1 h2) (by rw [hk2, List.length_append]; omega)
      rw [ih]
      have hosz : (μ.osz μ.y l[i] : Int) = m.size l[i] := by unfold Mem.osz AM.size; rw [r.wdy h.g hli, shAt_row r]; omega
      obtain ⟨⟨k3, hk3⟩, _⟩ := close_spec_pre (m := m) f (i + 1) (((m.pl l[i]).map m.word).foldl m.meet l)
      have hd : (m.close f (i + 1) (((m.pl l[i]).map m.word).foldl m.meet l)).drop i = l[i] :: (m.close f (i + 1) (((m.pl l[i]).map m.word).foldl m.meet l)).drop (i + 1) := by
        have hlen : i < (m.close f (i + 1) (((m.pl l[i]).map m.word).foldl m.meet l)).length := by rw [hk3, hk2]; simp; omega
        rw [List.drop_eq_getElem_cons hlen]
        congr 1
        have : (m.close f (i + 1) (((m.pl l[i]).map m.word).foldl m.meet l))[i]? = l[i]? := by
          rw [hk3, hk2, List.append_assoc, List.getElem?_append_left hlt]
        rw [List.getElem?_eq_getElem hlen, List.getElem?_eq_getElem hlt] at this
        injection this
      rw [hd, sum_cons, hosz]; omega
    · rw [dif_neg hlt, if_neg hlt, List.drop_of_length_le (by omega)]
      simp [AM.sum]
where
  close_spec_pre {m : AM} : ∀ (f i : Nat) (l : List Int), (∃ k, m.close f i l = l ++ k) ∧ True
    | 0, i, l => ⟨⟨[], by simp [AM.close]⟩, trivial⟩
    | f + 1, i, l => by
      unfold AM.close
      by_cases h : i < l.length
      · rw [dif_pos h]
        obtain ⟨k, hk⟩ := m.meets_pre ((m.pl l[i]).map m.word) l
        obtain ⟨⟨k2, hk2⟩, _⟩ := close_spec_pre (m := m) f (i + 1) (((m.pl l[i]).map m.word).foldl m.meet l)
        exact ⟨⟨k ++ k2, by rw [hk2, hk, List.append_assoc]⟩, trivial⟩
      · rw [dif_neg h]; exact ⟨⟨[], by simp⟩, trivial⟩
end
end Go.Proofs.Ytmhmpjgkkpbnnaa
namespace Go.Proofs.Ytmhmpjgkkpbnnaa
open Go.Ck Go.Hm Go.Hm.AM
section
variable {y : Bool} {μ : Mem} {m : AM} {ly ln lf N rl rs : List Int} {sp a : Int} {φ : Int → Option Nat} {A : Store}
/-- Only what is ours gets a new address. -/
structure Mv (y : Bool) (m m' : AM) : Prop where
  ours : ∀ z t, m'.ours z t = m.ours z t
  mv : ∀ t, m.ours y t = false → m'.moved t = m.moved t
theorem Mv.refl (y : Bool) (m : AM) : Mv y m m := ⟨fun _ _ => rfl, fun _ _ => rfl⟩
theorem Mv.trans {a b c : AM} (h : Mv y a b) (k : Mv y b c) : Mv y a c := ⟨fun z t => (k.ours z t).trans (h.ours z t), fun t ht => (k.mv t (by rw [h.ours]; exact ht)).trans (h.mv t ht)⟩
theorem mv_fwd (y : Bool) (m : AM) (v : Int) : Mv y m (m.fwd y v).2 := by
  unfold AM.fwd
  split
  · rename_i h
    split
    · exact Mv.refl y m
    · exact ⟨fun _ _ => rfl, fun t ht => move_moved_ne m fun e => by rw [e, h] at ht; cases ht⟩
  · exact Mv.refl y m
theorem mv_fwdAt (y : Bool) (m : AM) (p : Int) : Mv y m (m.fwdAt y p) := ⟨fun z t => (mv_fwd y m _).ours z t, fun t ht => (mv_fwd y m _).mv t ht⟩
theorem mv_fwdL (y : Bool) : ∀ (l : List Int) (m : AM), Mv y m (AM.fwdL y l m).2
  | [], m => Mv.refl y m
  | v :: t, m => (mv_fwd y m v).trans (mv_fwdL y t _)
theorem mv_fwdP (y : Bool) : ∀ (l : List Int) (m : AM), Mv y m (AM.fwdP y l m)
  | [], m => Mv.refl y m
  | p :: t, m => (mv_fwdAt y m p).trans (mv_fwdP y t _)
theorem mv_look (y : Bool) : ∀ (f : Nat) (a : Int) (m : AM), Mv y m (AM.look y f a m)
  | 0, _, m => Mv.refl y m
  | f + 1, a, m => by
    unfold AM.look
    split
    · exact (mv_fwdP y _ m).trans (mv_look y f _ _)
    · exact Mv.refl y m

theorem Rel.rooted (r : Rel y μ m) (h : Gd m ly ln lf N rl sp rs) (l : List Int) : μ.rooted l = m.rooted l := by
  unfold Mem.rooted AM.rooted
  have : μ.bad = m.bad := by funext x; unfold Mem.bad AM.bad; rw [r.cur h]
  rw [this]
theorem Rel.knw (r : Rel y μ m) (h : AM.Good m ly ln lf φ A) : μ.kn.map μ.knw = m.remP.map m.word := by
  unfold remP
  rw [r.kn, List.map_map]
  apply List.map_congr_left
  intro k hk
  obtain ⟨h1, j, h2, h3⟩ := h.rm k hk
  have hb := h.g.obd h1
  have hj := (List.getElem?_eq_some_iff.1 h3).1
  unfold AM.size at hb
  show μ.n.wd (k.1 + 1 + k.2) = m.word (k.1 + 1 + k.2)
  rw [wd_of r.n (by omega) (by omega), hw_word (h.g.inner h1 (by omega) (by unfold AM.size; omega))]
theorem Rel.needed (r : Rel y μ m) (h : AM.Good m ly ln lf φ A) {roots : List Int} (hr : ∀ x ∈ roots, x = 0 ∨ x ∈ ly ∨ x ∈ ln) : μ.needed roots = m.needed roots := by
  have h1 : ∀ t ∈ roots, m.isY t = true → t ∈ ly := fun t ht => h.root_y (hr t ht)
  have h2 : ∀ t ∈ m.remP.map m.word, m.isY t = true → t ∈ ly := fun t ht hY => by
    obtain ⟨p, hp, rfl⟩ := List.mem_map.1 ht
    exact h.rem_y hp hY
  have hyl := h.ylen
  have hus := r.y.us
  have hlen : (ly.length : Int) ≤ AM.sum m.size ly := by
    have : ∀ l : List Int, (l.length : Int) ≤ AM.sum m.size l := by
      intro l
      induction l with
      | nil => simp [AM.sum]
      | cons a l ih => rw [sum_cons]; have := m.size_pos a; simp only [List.length_cons]; omega
    exact this ly
  have hsum := h.g.y.tl.sum
  unfold Mem.needed AM.needed AM.reach
  rw [r.knw h, r.meets h.g _ _ h1, r.meets h.g _ _ h2]
  rw [r.needLoop h (μ.y.us + 1) (m.Y.toNat + 1) 0 _ 0 (by omega) (by omega) (meets_nodup m _ _ (meets_nodup m _ _ List.nodup_nil)) (fun t ht => by
    rcases meets_mem m _ _ ht with g | ⟨g, g2⟩
    · rcases meets_mem m _ _ g with g | ⟨g, g2⟩
      · simp at g
      · exact h1 t g g2
    · exact h2 t g g2) (by omega)]
  simp
theorem clear_base (m : AM) : m.young0.base = m.base ∧ m.young0.former = m.former := ⟨rfl, rfl⟩
/-- The young space is emptied on both sides. -/
theorem Rel.young0 (r : Rel true μ m) (h : Gd m ly ln lf N rl sp rs) {mv0 : List (Int × Int)} (hm : ∀ t, m.isF t = true → ml mv0 t = if m.moved t = 0 then none else some (m.moved t)) :
    Rel false { μ with mv := mv0, y := μ.y.empty, kn := [] } m.young0 := by
  have hb := m.base_former; have h0 := h.oldle; have hyl := h.yl; have hH := h.sz.H0; have hY := h.sz.Y0
  have hgt : ∀ x, x < 1 ∨ 1 + m.Y ≤ x → m.young0.word x = m.word x ∧ m.young0.head x = m.head x ∧ m.young0.moved x = m.moved x := fun x hx => clear_other hx
  have e1 := r.y.fr; have e2 := r.y.us; have e3 := r.y.ln; have e4 := r.y.le; have e5 := r.y.st
  refine ⟨r.sh, ⟨e1, rfl, e3, by show (List.replicate μ.y.st.length false).length = μ.y.ws.length; rw [List.length_replicate]; exact e5, Nat.zero_le _, fun i hi => ?_, fun i hi => by have hi' : i < 0 := hi; omega⟩, ?_, ?_, rfl, r.bu, r.sc, fun t ht => ?_, r.le, r.ob⟩
  · have hi' : i < μ.y.st.length := by simpa [Sp.empty] using hi
    show (List.replicate μ.y.st.length false).getD i false = _
    rw [show m.young0.head (1 + i) = 0 from (clear_in (m := m) (lo := 1) (n := m.Y) (by omega) (by omega)).2.1]
    simp [List.getD_eq_getElem?_getD, hi']
  · exact r.n.other (fun t g1 g2 => (hgt t (by omega)).1) (fun t g1 g2 => (hgt t (by omega)).2.1)
  · obtain ⟨u, o1, o2⟩ := r.o
    have ou := o1.us; have ol := o1.le; have oln := o1.ln
    refine ⟨u, o1.other (fun t g1 g2 => (hgt t (by omega)).1) (fun t g1 g2 => (hgt t (by omega)).2.1), fun t g1 g2 g3 => ?_⟩
    have g1' : m.former ≤ t := g1
    have g2' : t < m.former + m.H := g2
    rw [(hgt t (by omega)).2.1] at g3
    have : m.young0.size t = m.size t := by unfold AM.size AM.row; rw [(hgt t (by omega)).2.1]; rfl
    rw [this]; exact o2 t g1' g2' g3
  · have ht' : m.isF t = true := ht
    have := isF_iff.1 ht'
    rw [hm t ht', (hgt t (by omega)).2.2]
theorem kidxs_eq (r : Rel y μ m) : μ.kidxs = m.remP.map fun p => (p - m.base).toNat := by
  unfold Mem.kidxs remP
  rw [r.kn, List.map_map]
  apply List.map_congr_left
  intro k _
  show (k.1 + 1 + k.2 - (μ.n.fr : Int)).toNat = (k.1 + 1 + k.2 - m.base).toNat
  rw [r.n.fr]
theorem Rel.minorRun (r : Rel false μ m) (h : AM.Good m ly ln lf φ A) {roots : List Int} (hr : ∀ x ∈ roots, x = 0 ∨ x ∈ ly ∨ x ∈ ln) (hroom : m.needed roots ≤ m.base + m.H - m.old - m.left) :
    Rel false (μ.minor roots).1 (m.minorRun roots).2 ∧ (μ.minor roots).2 = (m.minorRun roots).1 ∧ Mem.fwdRowOk false roots.length 0 { μ with mv := [] } roots ∧ Mem.fwdNsOk false μ.kidxs (μ.minor1 roots).1 ∧ Mem.lookOk μ.n.ws.length μ.n.us (Mem.fwdNs false μ.kidxs (μ.minor1 roots).1) := by
  have hN := h.reach hr
  have hJ := h.start hN hroom
  have h0 := h.g.oldle
  have r0 : Rel true { μ with mv := [] } m := ⟨r.sh, r.y, r.n, r.o, r.kn, r.bu, r.sc, fun t ht => by
    have ht' : m.isY t = true := ht
    rw [if_pos (by
      by_cases hm : m.moved t = 0
      · exact hm
      · have := h.ym t hm
        rw [h.g.isYn (.inr (.inr this))] at ht'; cases ht')]; rfl, r.le, r.ob⟩
  obtain ⟨a1, a2, a3⟩ := r0.fwdRow roots [] hJ (fun _ => ⟨rfl, Int.le_refl _⟩) (fun hq => by cases hq) (fun v hv ho => hN.ro v hv ho)
  obtain ⟨ln1, φ1, h1, g1, s1, w1, len1, r1⟩ := hJ.fwdL true roots (fun _ => ⟨rfl, Int.le_refl _⟩) (fun hq => by cases hq) (fun v hv ho => hN.ro v hv ho)
  have ho1 := g1.old
  have hps : ∀ p ∈ m.remP, ∃ t ∈ ln1, p ∈ (AM.fwdL true roots m).2.pl t := fun p hp => by
    obtain ⟨t, ht, hp'⟩ := h.remP_mem hp
    exact ⟨t, g1.sub ht, by rw [g1.pl (.inl (by have := h.g.obd ht; omega))]; exact hp'⟩
  simp only [List.nil_append, List.length_nil, Bool.not_true] at a1 a2 a3
  obtain ⟨b1, b2⟩ := Rel.fwdNs m.remP a2 h1 ho1 hps
  obtain ⟨ln2, φ2, h2, g2, s2, w2⟩ := J.fwdP m.remP h1 ho1 hps
  have g12 := g1.trans g2
  rw [g1.base] at b1 b2
  have hus := r.n.us; have hnl := r.n.ln
  have hold : m.base + (μ.n.us : Int) = m.old := by omega
  have hat := Grow.at_old h.g h2.g g12
  have hb2 := g12.base
  have hfu : m.H.toNat = μ.n.ws.length := by omega
  obtain ⟨c1, c2⟩ := Rel.look (a := μ.n.us) μ.n.ws.length b1 (by rw [hb2, hold]; exact h2) (by rw [hb2, hold]; exact hat) (by rw [g12.H]; omega)
  rw [hb2, hold] at c1
  obtain ⟨ln3, φ3, h3, g3, s3, w3⟩ := J.look μ.n.ws.length h2 hat (by rw [g12.base, g12.H]; omega)
  have hk := kidxs_eq r
  have hm1 : (μ.minor1 roots).1 = (Mem.fwdRow false roots.length 0 { μ with mv := [] } roots).1 := rfl
  have hmv : Mv true m (AM.look true μ.n.ws.length m.old (AM.fwdP true m.remP (AM.fwdL true roots m).2)) := ((mv_fwdL true roots m).trans (mv_fwdP true _ _)).trans (mv_look true _ _ _)
  have e1 : (m.minorRun roots).2 = (AM.look true μ.n.ws.length m.old (AM.fwdP true m.remP (AM.fwdL true roots m).2)).young0 := by rw [← hfu]; rfl
  have e2 : (μ.minor roots).1 = { Mem.look μ.n.ws.length μ.n.us (Mem.fwdNs false μ.kidxs (μ.minor1 roots).1) with mv := μ.mv, y := (Mem.look μ.n.ws.length μ.n.us (Mem.fwdNs false μ.kidxs (μ.minor1 roots).1)).y.empty, kn := [] } := rfl
  refine ⟨?_, a1, a3, by rw [hk, hm1]; exact b2, by rw [hk, hm1]; exact c2⟩
  rw [e1, e2, hk, hm1]
  refine Rel.young0 c1 h3.g fun t ht => ?_
  have htF : m.isF t = true := by rw [← ht]; exact (hmv.ours false t).symm
  have htY : m.ours true t = false := by
    have hb := m.base_former
    have := isF_iff.1 htF
    cases hq : m.ours true t with
    | false => rfl
    | true => have := isY_iff'.1 (show m.isY t = true from hq); have := h.g.sz.H0; omega
  rw [hmv.mv t htY]
  exact r.mv t htF
/-- The halves change their roles. -/
def Mem.turn (μ : Mem) : Mem := { μ with n := μ.o, o := μ.n, bu := true, sc := μ.o.fr, le := μ.n.us, mv := [] }
theorem Rel.turn (r : Rel false μ m) (h : AM.Good m [] ln [] φ A) (hbz : m.busy = false) : Rel false (Mem.turn μ) m.turn := by
  have hu0 := r.ob hbz
  have hb := m.turn_base; have hf := m.turn_former; have ho := m.turn_old; have hs := m.turn_scan
  obtain ⟨u, o1, o2⟩ := r.o
  have ou := o1.us
  have hu : u = 0 := by omega
  subst hu
  have hnu := r.n.us
  refine ⟨r.sh, r.y, ?_, ⟨m.old - m.base, ?_, fun t g1 g2 g3 => ?_⟩, r.kn, rfl, ?_, fun t ht => ?_, ?_, fun hq => ?_⟩
  · show SpR μ.o m.word m.head m.turn.base (m.turn.old - m.turn.base) m.H
    rw [hb, ho, show m.former - m.former = 0 by omega]
    exact o1
  · rw [hf]; exact r.n
  · rw [hf] at g1 g2 ⊢
    have hin := (h.g.o.hd t g1 (by have g2' : t < m.base + m.H := g2; omega)).1 g3
    have := h.g.obd hin
    show t + m.size t ≤ _
    omega
  · show (μ.o.fr : Int) = m.turn.scan
    rw [hs]; exact o1.fr
  · show none = _
    rw [if_pos]
    show m.moved t = 0
    by_cases hm : m.moved t = 0
    · exact hm
    · have := h.ym t hm; simp at this
  · show (μ.n.us : Int) = m.old - m.base
    exact hnu
  · have hq' : (true : Bool) = false := hq
    cases hq'
/-- Flip, behind Minor. -/
def Mem.flipRun (μ : Mem) (roots : List Int) : Mem × List Int := Mem.fwdRow true (μ.minor roots).2.length 0 (Mem.turn (μ.minor roots).1) (μ.minor roots).2
theorem Rel.flipRun (r : Rel false μ m) (h : AM.Good m ly ln lf φ A) (hbz : m.busy = false) {roots : List Int} (he : m.minorErr roots = 0) :
    Rel false (Mem.flipRun μ roots).1 (m.flip roots).2.2 ∧ (Mem.flipRun μ roots).2 = (m.flip roots).1 ∧ Mem.fwdRowOk true (μ.minor roots).2.length 0 (Mem.turn (μ.minor roots).1) (μ.minor roots).2 := by
  obtain ⟨he1, he2⟩ := minorErr_ok he
  obtain ⟨ln1, φ1, g1, ⟨r1, r2⟩, s1, s2, s3, s4, s5, s6, s7, s8⟩ := h.minor he
  obtain ⟨m1, m2, _⟩ := r.minorRun h (h.rooted he1) he2
  have hmr : (m.minor roots).2.2 = (m.minorRun roots).2 ∧ (m.minor roots).1 = (m.minorRun roots).1 := by unfold AM.minor; rw [if_neg (by rw [he]; simp)]; exact ⟨rfl, rfl⟩
  rw [← hmr.1] at m1
  rw [← hmr.2] at m2
  have hlf : lf = [] := h.g.nb hbz
  subst hlf
  have hrem := minor_rem he
  have hT := g1.turn hrem
  have rT := m1.turn g1 (s5.trans hbz)
  have hg := hT.g
  obtain ⟨q1, q2, q3⟩ := rT.fwdRow (A := A) (φ := φ1) (m.minor roots).1 [] ⟨hg, hT.s⟩ (fun hq => by cases hq) (fun _ => rfl) (fun v hv ho => by
    obtain ⟨i, hi, rfl⟩ := List.getElem_of_mem hv
    have hF : (m.minor roots).2.2.turn.isF (m.minor roots).1[i] = true := ho
    rcases (r2 i (by omega) hi).1 with g | g
    · rw [hg.isFn (.inl g)] at hF; cases hF
    · simpa using g)
  have hfe : m.flip roots = ((AM.fwdL false (m.minor roots).1 (m.minor roots).2.2.turn).1, 0, (AM.fwdL false (m.minor roots).1 (m.minor roots).2.2.turn).2) := by
    unfold AM.flip
    rw [if_neg (by rw [hbz]; simp)]
    simp only
    rw [if_neg (by rw [minor_err he]; simp)]
  rw [hfe]
  simp only [List.nil_append, List.length_nil, Bool.not_false] at q1 q2 q3
  unfold Mem.flipRun
  rw [m2]
  exact ⟨q2, q1, q3⟩
end
end Go.Proofs.Ytmhmpjgkkpbnnaa
namespace Go.Proofs.Ytmhmpjgkkpbnnaa
open Go.Ck Go.Hm Go.Hm.AM
section
variable {y : Bool} {μ : Mem} {m : AM} {ly ln lf N rl rs : List Int} {sp a : Int} {φ : Int → Option Nat} {A : Store}
theorem Rel.shl (r : Rel y μ m) (h : Gd m ly ln lf N rl sp rs) : ShOk μ.sh := ⟨by rw [r.sh]; exact h.sz.n, by rw [r.sh]; exact h.sz.w⟩
theorem Rel.alloc (r : Rel false μ m) (h : AM.Good m ly ln lf φ A) (s : Int) : (μ.alloc s).1 = (m.alloc s).1 ∧ (μ.alloc s).2.1 = (m.alloc s).2.1 ∧ Rel false (μ.alloc s).2.2 (m.alloc s).2.2 := by
  have hb := m.base_former; have h0 := h.g.oldle; have hyl := h.g.yl; have hn1 := h.g.newle; have hH := h.g.sz.H0
  have e1 := r.y.fr; have e2 := r.y.us; have e3 := r.y.ln; have e4 := r.y.le; have e5 := r.y.st
  unfold Mem.alloc AM.alloc
  rw [r.sh]
  by_cases hc : (decide (s < 0) || decide ((m.sh.length : Int) ≤ s)) = true
  · rw [if_pos hc, if_pos hc]; exact ⟨rfl, rfl, r⟩
  · rw [if_neg hc, if_neg hc]
    simp only [Bool.or_eq_true, decide_eq_true_eq, not_or] at hc
    have hrow : shAt m.sh s = m.sh.getD s.toNat [] := rfl
    rw [hrow]
    generalize hrr : m.sh.getD s.toNat [] = row
    by_cases hd : m.Y < m.new + (1 + (row.length : Int)) - 1
    · rw [if_pos (by simp; omega)]
      simp only
      rw [if_pos (by simpa using hd)]
      exact ⟨rfl, rfl, r⟩
    · rw [if_neg (by simp; omega)]
      simp only
      rw [if_neg (by simpa using hd)]
      refine ⟨by show (μ.y.fr : Int) + μ.y.us = m.new; omega, rfl, ?_⟩
      have hl : (spl μ.y.ws μ.y.us (List.replicate (1 + row.length) 0)).length = μ.y.ws.length := spl_length _ _ _ (by simp; omega)
      have hhd : ∀ t, t ≠ m.new → fup m.head m.new (s + 1) t = m.head t := fun t ht => fup_other ht
      refine ⟨rfl, ⟨e1, ?_, ?_, ?_, ?_, fun i hi => ?_, fun i hi => ?_⟩, ?_, ?_, r.kn, r.bu, r.sc, r.mv, r.le, r.ob⟩
      · show ((μ.y.us + (1 + row.length) : Nat) : Int) = m.new + (1 + (row.length : Int)) - 1; omega
      · show (((spl μ.y.ws μ.y.us (List.replicate (1 + row.length) 0)).set μ.y.us s).length : Int) = m.Y; rw [List.length_set, hl]; exact e3
      · show (μ.y.st.set μ.y.us true).length = ((spl μ.y.ws μ.y.us (List.replicate (1 + row.length) 0)).set μ.y.us s).length; rw [List.length_set, List.length_set, hl]; exact e5
      · show μ.y.us + (1 + row.length) ≤ ((spl μ.y.ws μ.y.us (List.replicate (1 + row.length) 0)).set μ.y.us s).length; rw [List.length_set, hl]; omega
      · have hi' : i < μ.y.st.length := by simpa [Sp.lay] using hi
        show (μ.y.st.set μ.y.us true).getD i false = decide (0 < fup m.head m.new (s + 1) (1 + i))
        by_cases hiu : i = μ.y.us
        · subst hiu
          rw [show (1 : Int) + (μ.y.us : Int) = m.new by omega, fup_same]
          simp [List.getD_eq_getElem?_getD, hi']; omega
        · rw [List.getD_eq_getElem?_getD, List.getElem?_set_ne (Ne.symm hiu), ← List.getD_eq_getElem?_getD, r.y.sts i hi', hhd _ (by omega)]
      · have hi' : i < μ.y.us + (1 + row.length) := hi
        show ((spl μ.y.ws μ.y.us (List.replicate (1 + row.length) 0)).set μ.y.us s).getD i 0 = hw m.word (fup m.head m.new (s + 1)) (1 + i)
        by_cases hiu : i = μ.y.us
        · subst hiu
          rw [show (1 : Int) + (μ.y.us : Int) = m.new by omega, hw_head (by rw [fup_same]; omega), fup_same, List.getD_eq_getElem?_getD, List.getElem?_set_self (by rw [hl]; omega)]
          simp
        · rw [List.getD_eq_getElem?_getD, List.getElem?_set_ne (Ne.symm hiu), ← List.getD_eq_getElem?_getD, getD_spl _ _ _ _ (by simp; omega)]
          by_cases h1 : i < μ.y.us
          · rw [if_pos h1, r.y.wd i h1]
            unfold hw; rw [hhd _ (by omega)]
          · rw [if_neg h1, if_pos (by simpa using hi')]
            have hz : (List.replicate (1 + row.length) (0 : Int)).getD (i - μ.y.us) 0 = 0 := by rw [List.getD_eq_getElem?_getD, List.getElem?_replicate]; split <;> rfl
            rw [hz, hw_word (by rw [hhd _ (by omega)]; have := Gd.yz h.g (1 + i) (by omega) (by omega); have := h.g.hn (1 + i); omega)]
            exact (h.g.fz _ (by omega) (by omega)).symm
      · exact r.n.other (fun _ _ _ => rfl) (fun t g1 g2 => hhd t (by omega))
      · obtain ⟨u, o1, o2⟩ := r.o
        have ou := o1.us; have ol := o1.le; have oln := o1.ln
        refine ⟨u, o1.other (fun _ _ _ => rfl) (fun t g1 g2 => hhd t (by omega)), fun t g1 g2 g3 => ?_⟩
        have g1' : m.former ≤ t := g1
        have g2' : t < m.former + m.H := g2
        have g3' : 0 < fup m.head m.new (s + 1) t := g3
        rw [hhd t (by omega)] at g3'
        have := o2 t g1' g2' g3'
        unfold AM.size AM.row at this ⊢
        rw [show ({ m with head := fup m.head m.new (s + 1), new := m.new + (1 + (row.length : Int)) } : AM).head t = m.head t from hhd t (by omega)]
        exact this
theorem Rel.shape (r : Rel y μ m) (h : Gd m ly ln lf N rl sp rs) (t : Int) : μ.shapeOf t = m.shapeOf t := by
  unfold Mem.shapeOf AM.shapeOf
  by_cases hc : m.cur t = true
  · rw [if_pos hc]
    rcases h.cur_iff.1 hc with h1 | h1
    · have hy : μ.y.begins t = true := by rw [r.by_ h]; simp [h.yhead h1]; rw [h.isY_iff (h.yhead h1)]; exact h1
      rw [if_pos hy, r.wdy h h1]
    · have hy : μ.y.begins t = false := by rw [r.by_ h, h.isYn (.inr (.inl h1))]; rfl
      have hn : μ.n.begins t = true := by rw [r.bn h]; simp [h.ohead h1]; rw [isO_iff]; have := h.obd h1; have := h.oldle; omega
      rw [hy, if_neg (by simp), if_pos hn, r.wdn h h1]
  · rw [if_neg hc]
    have hcm := r.cur h t
    unfold Mem.cur at hcm
    have : (μ.y.begins t || μ.n.begins t) = false := by rw [hcm]; simpa using hc
    rw [Bool.or_eq_false_iff] at this
    rw [this.1, this.2]; simp
/-- Where a current object lies. -/
theorem Rel.where_ (r : Rel y μ m) (h : Gd m ly ln lf N rl sp rs) {t : Int} (ht : t ∈ ly ∨ t ∈ ln) : (t ∈ ly ∧ μ.y.begins t = true ∧ μ.n.begins t = false ∧ μ.y.wd t = m.head t - 1) ∨ (t ∈ ln ∧ μ.y.begins t = false ∧ μ.n.begins t = true ∧ μ.n.wd t = m.head t - 1) := by
  rcases ht with h1 | h1
  · refine .inl ⟨h1, by rw [r.by_ h, (h.isY_iff (h.yhead h1)).2 h1]; simp [h.yhead h1], ?_, r.wdy h h1⟩
    rw [r.bn h]
    cases hq : m.isO t with
    | false => rfl
    | true => rw [isO_iff] at hq; have := h.ybd h1; have := h.yl; have := m.base_former; have := h.sz.H0; omega
  · exact .inr ⟨h1, by rw [r.by_ h, h.isYn (.inr (.inl h1))]; rfl, by rw [r.bn h]; simp [h.ohead h1]; rw [isO_iff]; have := h.obd h1; have := h.oldle; omega, r.wdn h h1⟩
theorem Rel.fe (r : Rel y μ m) (h : Gd m ly ln lf N rl sp rs) (t k : Int) : μ.fe t k = m.fe t k := by
  unfold Mem.fe AM.fe
  by_cases hc : m.cur t = true
  · rw [hc]
    rcases r.where_ h (h.cur_iff.1 hc) with ⟨_, h2, h3, h4⟩ | ⟨_, h2, h3, h4⟩
    · rw [if_pos h2]; unfold Mem.lenOf; rw [h4, shAt_row r]; rfl
    · rw [h2, if_neg (by simp), if_pos h3]; unfold Mem.lenOf; rw [h4, shAt_row r]; rfl
  · have hcm := r.cur h t
    unfold Mem.cur at hcm
    have hcf : m.cur t = false := by simpa using hc
    have : (μ.y.begins t || μ.n.begins t) = false := by rw [hcm]; exact hcf
    rw [Bool.or_eq_false_iff] at this
    rw [this.1, this.2, hcf]; rfl
theorem Rel.ref (r : Rel y μ m) (h : Gd m ly ln lf N rl sp rs) {t : Int} (ht : t ∈ ly ∨ t ∈ ln) (k : Int) : μ.ref t k = m.ref t k := by
  unfold Mem.ref AM.ref
  rcases r.where_ h ht with ⟨_, h2, h3, h4⟩ | ⟨_, h2, h3, h4⟩
  · rw [if_pos h2, h4, shAt_row r]
  · rw [h2, if_neg (by simp), h4, shAt_row r]
theorem Rel.fw (r : Rel y μ m) (h : Gd m ly ln lf N rl sp rs) {t : Int} (ht : t ∈ ly ∨ t ∈ ln) {j : Nat} (hj : j < (m.row t).length) : μ.fw t j = m.word (t + 1 + j) := by
  have hsz : t + 1 + (j : Int) < t + m.size t := by unfold AM.size; omega
  unfold Mem.fw
  rcases r.where_ h ht with ⟨h1, h2, h3, h4⟩ | ⟨h1, h2, h3, h4⟩
  · have := h.ybd h1; have e := r.y.fr
    rw [if_pos h2]; exact r.wordy (by omega) (by omega) (Gd.innery h h1 (by omega) hsz)
  · have := h.obd h1; have e := r.n.fr
    rw [h2, if_neg (by simp)]; exact r.wordn (by omega) (by omega) (h.inner h1 (by omega) hsz)
theorem Rel.putw (r : Rel y μ m) (h : Gd m ly ln lf N rl sp rs) {t : Int} (ht : t ∈ ly ∨ t ∈ ln) {j : Nat} (hj : j < (m.row t).length) (v : Int) : Rel y (μ.putw t j v) (m.put (t + 1 + j) v) := by
  have hsz : t + 1 + (j : Int) < t + m.size t := by unfold AM.size; omega
  unfold Mem.putw
  rcases r.where_ h ht with ⟨h1, h2, h3, h4⟩ | ⟨h1, h2, h3, h4⟩
  · have := h.ybd h1; have e := r.y.fr
    rw [if_pos h2]; exact r.puty h (by omega) (by omega) (Gd.innery h h1 (by omega) hsz)
  · have := h.obd h1; have e := r.n.fr
    rw [h2, if_neg (by simp)]; exact r.putn h (by omega) (by omega) (h.inner h1 (by omega) hsz)
/-- Any object that is not moved fits. -/
theorem Rel.roomo (r : Rel false μ m) (h : Gd m ly ln lf N rl sp rs) {w : Int} (h1 : μ.o.begins w = true) (h2 : ml μ.mv w = none) : μ.n.us + μ.osz μ.o w ≤ μ.n.ws.length := by
  have hb := r.bo w
  rw [h1] at hb
  have hb' := hb.symm
  simp only [Bool.and_eq_true, decide_eq_true_eq] at hb'
  obtain ⟨fe, f1, f2⟩ := h.f
  have hF := isF_iff.1 hb'.1
  have hm := (f2.hd w hF.1 hF.2).1 hb'.2
  have := (r.fwd h (v := w) (fun _ => by simpa using hm)).2.2
  exact (this h1 h2).1
theorem Rel.get (r : Rel false μ m) (h : AM.Good m ly ln lf φ A) (t k : Int) : (μ.get t k).1 = (m.get t k).1 ∧ (μ.get t k).2.1 = (m.get t k).2.1 ∧ Rel false (μ.get t k).2.2 (m.get t k).2.2 := by
  unfold Mem.get AM.get
  rw [r.fe h.g]
  by_cases he : m.fe t k = 0
  · rw [if_neg (show ¬ (m.fe t k ≠ 0) by rw [he]; simp), if_neg (show ¬ (m.fe t k ≠ 0) by rw [he]; simp)]
    obtain ⟨ht, j, hkj, hj⟩ := h.g.field he
    subst hkj
    simp only
    rw [r.ref h.g ht, r.bu, r.fw h.g ht hj]
    by_cases hc : (m.ref t j && m.busy) = true
    · rw [if_pos hc, if_pos hc]
      rw [Bool.and_eq_true] at hc
      have hp : t + 1 + (j : Int) ∈ m.pl t := mem_pl.2 ⟨j, (ref_iff hj).1 hc.1, rfl⟩
      have hv : m.ours false (m.word (t + 1 + j)) = true → (if false = true then m.word (t + 1 + j) ∈ ly ∧ m.word (t + 1 + j) ∈ ([] : List Int) else m.word (t + 1 + j) ∈ lf) := fun ho => by
        have hF : m.isF (m.word (t + 1 + j)) = true := ho
        simp only [Bool.false_eq_true, if_false]
        rcases ht with ht | ht
        · rcases h.g.wy t ht _ hp with g | g | g
          · rw [h.g.isFn (.inl g)] at hF; cases hF
          · rw [h.g.isFn (.inr (.inl g))] at hF; cases hF
          · rw [h.g.isFn (.inr (.inr g))] at hF; cases hF
        · rcases h.g.wo t ht _ hp with g | g | g | g
          · rw [h.g.isFn (.inl g)] at hF; cases hF
          · rw [h.g.isFn (.inr (.inr g))] at hF; cases hF
          · rw [h.g.isFn (.inr (.inl g.1))] at hF; cases hF
          · exact g.1
      obtain ⟨r1, r2, r3⟩ := r.fwd h.g hv
      obtain ⟨ln', φ', hJ, hG, hE, _⟩ := J.fwd (A := A) (φ := φ) ⟨h.g, h.s⟩ false hv (fun hq => by cases hq) (.inl rfl)
      have htlt : t < m.old ∨ (m.fwd false (m.word (t + 1 + j))).2.old ≤ t := by
        have := m.base_former; have := h.g.oldle; have := h.g.yl; have := h.g.sz.H0
        rcases ht with h1 | h1
        · have := h.g.ybd h1; omega
        · have := h.g.obd h1; omega
      have hput := r2.putw hJ.g (t := t) (j := j) (ht.imp id hG.sub) (by rw [hE.row htlt]; exact hj) (m.fwd false (m.word (t + 1 + j))).1
      have e : μ.fwd μ.o true (m.word (t + 1 + j)) = μ.fwd (μ.src (!false)) (!false) (m.word (t + 1 + j)) := rfl
      rw [e, r1]
      refine ⟨?_, rfl, hput⟩
      show _ = fup _ _ _ _
      rw [fup_same]
    · rw [if_neg hc, if_neg hc]
      exact ⟨rfl, rfl, r⟩
  · rw [if_pos he, if_pos he]; exact ⟨rfl, rfl, r⟩
theorem Rel.set (r : Rel false μ m) (h : AM.Good m ly ln lf φ A) (t k v : Int) : (μ.set t k v).1 = (m.set t k v).1 ∧ Rel false (μ.set t k v).2 (m.set t k v).2 := by
  unfold Mem.set AM.set
  rw [r.fe h.g]
  by_cases he : m.fe t k = 0
  · rw [if_neg (show ¬ (m.fe t k ≠ 0) by rw [he]; simp), if_neg (show ¬ (m.fe t k ≠ 0) by rw [he]; simp)]
    obtain ⟨ht, j, hkj, hj⟩ := h.g.field he
    subst hkj
    simp only
    rw [r.ref h.g ht, r.cur h.g]
    by_cases hc : ((m.ref t j && v != 0) && !m.cur v) = true
    · rw [if_pos hc, if_pos hc]; exact ⟨rfl, r⟩
    · rw [if_neg hc, if_neg hc]
      have hput := r.putw h.g ht hj v
      have hnew : μ.newly t j v = ((((m.ref t j && m.isO t) && m.isY v)) && !m.rem.contains (t, (j : Int))) := by
        unfold Mem.newly
        rw [r.ref h.g ht, r.kn]
        cases hr : m.ref t j with
        | false => rfl
        | true =>
          have hn : μ.n.begins t = m.isO t := by
            rw [r.bn h.g]
            rcases ht with h1 | h1
            · simp [h.g.yhead h1]
            · simp [h.g.ohead h1]
          have hy : μ.y.begins v = m.isY v := by
            rw [r.by_ h.g]
            by_cases h0 : v = 0
            · subst h0; rw [h.g.isYn (.inl rfl)]; rfl
            · rw [hr] at hc
              simp [h0] at hc
              rcases h.g.cur_iff.1 hc with h1 | h1
              · simp [h.g.yhead h1]
              · rw [h.g.isYn (.inr (.inl h1))]; rfl
          rw [hn, hy]
      rw [hnew]
      refine ⟨rfl, ?_⟩
      simp only
      split
      · have hk : μ.kn ++ [(t, (j : Int))] = m.rem ++ [(t, (j : Int))] := by rw [r.kn]
        rw [hk]
        exact ⟨hput.sh, hput.y, hput.n, hput.o, rfl, hput.bu, hput.sc, hput.mv, hput.le, hput.ob⟩
      · exact hput
  · rw [if_pos he, if_pos he]; exact ⟨rfl, r⟩

/-! ### Step -/
theorem back_at (st : List Bool) : ∀ (k j : Nat), j ≤ k → st.getD j false = true → (∀ i, j < i → i ≤ k → st.getD i false = false) → back st k = j
  | 0, j, h, _, _ => by have : j = 0 := by omega
                        subst this; rfl
  | k + 1, j, h, h1, h2 => by
    by_cases hj : j = k + 1
    · subst hj; exact back_here h1
    · rw [back_not (h2 (k + 1) (by omega) (Nat.le_refl _))]
      exact back_at st k j (by omega) h1 fun i a b => h2 i a (by omega)
/-- What is scanned, on both sides. -/
theorem Rel.scanned (r : Rel false μ m) (h : AM.Good m ly ln lf φ A) (hb : m.busy = true) (hs : m.scan < m.old) : StepPre μ ∧ μ.sc ≠ μ.send ∧ Rel false μ.step1 m.step1 := by
  obtain ⟨h1, h2⟩ := h.g.sc hb
  have h0 := h.g.oldle
  obtain ⟨a, ha, h3, h4, ho, hr⟩ := h.g.scanned h1 hs
  have hab := h.g.obd ha
  have e1 := r.n.fr; have e2 := r.n.us; have e3 := r.n.ln; have e4 := r.n.le; have e5 := r.n.st
  have hsc := r.sc
  have hse : μ.send = m.old := by unfold Mem.send; omega
  have hsk : (μ.sk : Int) = m.scan - m.base := by unfold Mem.sk; omega
  have hst : μ.n.st.getD (a - m.base).toNat false = true := by
    rw [r.n.sts _ (by omega), show m.base + ((a - m.base).toNat : Int) = a by omega]
    simpa using h.g.ohead ha
  have hso : μ.so = (a - m.base).toNat := by
    unfold Mem.so
    refine back_at _ _ _ (by omega) hst fun i g1 g2 => ?_
    rw [r.n.sts _ (by omega), h.g.inner ha (by omega) (by omega)]; rfl
  have hsx : μ.sx = m.head a - 1 := by
    unfold Mem.sx
    rw [hso, r.n.wd _ (by omega), show m.base + ((a - m.base).toNat : Int) = a by omega, hw_head (h.g.ohead ha)]
  have hsf : μ.sf = m.scan - a - 1 := by unfold Mem.sf; rw [hso]; omega
  have hrow : shAt μ.sh μ.sx = m.row a := by rw [hsx]; exact shAt_row r a
  have hir : μ.isRef = m.isRef m.scan := by
    unfold Mem.isRef AM.isRef AM.ref
    rw [ho, hrow, hsf]
    simp only
    congr 1
    by_cases hq : a < m.scan
    · simp [hq]; omega
    · simp [hq]; omega
  have hok := h.g.o.ok a ha
  have hhp := h.g.ohead ha
  have hHb := h.g.sz.H1; have hYb := h.g.sz.Y1; have hH0 := h.g.sz.H0; have hY0 := h.g.sz.Y0
  obtain ⟨u, o1, o2⟩ := r.o
  have o3 := o1.fr; have o4 := o1.ln
  have hle : 0 ≤ m.left ∧ m.left ≤ m.H := by have := h.g.oldle; omega
  refine ⟨⟨r.okn h.g, r.oko h.g, r.spo h.g, r.shl h.g, by have := o1.st; omega, by omega, by omega, fun _ => ⟨(a - m.base).toNat, by omega, hst⟩, fun _ => ⟨by rw [hsx]; omega, by rw [hsx, r.sh]; omega, by rw [hsf, hrow]; unfold AM.size at h4; omega⟩, by rw [r.le]; omega, fun _ _ g1 g2 => r.roomo h.g g1 g2⟩, by omega, ?_⟩
  unfold Mem.step1 AM.step1
  rw [hir]
  simp only
  by_cases hc : m.isRef m.scan = true
  · rw [if_pos hc, if_pos hc]
    have hp := hr.1 hc
    have hpb := pl_bd hp
    obtain ⟨q1, _⟩ := r.fwdAt (A := A) (φ := φ) (i := μ.sk) ⟨h.g, h.s⟩ (by omega) ha hp (fun hq => by cases hq) (fun _ => rfl)
    have hsw : μ.sw = μ.n.ws.getD μ.sk 0 := rfl
    have e : ({ (μ.fwd μ.o true μ.sw).2 with n := (μ.fwd μ.o true μ.sw).2.n.setw μ.sk (μ.fwd μ.o true μ.sw).1, sc := (μ.fwd μ.o true μ.sw).2.sc + 1 } : Mem) = { μ.fwdAt (!false) μ.sk with sc := (μ.fwdAt (!false) μ.sk).sc + 1 } := rfl
    rw [e]
    exact ⟨q1.sh, q1.y, q1.n, q1.o, q1.kn, q1.bu, by show (μ.fwdAt (!false) μ.sk).sc + 1 = _; rw [q1.sc], q1.mv, q1.le, q1.ob⟩
  · rw [if_neg hc, if_neg hc]
    exact ⟨r.sh, r.y, r.n, r.o, r.kn, r.bu, by show μ.sc + 1 = m.scan + 1; rw [r.sc], r.mv, r.le, r.ob⟩
theorem Rel.steps : ∀ (k : Nat) {μ : Mem} {m : AM} {ln : List Int} {φ : Int → Option Nat}, Rel false μ m → AM.Good m ly ln lf φ A → m.busy = true → Rel false (Mem.steps k μ) (AM.steps k m)
  | 0, μ, m, ln, φ, r, _, _ => r
  | k + 1, μ, m, ln, φ, r, h, hb => by
    have hse : μ.send = m.old := by unfold Mem.send; have := r.n.fr; have := r.n.us; omega
    by_cases hs : m.scan < m.old
    · obtain ⟨_, h2, h3⟩ := r.scanned h hb hs
      obtain ⟨ln1, φ1, g1, a1, a2, a3, a4, a5, a6, a7, _⟩ := h.step1 hb hs
      have e1 : Mem.steps (k + 1) μ = Mem.steps k μ.step1 := by
        show (if (μ.sc == μ.send) = true then _ else _) = _
        rw [if_neg (by simpa using h2)]
      have e2 : AM.steps (k + 1) m = AM.steps k m.step1 := by show (if _ then _ else _) = _; rw [if_pos hs]
      rw [e1, e2]
      exact Rel.steps k h3 g1 a7
    · have := (h.g.sc hb).2
      have e1 : Mem.steps (k + 1) μ = μ := by
        show (if (μ.sc == μ.send) = true then _ else _) = _
        rw [if_pos (by rw [r.sc, hse]; simp; omega)]
      have e2 : AM.steps (k + 1) m = m := by show (if _ then _ else _) = _; rw [if_neg hs]
      rw [e1, e2]; exact r
theorem Rel.fin (r : Rel false μ m) (h : AM.Good m ly ln lf φ A) : Rel false { μ with bu := false, le := 0, mv := [], o := μ.o.empty } m.fin := by
  have hb := m.base_former; have h0 := h.g.oldle; have hyl := h.g.yl; have hH := h.g.sz.H0; have hY := h.g.sz.Y0
  have hgt : ∀ x, x < m.former ∨ m.former + m.H ≤ x → m.fin.word x = m.word x ∧ m.fin.head x = m.head x ∧ m.fin.moved x = m.moved x := fun x hx => clear_other hx
  have hin : ∀ x, m.former ≤ x → x < m.former + m.H → m.fin.word x = 0 ∧ m.fin.head x = 0 ∧ m.fin.moved x = 0 := fun x h1 h2 => clear_in h1 h2
  obtain ⟨u, o1, o2⟩ := r.o
  have e1 := o1.fr; have e2 := o1.us; have e3 := o1.ln; have e4 := o1.le; have e5 := o1.st
  refine ⟨r.sh, r.y.other (fun t g1 g2 => (hgt t (by omega)).1) (fun t g1 g2 => (hgt t (by omega)).2.1), r.n.other (fun t g1 g2 => (hgt t (by omega)).1) (fun t g1 g2 => (hgt t (by omega)).2.1), ⟨0, ⟨e1, rfl, e3, ?_, Nat.zero_le _, fun i hi => ?_, fun i hi => by have hi' : i < 0 := hi; omega⟩, fun t g1 g2 g3 => ?_⟩, r.kn, rfl, r.sc, fun t ht => ?_, rfl, fun _ => rfl⟩
  · show (List.replicate μ.o.st.length false).length = μ.o.ws.length; rw [List.length_replicate]; exact e5
  · have hi' : i < μ.o.st.length := by simpa [Sp.empty] using hi
    show (List.replicate μ.o.st.length false).getD i false = decide (0 < m.fin.head (m.former + i))
    rw [(hin _ (by omega) (by omega)).2.1]
    simp [List.getD_eq_getElem?_getD, hi']
  · have g1' : m.former ≤ t := g1
    have g2' : t < m.former + m.H := g2
    rw [(hin t g1' g2').2.1] at g3; omega
  · have ht' := isF_iff.1 (show m.isF t = true from ht)
    rw [if_pos (hin t (by omega) (by omega)).2.2]; rfl
theorem Rel.step (r : Rel false μ m) (h : AM.Good m ly ln lf φ A) (w : Int) : (μ.step w).1 = (m.step w).1 ∧ (μ.step w).2.1 = (m.step w).2.1 ∧ Rel false (μ.step w).2.2 (m.step w).2.2 := by
  unfold Mem.step AM.step
  rw [r.bu]
  by_cases hw : decide (w < 0) = true
  · rw [if_pos hw, if_pos hw]; exact ⟨rfl, rfl, r⟩
  · rw [if_neg hw, if_neg hw]
    by_cases hb : (!m.busy) = true
    · rw [if_pos hb, if_pos hb]; exact ⟨rfl, rfl, r⟩
    · rw [if_neg hb, if_neg hb]
      have hbz : m.busy = true := by simpa using hb
      simp only
      have rs := r.steps w.toNat h hbz
      obtain ⟨ln', φ', g, _, _, _, _, _, _, _, _, _, g10, _⟩ := h.steps w.toNat hbz
      have hsl : (Mem.steps w.toNat μ).sleft = (AM.steps w.toNat m).old - (AM.steps w.toNat m).scan := by
        unfold Mem.sleft Mem.send
        have := rs.n.fr; have := rs.n.us; have := rs.sc; omega
      by_cases hlt : (AM.steps w.toNat m).scan < (AM.steps w.toNat m).old
      · rw [if_pos hlt]
        refine ⟨hsl, rfl, ?_⟩
        have : (Mem.steps w.toNat μ).stepEnd = Mem.steps w.toNat μ := by unfold Mem.stepEnd; rw [if_neg (by rw [hsl]; simp; omega)]
        rw [this]; exact rs
      · rw [if_neg hlt]
        refine ⟨by rw [hsl]; show _ = (0 : Int); omega, rfl, ?_⟩
        have : (Mem.steps w.toNat μ).stepEnd = { Mem.steps w.toNat μ with bu := false, le := 0, mv := [], o := (Mem.steps w.toNat μ).o.empty } := by unfold Mem.stepEnd; rw [if_pos (by rw [hsl]; simp; omega)]
        rw [this]; exact rs.fin g
end
end Go.Proofs.Ytmhmpjgkkpbnnaa
