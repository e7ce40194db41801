/-
  The reference's Model: the objects and the roots of the picture. Conditions: what the heap holds, that objects are in order.
  The reference's Model: the acts. Conditions: what the heap holds.
  The reference's Model, joined. Conditions: what the heap holds.
  The law HeapModels, walked. Conditions: what the heap holds.
  HeapModels: for every input the law answers true, and the input reads as it did. No condition.
-/
import Derived.Test.YtmhmpjgkkpbnnaaM14
import Derived.Test.YtmhmpjgkkpbnnaaM13
import Derived.Test.YtmhmpjgkkpbnnaaRows
import Derived.Test.YtmhmpjgkkpbnnaaM12
namespace Go.Proofs.Ytmhmpjgkkpbnnaa
open Go.Ck Fx Go.Hm Go.Hm.AM
attribute [local irreducible] St Cd Xt Nx DrL LsW
section
variable {R : Res} {v0 lv rv mv : Value} {sh : List (List Bool)} {xs : List Int} {B : SB} {N T b6 b18 : Nat} {Q : Exit → Act → World → Prop} {w0 : World} {hr : SH} {l : List Int}
theorem spic_parts (g : Gr) (T : Nat) (xs : List Int) : (g.pic T xs).shapes = (g.met T xs).map g.sh ∧ (g.pic T xs).fields = (g.met T xs).map (g.prow (g.met T xs)) ∧ (g.pic T xs).roots = xs.map fun r => 1 + idx (g.met T xs) r := ⟨rfl, rfl, rfl⟩
set_option maxHeartbeats 4000000 in
set_option maxRecDepth 100000 in
theorem mm_objs_c (hS : Shp R v0 sh) (hB : SOk sh (stA B) xs) (hF : StF B) (hw : ∀ l ∈ sh, l.length ≤ 100) (hBl : B.length ≤ 2000) {la : Option Addr} {lcp : Nat} (hlv : lv = .slice la B.length lcp) (hla : 0 < B.length → ∃ b, la = some ⟨b, 0, none⟩)
    (hM : l = (sgr sh (stA B)).met T xs) (hmet : PM (Sn (stA B)) l) {ma : Option Addr} {mcp : Nat} (hmv : mv = .slice ma l.length mcp) (hma : 0 < l.length → ∃ b, ma = some ⟨b, 0, none⟩)
    (hcont : ∀ us sv fv, us.length = l.length → (∀ (j : Nat) (u : Value) (x : List Int), us[j]? = some u → ((sgr sh (stA B)).pic T xs).fields[j]? = some x → VForm u x.length (ints x)) → Xt ⟨Try.prog, none, 325, [], w0⟩ .normal Q [(0, v0), (1, .int .i64 (N : Nat)), (6, .pointer (some ⟨b6, 0, none⟩)), (8, lv), (9, rv), (13, mv), (18, .pointer (some ⟨b18, 0, none⟩))] (pt b18 (cl [sv, fv, .slice none 0 0, .int .i64 0] 46) :: vec sv 3 1 l.length (ints ((sgr sh (stA B)).pic T xs).shapes) :: vec fv 34 1 l.length us :: Res.star (rowsI us ((sgr sh (stA B)).pic T xs).fields) :: vec mv 3 1 l.length (ints l) :: ([vec lv 151 2 B.length (stC B), Res.star (stRows B), vec rv 3 1 N (ints xs), R] ++ hr))) :
    Cd ⟨Try.prog, none, 325, [], w0⟩ (cdr (cdl (cdr (cdr (cdr (cdr (cdr (cdr (cdr (cdr (cdr (cdr (cdr (fbody Try.f38)))))))))))))) Q [(0, v0), (1, .int .i64 (N : Nat)), (6, .pointer (some ⟨b6, 0, none⟩)), (8, lv), (9, rv), (13, mv), (18, .pointer (some ⟨b18, 0, none⟩)), (19, .int .i64 0)] (pt b18 (cl [.slice none 0 0, .slice none 0 0, .slice none 0 0, .int .i64 0] 46) :: vec mv 3 1 l.length (ints l) :: ([vec lv 151 2 B.length (stC B), Res.star (stRows B), vec rv 3 1 N (ints xs), R] ++ hr)) := by
  have hAl : (stA B).length = B.length := List.length_map ..
  have hml := sn_len hmet
  obtain ⟨p1, p2, p3⟩ := spic_parts (sgr sh (stA B)) T xs
  rw [← hM] at p1 p2 p3
  simp only [List.cons_append, List.nil_append]
  refine cd_vecnil 3 1 ?_
  refine cd_vecnil 34 1 ?_
  refine cd_star0 (cd_block (cd_loop (σ := Nat × List Value × Value × Value) (fun z => [(0, v0), (1, .int .i64 (N : Nat)), (6, .pointer (some ⟨b6, 0, none⟩)), (8, lv), (9, rv), (13, mv), (18, .pointer (some ⟨b18, 0, none⟩)), (19, .int .i64 (z.1 : Nat))]) (fun z => pt b18 (cl [z.2.2.1, z.2.2.2, .slice none 0 0, .int .i64 0] 46) :: vec z.2.2.1 3 1 z.1 (ints (((sgr sh (stA B)).pic T xs).shapes.take z.1)) :: vec z.2.2.2 34 1 z.1 z.2.1 :: Res.star (rowsI z.2.1 (((sgr sh (stA B)).pic T xs).fields.take z.1)) :: vec mv 3 1 l.length (ints l) :: ([vec lv 151 2 B.length (stC B), Res.star (stRows B), vec rv 3 1 N (ints xs), R] ++ hr)) (fun z => z.1 ≤ l.length ∧ z.2.1.length = z.1 ∧ ∀ (j : Nat) (u : Value) (x : List Int), z.2.1[j]? = some u → ((sgr sh (stA B)).pic T xs).fields[j]? = some x → VForm u x.length (ints x)) (fun z => l.length - z.1) (0, [], .slice none 0 0, .slice none 0 0) ⟨Nat.zero_le _, rfl, fun j u x hx _ => absurd hx (by show ¬ ([] : List Value)[j]? = some u; simp)⟩ ⟨rfl, rfl, rfl, rfl, rfl, rfl, rfl, rfl, trivial⟩ (by rw [List.take_zero, List.take_zero]; simp only [List.cons_append, List.nil_append]; exact (by (repeat (refine Sub.sel (by repeat (first | exact Sel.here | apply Sel.there)) ?_)); (repeat apply Sub.cons); first | exact Sub.refl _ | exact Sub.nil _)) ?_))
  rintro ⟨i, us, sv, fv⟩ ⟨hi2, hul, hform⟩
  dsimp only at hi2 hul hform ⊢
  simp only [List.cons_append, List.nil_append]
  refine cd_seq (cd_seq (cd_region (st_v (v_move rfl) (st_v (v_move rfl) (st_v (v_len (congrArg some hmv) Try.underlying34) (st_v (v_lss rfl rfl) (st_nil (nx_kp [0, 1, 6, 8, 9, 13, 18, 19, 239] rfl (nx_then (cd_cond rfl (fun hc5 => ?_) (fun hc5 => ?_)))))))))))
  · skip
    have hlt : i < l.length := by simpa using hc5
    obtain ⟨mb, rfl⟩ := hma (by omega)
    have hsn : Sn (stA B) l[i] := hmet.s _ (List.getElem_mem hlt)
    obtain ⟨j, q, K⟩ := known (R := R) (v0 := v0) hB hw hsn
    have hform2 := hF q K.mem
    have oq := VForm.one hform2
    have hri := st_row hF K.mem
    obtain ⟨ua, ucp, hue, _⟩ := id hri
    obtain ⟨lb, rfl⟩ := hla (by have := K.i2; omega)
    have hrds := stC_rds (E := 151) (b := lb) (n := B.length) (cp := lcp) K.at'
    rw [← hlv] at hrds
    have hrd : Rd (vec mv 3 1 l.length (ints l)) ⟨mb, i, none⟩ (.int .i64 l[i]) := rd_vec hmv (by simp [ints, hlt])
    have hsl := hsn.2
    have hsl1 := hsn.1
    have hle := K.le
    have hAl2 : ((sgr sh (stA B)).prow l l[i]).length = q.2.2.length := by rw [sprow_len, K.row, K.len]
    have hs1 : ((sgr sh (stA B)).pic T xs).shapes.take (i + 1) = ((sgr sh (stA B)).pic T xs).shapes.take i ++ [q.2.1] := by
      rw [p1, take_map_succ hlt]
      congr 2
      show (obj0 (stA B) l[i]).1 = _
      rw [K.ob]
    have hf1 : ((sgr sh (stA B)).pic T xs).fields.take (i + 1) = ((sgr sh (stA B)).pic T xs).fields.take i ++ [(sgr sh (stA B)).prow l l[i]] := by rw [p2]; exact take_map_succ hlt
    have hfl : ((sgr sh (stA B)).pic T xs).fields.length = l.length := by rw [p2, List.length_map]
    have hfi : ((sgr sh (stA B)).pic T xs).fields[i]? = some ((sgr sh (stA B)).prow l l[i]) := by rw [p2, List.getElem?_map, List.getElem?_eq_getElem hlt]; rfl
    refine cd_skip (xt_then (cd_seq (cd_block (cd_seq (cd_region (st_v (v_move rfl) (st_v (v_move rfl) (st_v (v_move rfl) (st_v (v_idx i (congrArg some hmv) rfl sl34 rfl hlt) (st_v (v_ld rfl ld3) ?_))))))))))
    refine st_v (v_sub rfl rfl (by unfold I64 at *; omega)) (st_v (v_indexAddr (o' := j * 2) (congrArg some hlv) rfl sl147 K.i1 K.i2 (by omega)) (st_v (v_loadR rfl ld151 rfl (by repeat (first | exact Sel.here | apply Sel.there)) hrds) ?_))
    refine st_alc al151 fun b20 => ?_
    refine st_stoW rfl rfl sz151 rfl (by simp only [List.all_cons, List.all_nil, oq]; rfl) ?_
    refine st_nil (nx_kp [0, 1, 6, 8, 9, 13, 18, 19, 20] rfl (nx_then (cd_seq (cd_region (st_v (v_fieldAddr rfl fa151_1 rfl) (st_v (v_ld rfl ld34) ?_))))))
    refine st_v (v_len (congrArg some hue) Try.underlying34) (st_make (n := q.2.2.length) rfl rfl rfl Try.underlying34 inf3 rfl (by omega) (by omega) (ltn rfl) fun b90 => ?_)
    refine st_v (v_assign rfl) (st_nil (nx_kp [0, 1, 6, 8, 9, 13, 18, 19, 20, 21] rfl (nx_then (cd_seq (cd_seq (cd_region (st_v (v_assign rfl) (st_nil (nx_then (cd_use (mm_row_c (R := R) (v0 := v0) (lv := lv) (rv := rv) (mv := mv) (xs := xs) (N := N) (b6 := b6) (b18 := b18) (b20 := b20) (b90 := b90) (w0 := w0) (hr := pt b18 (cl [sv, fv, .slice none 0 0, .int .i64 0] 46) :: vec sv 3 1 i (ints (((sgr sh (stA B)).pic T xs).shapes.take i)) :: vec fv 34 1 i us :: Res.star (rowsI us (((sgr sh (stA B)).pic T xs).fields.take i)) :: hr) hS hF K hmv (fun _ => ⟨mb, rfl⟩) (by omega) ?_)))))))))))
    refine xt_shut (v := .slice (some ⟨b90, 0, none⟩) q.2.2.length q.2.2.length) (sz := 1) (n := q.2.2.length) (l := ints ((sgr sh (stA B)).prow l l[i])) (l' := ints ((sgr sh (stA B)).prow l l[i])) (E := 3) ⟨rfl, by rw [ints_length, hAl2]; simp, Nat.le_refl _, by unfold maxLen; omega, by rw [List.append_nil, ints_length, hAl2]; simp⟩ rfl (by repeat (first | exact Sel.here | apply Sel.there)) ?_
    refine xt_then (cd_seq (cd_region (st_v (v_fieldAddr rfl fa46_0 rfl) (st_v (v_fieldAddr rfl fa42_0 rfl) (st_v (v_ld rfl ld34) ?_)))))
    refine st_v (v_fieldAddr rfl fa151_0 rfl) (st_v (v_ld rfl ld3) ?_)
    refine st_buildSlice (cells := [.int .i64 q.2.1]) rfl Try.underlying34 inf3 rfl rfl (by kernel_rfl) (ltn rfl) fun b143 => ?_
    refine st_append (news := [.int .i64 q.2.1]) rfl rfl Try.underlying34 inf3 rfl (ltn rfl) (by repeat (first | exact Sel.here | apply Sel.there)) rfl (fun j u hu => by repeat (first | exact at_here (rd_cl (by simpa using hu)) | apply at_there)) (ones rfl) (by omega) (by omega) (ltn rfl) fun sv' hsv' hv1 => ?_
    refine st_v (v_fieldAddr rfl fa46_0 rfl) (st_v (v_fieldAddr rfl fa42_0 rfl) (st_sto rfl rfl sz34 ?_))
    refine st_nil (nx_kp [0, 1, 6, 8, 9, 13, 18, 19, 21] rfl (nx_then (cd_region (st_v (v_fieldAddr rfl fa46_0 rfl) (st_v (v_fieldAddr rfl fa42_1 rfl) (st_v (v_ld rfl ld40) ?_))))))
    refine st_v (v_move rfl) (st_buildSlice (cells := [.slice (some ⟨b90, 0, none⟩) q.2.2.length q.2.2.length]) rfl Try.underlying40 inf34 rfl rfl (fill_one rfl _ (by simp)) (ltn rfl) fun b151 => ?_)
    refine st_append (news := [.slice (some ⟨b90, 0, none⟩) q.2.2.length q.2.2.length]) rfl rfl Try.underlying40 inf34 rfl (ltn rfl) (by repeat (first | exact Sel.here | apply Sel.there)) rfl (fun j u hu => by repeat (first | exact at_here (rd_cl (by simpa using hu)) | apply at_there)) (fun x hx => by simp at hx; subst hx; rfl) (by omega) (by omega) (ltn rfl) fun fv' hfv' hv2 => ?_
    refine st_v (v_fieldAddr rfl fa46_0 rfl) (st_v (v_fieldAddr rfl fa42_1 rfl) (st_sto rfl rfl sz40 ?_))
    refine st_nil (nx_kp [0, 1, 6, 8, 9, 13, 18, 19] rfl (nx_xt (xt_normal_block (xt_then (cd_region (st_v (v_move rfl) (st_v (v_add rfl rfl (by unfold I64 at *; omega)) (st_v (v_assign rfl) (st_nil (nx_kp [0, 1, 6, 8, 9, 13, 18, 19] rfl (nx_xt (xt_restar (k' := rowsI (us ++ [.slice (some ⟨b90, 0, none⟩) q.2.2.length q.2.2.length]) (((sgr sh (stA B)).pic T xs).fields.take (i + 1))) (r := vec (.slice (some ⟨b90, 0, none⟩) q.2.2.length q.2.2.length) 3 1 q.2.2.length (ints ((sgr sh (stA B)).prow l l[i]))) (k := rowsI us (((sgr sh (stA B)).pic T xs).fields.take i)) (by repeat (first | exact Sel.here | apply Sel.there)) (by repeat (first | exact Sel.here | apply Sel.there)) (by rw [hf1, rowsI_snoc (by rw [List.length_take]; omega), hAl2]; exact (List.perm_append_singleton _ _).symm) ?_))))))))))))
    rw [show ints (((sgr sh (stA B)).pic T xs).shapes.take i) ++ [.int .i64 q.2.1] = ints (((sgr sh (stA B)).pic T xs).shapes.take (i + 1)) by rw [hs1]; simp [ints]]
    refine xt_ag ((i + 1, us ++ [.slice (some ⟨b90, 0, none⟩) q.2.2.length q.2.2.length], sv', fv') : Nat × List Value × Value × Value) ⟨hlt, by simp [hul], snoc_all (P := fun (u : Value) (x : List Int) => VForm u x.length (ints x)) hul hform hfi (.inr ⟨b90, _, by rw [hAl2]⟩)⟩ (by dsimp only; omega) (by repeat (first | exact trivial | refine ⟨rfl, ?_⟩)) ?_
    dsimp only
    exact (by (repeat (refine Sub.sel (by repeat (first | exact Sel.here | apply Sel.there)) ?_)); (repeat apply Sub.cons); first | exact Sub.refl _ | exact Sub.nil _)
  · skip
    have hge : i = l.length := by have : l.length ≤ i := by simpa using hc5
                                  omega
    have e1 : ((sgr sh (stA B)).pic T xs).shapes.take i = ((sgr sh (stA B)).pic T xs).shapes := List.take_of_length_le (by rw [p1, List.length_map]; omega)
    have e2 : ((sgr sh (stA B)).pic T xs).fields.take i = ((sgr sh (stA B)).pic T xs).fields := List.take_of_length_le (by rw [p2, List.length_map]; omega)
    rw [e1, e2, hge]
    refine cd_exit (xt_exit_then (xt_exit_then (xt_exit_block ?_)))
    exact xt_use (hcont us sv fv (by omega) hform)
set_option maxHeartbeats 4000000 in
set_option maxRecDepth 100000 in
theorem mm_rts_c (hxl : xs.length = N) {ra : Option Addr} {rcp : Nat} (hrv : rv = .slice ra N rcp) (hra : 0 < N → ∃ b, ra = some ⟨b, 0, none⟩) (hN : N ≤ 200) {ma : Option Addr} {mcp : Nat} (hmv : mv = .slice ma l.length mcp) (hma : 0 < l.length → ∃ b, ma = some ⟨b, 0, none⟩) (hll : l.length ≤ 2000) {sv fv : Value}
    (hcont : ∀ wv, Xt ⟨Try.prog, none, 325, [], w0⟩ .normal Q [(6, .pointer (some ⟨b6, 0, none⟩)), (18, .pointer (some ⟨b18, 0, none⟩))] (pt b18 (cl [sv, fv, wv, .int .i64 0] 46) :: vec wv 3 1 xs.length (ints (xs.map fun r => 1 + idx l r)) :: vec mv 3 1 l.length (ints l) :: vec rv 3 1 N (ints xs) :: hr)) :
    Cd ⟨Try.prog, none, 325, [], w0⟩ (cdr (cdl (cdr (cdr (cdr (cdr (cdr (cdr (cdr (cdr (cdr (cdr (cdr (cdr (fbody Try.f38))))))))))))))) Q [(1, .int .i64 (N : Nat)), (6, .pointer (some ⟨b6, 0, none⟩)), (9, rv), (13, mv), (18, .pointer (some ⟨b18, 0, none⟩)), (23, .int .i64 0)] (pt b18 (cl [sv, fv, .slice none 0 0, .int .i64 0] 46) :: vec mv 3 1 l.length (ints l) :: vec rv 3 1 N (ints xs) :: hr) := by
  have hri := rowI_vec hrv hra hxl
  refine cd_vecnil 3 1 ?_
  refine cd_block (cd_loop (σ := Nat × Value) (fun z => [(1, .int .i64 (N : Nat)), (6, .pointer (some ⟨b6, 0, none⟩)), (9, rv), (13, mv), (18, .pointer (some ⟨b18, 0, none⟩)), (23, .int .i64 (z.1 : Nat))]) (fun z => pt b18 (cl [sv, fv, z.2, .int .i64 0] 46) :: vec z.2 3 1 z.1 (ints ((xs.map fun r => 1 + idx l r).take z.1)) :: vec mv 3 1 l.length (ints l) :: vec rv 3 1 N (ints xs) :: hr) (fun z => z.1 ≤ xs.length) (fun z => xs.length - z.1) (0, .slice none 0 0) (Nat.zero_le _) ⟨rfl, rfl, rfl, rfl, rfl, rfl, trivial⟩ (by (repeat (refine Sub.sel (by repeat (first | exact Sel.here | apply Sel.there)) ?_)); (repeat apply Sub.cons); first | exact Sub.refl _ | exact Sub.nil _) ?_)
  rintro ⟨i, wv⟩ hi
  dsimp only at hi ⊢
  refine cd_seq (cd_seq (cd_region (st_v (v_move rfl) (st_v (v_move rfl) (st_v (v_lss rfl rfl) (st_nil (nx_kp [1, 6, 9, 13, 18, 23, 307] rfl (nx_then (cd_cond rfl (fun hc => ?_) (fun hc => ?_))))))))))
  · skip
    have hlt : i < xs.length := by rw [hxl]; simpa using hc
    obtain ⟨b, o, cp', hv2, hrd⟩ := hri.at hlt
    have hix := idx_lt (l := l) (t := xs[i])
    have ht : (xs.map fun r => 1 + idx l r).take (i + 1) = (xs.map fun r => 1 + idx l r).take i ++ [1 + idx l xs[i]] := take_map_succ hlt
    refine cd_skip (xt_then (cd_seq (cd_block (cd_draw (ork [(0, 2), (1, 2), (2, 1), (3, 2), (4, 2), (5, 2), (6, 2), (7, 1), (8, 1), (9, 2), (10, 0), (11, 0), (12, 2), (13, 2), (14, 0)] .nil) (fun i => !(Nat.beq i 11 || Nat.beq i 14)) [pt b18 (cl [sv, fv, wv, .int .i64 0] 46), vec mv 3 1 l.length (ints l), vec rv 3 1 N (ints xs)] mixed (by kernel_rfl) ?_))))
    refine dp_v rfl (v_fieldAddr rfl fa46_0 rfl) (dp_v rfl (v_fieldAddr rfl fa42_2 rfl) (dr_v rfl (v_ld rfl ld34) ?_))
    refine dp_v rfl (v_move rfl) (dp_v rfl (v_move rfl) (dp_v rfl (v_move rfl) (dp_v rfl (v_ixo i (congrArg some hv2) rfl sl34 rfl hlt) (dr_v rfl (v_ld rfl ld3) ?_))))
    refine dr_clr rfl rfl rfl en66 rfl (rindex_ct (rowI_vec hmv hma rfl) (by omega)) ?_
    refine dp_v rfl (v_add rfl rfl (by unfold I64 at *; omega)) (dr_eff rfl (st_buildSlice (cells := [.int .i64 (1 + idx l xs[i])]) rfl Try.underlying34 inf3 rfl rfl (by kernel_rfl) (ltn rfl) fun b171 => dr_nx ?_))
    refine dr_eff rfl (st_append (news := [.int .i64 (1 + idx l xs[i])]) rfl rfl Try.underlying34 inf3 rfl (ltn rfl) (by repeat (first | exact Sel.here | apply Sel.there)) rfl (fun j u hu => by repeat (first | exact at_here (rd_cl (by simpa using hu)) | apply at_there)) (ones rfl) (by omega) (by omega) (ltn rfl) fun wv' hwv' hv1' => dr_nx ?_)
    refine dp_v rfl (v_fieldAddr rfl fa46_0 rfl) (dp_v rfl (v_fieldAddr rfl fa42_2 rfl) (dr_eff rfl (st_sto rfl rfl sz34 (dr_nx ?_))))
    refine dr_nil (nx_kp [1, 6, 9, 13, 18, 23] rfl (nx_xt (xt_normal_block (xt_then (cd_region (st_v (v_move rfl) (st_v (v_add rfl rfl (by unfold I64 at *; omega)) (st_v (v_assign rfl) (st_nil (nx_kp [1, 6, 9, 13, 18, 23] rfl (nx_xt ?_)))))))))))
    rw [show ints ((xs.map fun r => 1 + idx l r).take i) ++ [.int .i64 (1 + idx l xs[i])] = ints ((xs.map fun r => 1 + idx l r).take (i + 1)) by rw [ht]; simp [ints]]
    refine xt_ag ((i + 1, wv') : Nat × Value) hlt (by dsimp only; omega) (by repeat (first | exact trivial | refine ⟨rfl, ?_⟩)) ?_
    dsimp only
    exact (by (repeat (refine Sub.sel (by repeat (first | exact Sel.here | apply Sel.there)) ?_)); (repeat apply Sub.cons); first | exact Sub.refl _ | exact Sub.nil _)
  · skip
    have hge : i = xs.length := by have : N ≤ i := by simpa using hc
                                   omega
    rw [hge, List.take_of_length_le (by simp)]
    refine cd_exit (xt_exit_then (xt_exit_then (xt_exit_block ?_)))
    exact xt_use (hcont wv)
end
end Go.Proofs.Ytmhmpjgkkpbnnaa
namespace Go.Ck
open Go
theorem set_perm {α : Type} : ∀ {l : List α} {j : Nat} (a : α), j < l.length → (l.set j a).Perm (a :: l.eraseIdx j)
  | [], _, _, h => by simp at h
  | _ :: t, 0, a, _ => .refl _
  | b :: t, j + 1, a, h => by
    rw [List.set_cons_succ, List.eraseIdx_cons_succ]
    exact ((set_perm a (by simpa using h)).cons b).trans (.swap ..)
theorem erase_perm {α : Type} : ∀ {l : List α} {j : Nat} {a : α}, l[j]? = some a → l.Perm (a :: l.eraseIdx j)
  | [], _, _, h => by simp at h
  | b :: t, 0, a, h => by
    have : b = a := by simpa using h
    subst this; exact .refl _
  | b :: t, j + 1, a, h => by
    rw [List.eraseIdx_cons_succ]
    exact ((erase_perm (by simpa using h)).cons b).trans (.swap ..)
theorem holds_take {w : World} {h h' k : SH} {r : Res} {j : Nat} (hj : k[j]? = some r) (s : Sel h (Res.star k) h') (hh : Holds w h) : Holds w (r :: Res.star (k.eraseIdx j) :: h') := by
  have h1 := star_iff.1 (hh.sel s)
  have h2 := (HoldsF.perm ((erase_perm hj).append_right h')).1 h1
  have h3 : HoldsF (hp w) (k.eraseIdx j ++ (r :: h')) := (HoldsF.perm (List.perm_middle.symm)).1 h2
  exact (HoldsF.perm (.swap ..)).1 (star_iff.2 h3)
section
variable {c : Cx} {x : Code} {Q : Exit → Act → World → Prop} {e : Env} {h h' k : SH}
theorem cd_takeidx {r : Res} {j : Nat} (hj : k[j]? = some r) (s : Sel h (Res.star k) h') (hx : Cd c x Q e (r :: Res.star (k.eraseIdx j) :: h')) : Cd c x Q e h := fun a w hk hh hw => hx a w hk (holds_take hj s hh) hw
end
end Go.Ck
namespace Go.Proofs.Ytmhmpjgkkpbnnaa
open Go.Ck Fx Go.Hm Go.Hm.AM
attribute [local irreducible] St Cd Xt Nx DrL LsW
theorem stA_app (B : SB) (q : Value × Int × List Int) : stA (B ++ [q]) = stA B ++ [q.2] := by unfold stA; simp
theorem stC_app (B : SB) (q : Value × Int × List Int) : stC (B ++ [q]) = stC B ++ [.int .i64 q.2.1, q.1] := by unfold stC; simp
theorem stRows_app (B : SB) (q : Value × Int × List Int) : stRows (B ++ [q]) = stRows B ++ [vec q.1 3 1 q.2.2.length (ints q.2.2)] := by unfold stRows; simp
theorem stA_set {B : SB} {j : Nat} {q : Value × Int × List Int} (h : B[j]? = some q) (c : Nat) (v : Int) : stA (B.set j (q.1, q.2.1, q.2.2.set c v)) = setf (stA B) j c v := by
  unfold stA setf
  apply List.ext_getElem?
  intro i
  rw [List.getElem?_map, List.getElem?_set, List.getElem?_modify, List.getElem?_map]
  by_cases hi : j = i
  · subst hi
    have hl := (List.getElem?_eq_some_iff.1 h).1
    rw [h]
    simp [hl]
  · simp [hi]
theorem stC_set {B : SB} {j : Nat} {q : Value × Int × List Int} (h : B[j]? = some q) (fs : List Int) : stC (B.set j (q.1, q.2.1, fs)) = stC B := by
  have : ∀ (B : SB) (j : Nat), B[j]? = some q → (B.set j (q.1, q.2.1, fs)).map (fun q => ([.int .i64 q.2.1, q.1] : List Value)) = B.map (fun q => ([.int .i64 q.2.1, q.1] : List Value)) := fun B j h => by
    rw [List.map_set]
    apply List.ext_getElem?
    intro i
    rw [List.getElem?_set]
    by_cases hi : j = i
    · subst hi
      have hl := (List.getElem?_eq_some_iff.1 h).1
      rw [List.getElem?_map, h]
      simp [hl]
    · simp [hi]
  unfold stC
  rw [List.flatMap_def, List.flatMap_def, this B j h]
theorem stF_set {B : SB} (hF : StF B) {j : Nat} {q : Value × Int × List Int} (h : B[j]? = some q) {fs : List Int} (hl : fs.length = q.2.2.length) (hpos : 0 < q.2.2.length) : StF (B.set j (q.1, q.2.1, fs)) := fun p hp => by
  rcases List.mem_or_eq_of_mem_set hp with hp | rfl
  · exact hF p hp
  · rcases hF q (List.mem_of_getElem? h) with ⟨_, h0, _⟩ | ⟨b, cp, h1⟩
    · omega
    · exact .inr ⟨b, cp, by dsimp only; rw [hl]; exact h1⟩
theorem rootsP_a {p : Go.Hm.Act} {n : Int} (h : rootsP p n = true) (hk : p.k = 1 ∨ p.k = 2 ∨ p.k = 3 ∨ p.k = 4 ∨ p.k = 5 ∨ p.k = 6) : 0 ≤ p.a ∧ p.a < n := by
  unfold rootsP at h
  split at h
  · simp at h; omega
  · split at h
    · simp at h; omega
    · rename_i h1 h2
      simp at h1 h2
      omega
theorem rootsP_b {p : Go.Hm.Act} {n : Int} (h : rootsP p n = true) (hk : p.k = 2 ∨ p.k = 3 ∨ p.k = 6) : 0 ≤ p.b ∧ p.b < n := by
  unfold rootsP at h
  split at h
  · rename_i h1; simp at h1; omega
  · split at h
    · simp at h; omega
    · rename_i h1 h2
      simp at h2
      omega
structure MaS where
  i : Nat
  B : SB
  lv : Value
section
variable {R : Res} {v0 v2 rv : Value} {sh : List (List Bool)} {ac : List Go.Hm.Act} {N b6 : Nat} {Q : Exit → Act → World → Prop} {w0 : World} {hr : SH}
set_option maxHeartbeats 8000000 in
set_option maxRecDepth 100000 in
theorem mm_acts_c (hS : Shp R v0 sh) (hX : ActsV R v2 ac) (ha : ∀ x ∈ ac, I64 x.a) (hw : ∀ l ∈ sh, l.length ≤ 60) (hsl : sh.length ≤ 60) (hal : ac.length ≤ 2000) (hN : N ≤ 200) {ra : Option Addr} {rcp : Nat} (hrv : rv = .slice ra N rcp) (hra : 0 < N → ∃ b, ra = some ⟨b, 0, none⟩)
    (hcont : ∀ B lv, stA B = (sacts sh ac [] (List.replicate N 0)).1 → StF B → Xt ⟨Try.prog, none, 325, [], w0⟩ .normal Q [(0, v0), (1, .int .i64 (N : Nat)), (6, .pointer (some ⟨b6, 0, none⟩)), (8, lv), (9, rv)] (vec lv 151 2 B.length (stC B) :: Res.star (stRows B) :: vec rv 3 1 N (ints (sacts sh ac [] (List.replicate N 0)).2) :: R :: hr)) :
    Cd ⟨Try.prog, none, 325, [], w0⟩ (cdr (cdl (cdr (cdr (cdr (cdr (cdr (cdr (fbody Try.f38))))))))) Q [(0, v0), (1, .int .i64 (N : Nat)), (2, v2), (6, .pointer (some ⟨b6, 0, none⟩)), (8, .slice none 0 0), (9, rv), (10, .int .i64 0)] (vec rv 3 1 N (ints (List.replicate N 0)) :: R :: hr) := by
  obtain ⟨sa, scp, hsv, _⟩ := id hS
  obtain ⟨xa, xcp, hxv, _⟩ := id hX
  refine cd_vecnil 151 2 ?_
  refine cd_star0 (cd_block (cd_loop (σ := MaS) (fun s => [(0, v0), (1, .int .i64 (N : Nat)), (2, v2), (6, .pointer (some ⟨b6, 0, none⟩)), (8, s.lv), (9, rv), (10, .int .i64 (s.i : Nat))]) (fun s => vec s.lv 151 2 s.B.length (stC s.B) :: Res.star (stRows s.B) :: vec rv 3 1 N (ints (sacts sh (ac.take s.i) [] (List.replicate N 0)).2) :: R :: hr) (fun s => s.i ≤ ac.length ∧ stA s.B = (sacts sh (ac.take s.i) [] (List.replicate N 0)).1 ∧ StF s.B) (fun s => ac.length - s.i) ⟨0, [], .slice none 0 0⟩ ⟨Nat.zero_le _, rfl, fun q hq => (by cases hq)⟩ ⟨rfl, rfl, rfl, rfl, rfl, rfl, rfl, trivial⟩ (by (repeat (refine Sub.sel (by repeat (first | exact Sel.here | apply Sel.there)) ?_)); (repeat apply Sub.cons); first | exact Sub.refl _ | exact Sub.nil _) ?_))
  rintro ⟨i, B, lv⟩ ⟨hi, hA, hF⟩
  dsimp only at hi hA hF ⊢
  refine cd_seq (cd_seq (cd_region (st_v (v_move rfl) (st_v (v_move rfl) (st_v (v_len (congrArg some hxv) Try.underlying62) (st_v (v_lss rfl rfl) (st_nil (nx_kp [0, 1, 2, 6, 8, 9, 10, 40] rfl (nx_then (cd_cond rfl (fun hd => ?_) (fun hd => ?_)))))))))))
  · skip
    have hlt : i < ac.length := by simpa using hd
    obtain ⟨b, o, cp', hv', hrds⟩ := hX.at hlt
    obtain ⟨g1, g2, g3⟩ := (SOk.new (sh := sh) N).acts (ac.take i)
    rw [← hA] at g1
    rw [← hA, List.length_take] at g2
    rw [List.length_replicate] at g3
    have hBl : (stA B).length = B.length := List.length_map ..
    have hB2 : B.length ≤ i := by rw [← hBl]; simp only [List.length_nil] at g2; omega
    have hw' : ∀ l ∈ sh, l.length ≤ 100 := fun l hl => by have := hw l hl; omega
    have hri := rowI_vec hrv hra g3
    have hsn : sacts sh (ac.take (i + 1)) [] (List.replicate N 0) = if rootsP ac[i] N then sdo sh (stA B) (sacts sh (ac.take i) [] (List.replicate N 0)).2 ac[i] else (stA B, (sacts sh (ac.take i) [] (List.replicate N 0)).2) := by
      rw [List.take_succ_eq_append_getElem hlt, sacts_snoc, sact_rootsP, g3, ← hA]
    refine cd_skip (xt_then (cd_seq (cd_block (cd_seq (cd_region (st_v (v_move rfl) (st_v (v_move rfl) (st_v (v_indexAddr (congrArg some hv') rfl sl62 rfl hlt rfl) (st_v (v_loadR rfl ld78 rfl (by repeat (first | exact Sel.here | apply Sel.there)) hrds) ?_)))))))))
    refine st_alc al78 fun b11 => ?_
    refine st_stoW rfl rfl sz78 rfl rfl ?_
    refine st_nil (nx_kp [0, 1, 2, 6, 8, 9, 10, 11] rfl (nx_then (cd_seq (cd_region (st_v (v_loadW rfl ld78 rfl (by repeat (first | exact Sel.here | apply Sel.there))) ?_)))))
    refine st_v (v_move rfl) (st_clr rfl rfl en89 rfl (rootsOf_ct (p := ac[i]) (n := N) (ha _ (List.getElem_mem hlt)) ⟨by omega, by omega⟩) ?_)
    refine st_v (v_assign rfl) (st_nil (nx_kp [0, 1, 2, 6, 8, 9, 10, 11, 12] rfl (nx_then (cd_seq (cd_seq (cd_region (st_v (v_move rfl) (st_v (v_not rfl) (st_nil (nx_kp [0, 1, 2, 6, 8, 9, 10, 11, 51] rfl (nx_then (cd_cond rfl (fun hrt => ?_) (fun hrt => ?_)))))))))))))
    · skip
      have hrt : rootsP ac[i] N = false := by simpa using hrt
      rw [if_neg (by rw [hrt]; simp)] at hsn
      refine cd_exit (xt_exit_then (xt_exit_block (xt_then (cd_region (st_v (v_move rfl) (st_v (v_add rfl rfl (by unfold I64 at *; omega)) (st_v (v_assign rfl) (st_nil (nx_kp [0, 1, 2, 6, 8, 9, 10] rfl (nx_xt (xt_ag (⟨i + 1, B, lv⟩ : MaS) ⟨hlt, by dsimp only; rw [hsn], hF⟩ (by dsimp only; omega) (by repeat (first | exact trivial | refine ⟨rfl, ?_⟩)) ?_)))))))))))
      dsimp only
      rw [show (sacts sh (ac.take i) [] (List.replicate N 0)).2 = (sacts sh (ac.take (i + 1)) [] (List.replicate N 0)).2 by rw [hsn]]
      exact (by (repeat (refine Sub.sel (by repeat (first | exact Sel.here | apply Sel.there)) ?_)); (repeat apply Sub.cons); first | exact Sub.refl _ | exact Sub.nil _)
    · skip
      have hrt : rootsP ac[i] N = true := by simpa using hrt
      rw [if_pos hrt] at hsn
      obtain ⟨xs, hxs⟩ : ∃ xs, xs = (sacts sh (ac.take i) [] (List.replicate N 0)).2 := ⟨_, rfl⟩
      rw [← hxs] at hsn g1 g3 hri ⊢
      refine cd_skip (xt_then (cd_seq (cd_region (st_v (v_fieldAddr rfl fa78_0 rfl) (st_v (v_ld rfl ld3) ?_)))))
      refine st_nil (nx_kp [0, 1, 2, 6, 8, 9, 10, 11, 53] rfl (nx_then (cd_block (cd_seq (cd_region (st_v (v_eql rfl rfl) (st_v (v_assign rfl) (st_nil (nx_kp [0, 1, 2, 6, 8, 9, 10, 11, 53, 54] rfl (nx_then (cd_cond rfl (fun k1 => ?_) (fun k1 => ?_))))))))))))
      · skip
        have hk : ac[i].k = 1 := by simpa using k1
        have hsd : sdo sh (stA B) xs ac[i] = sfresh sh (stA B) xs ac[i] := by unfold sdo; rw [if_pos hk]
        obtain ⟨ha0, ha1⟩ := rootsP_a hrt (.inl hk)
        rw [hsd] at hsn
        unfold sfresh at hsn
        refine cd_seq (cd_region (st_v (v_fieldAddr rfl fa78_2 rfl) (st_v (v_ld rfl ld3) ?_)))
        refine st_v (v_move rfl) (st_v (v_len (congrArg some hsv) Try.underlying22) (st_v (v_sub rfl rfl (by unfold I64 at *; omega)) (st_clr rfl rfl en90 rfl (in_ct (a := ac[i].b) (lo := 0) (hi := (sh.length : Int) - 1)) ?_)))
        refine st_nil (nx_kp [0, 1, 2, 6, 8, 9, 10, 11, 61] rfl (nx_then (cd_cond rfl (fun hin => ?_) (fun hin => ?_))))
        · skip
          simp only [Bool.and_eq_true, decide_eq_true_eq] at hin
          rw [if_neg (by simp only [Bool.or_eq_true, decide_eq_true_eq]; omega)] at hsn
          have hkb : ac[i].b.toNat < sh.length := by omega
          obtain ⟨b1, o1, cp1, u, hv1, hu, ua, ucp, hue, _⟩ := hS.row hkb
          have hlw := hw _ (List.getElem_mem hkb)
          refine cd_seq (cd_draw (ork [(0, 2), (1, 2), (2, 1), (3, 2), (4, 2), (5, 1), (6, 2), (7, 1), (8, 2), (9, 0), (10, 2), (11, 0), (12, 0), (13, 2)] .nil) (fun i => !(Nat.beq i 11 || Nat.beq i 12)) [pt b11 (cl [.int .i64 ac[i].k, .int .i64 ac[i].a, .int .i64 ac[i].b, .int .i64 ac[i].c] 78), R] mixed (by kernel_rfl) ?_)
          refine dp_v rfl (v_move rfl) (dp_v rfl (v_fieldAddr rfl fa78_2 rfl) (dr_v rfl (v_ld rfl ld3) ?_))
          refine dp_v rfl (v_move rfl) (dp_v rfl (v_fieldAddr rfl fa78_2 rfl) (dr_v rfl (v_ld rfl ld3) ?_))
          refine dp_v rfl (v_ixo _ (congrArg some hv1) rfl sl22 (Int.toNat_of_nonneg hin.1).symm hkb) (dr_v rfl (v_ld rfl ld73) ?_)
          refine dp_v rfl (v_len (congrArg some hue) Try.underlying73) (dr_eff rfl (st_make (n := sh[ac[i].b.toNat].length) rfl rfl rfl Try.underlying34 inf3 rfl (by omega) (by omega) (ltn rfl) fun b71 => dr_nx ?_))
          refine dp_v rfl (v_build (cells := [.int .i64 ac[i].b, .slice (some ⟨b71, 0, none⟩) sh[ac[i].b.toNat].length sh[ac[i].b.toNat].length]) rfl (fun _ => by kernel_rfl)) ?_
          refine dr_eff rfl (st_buildSlice (cells := [.int .i64 ac[i].b, .slice (some ⟨b71, 0, none⟩) sh[ac[i].b.toNat].length sh[ac[i].b.toNat].length]) rfl Try.underlying147 inf151 rfl rfl (by kernel_rfl) (ltn rfl) fun b73 => dr_nx ?_)
          refine dr_eff rfl (st_append (news := [.int .i64 ac[i].b, .slice (some ⟨b71, 0, none⟩) sh[ac[i].b.toNat].length sh[ac[i].b.toNat].length]) rfl rfl Try.underlying147 inf151 rfl (ltn rfl) (by repeat (first | exact Sel.here | apply Sel.there)) rfl (fun j u hu => by repeat (first | exact at_here (rd_cl (by simpa using hu)) | apply at_there)) (ones rfl) (by omega) (by omega) (ltn rfl) fun lv' hlv' hv1 => dr_nx ?_)
          refine dp_v rfl (v_assign rfl) (dr_nil (nx_kp [0, 1, 2, 6, 8, 9, 10, 11] rfl (nx_then (cd_vecshape (v := lv') (E := 151) (sz := 2) (n := B.length + 1) (l := stC B ++ [.int .i64 ac[i].b, .slice (some ⟨b71, 0, none⟩) sh[ac[i].b.toNat].length sh[ac[i].b.toNat].length]) (by repeat (first | exact Sel.here | apply Sel.there)) fun na ncp hnv hna => ?_))))
          refine cd_row (v := rv) (n := N) (l := ints xs) (by omega) (by repeat (first | exact Sel.here | apply Sel.there)) fun b3 cp3 j3 hrv3 ho3 => ?_
          have hla3 : (ints xs ++ j3).length = (ints xs ++ j3).length := rfl
          refine cd_region (st_v (v_move rfl) (st_v (v_fieldAddr rfl fa78_1 rfl) (st_v (v_ld rfl ld3) ?_)))
          refine st_v (v_move rfl) (st_v (v_len (congrArg some hnv) Try.underlying147) (st_v (v_idx ac[i].a.toNat (congrArg some hrv3) rfl sl34 (by omega) (by omega)) (st_sto rfl rfl sz3 ?_)))
          refine st_nil (nx_kp [0, 1, 2, 6, 8, 9, 10] rfl (nx_xt (xt_normal_block (xt_normal_block (xt_then (cd_region (st_v (v_move rfl) (st_v (v_add rfl rfl (by unfold I64 at *; omega)) (st_v (v_assign rfl) (st_nil (nx_kp [0, 1, 2, 6, 8, 9, 10] rfl (nx_xt ?_))))))))))))
          rw [show (ints xs ++ j3).set ac[i].a.toNat (.int .i64 ((B.length + 1 : Nat) : Int)) = ints (xs.set ac[i].a.toNat ((B.length + 1 : Nat) : Int)) ++ j3 from set_ints (by omega)]
          refine xt_shut (E := 3) (l' := ints (xs.set ac[i].a.toNat ((B.length + 1 : Nat) : Int))) ho3 (by simp [ints]) (by repeat (first | exact Sel.here | apply Sel.there)) ?_
          refine xt_shut (v := (.slice (some ⟨b71, 0, none⟩) sh[ac[i].b.toNat].length sh[ac[i].b.toNat].length)) (E := 3) (sz := 1) (n := sh[ac[i].b.toNat].length) (l := ints (List.replicate sh[ac[i].b.toNat].length 0)) (l' := ints (List.replicate sh[ac[i].b.toNat].length 0)) (b := b71) (cp := sh[ac[i].b.toNat].length) (j := []) ⟨rfl, by simp [ints], Nat.le_refl _, by unfold maxLen; omega, by simp [ints]⟩ rfl (by rw [show ints (List.replicate sh[ac[i].b.toNat].length 0) ++ [] = List.replicate sh[ac[i].b.toNat].length (.int .i64 0) by simp [ints]]; exact (by repeat (first | exact Sel.here | apply Sel.there))) ?_
          refine xt_restar (k' := stRows (B ++ [((.slice (some ⟨b71, 0, none⟩) sh[ac[i].b.toNat].length sh[ac[i].b.toNat].length), ac[i].b, List.replicate sh[ac[i].b.toNat].length 0)])) (r := vec (.slice (some ⟨b71, 0, none⟩) sh[ac[i].b.toNat].length sh[ac[i].b.toNat].length) 3 1 sh[ac[i].b.toNat].length (ints (List.replicate sh[ac[i].b.toNat].length 0))) (k := stRows B) (by repeat (first | exact Sel.here | apply Sel.there)) (by repeat (first | exact Sel.here | apply Sel.there)) (by rw [stRows_app]; dsimp only; rw [List.length_replicate]; exact (List.perm_append_singleton _ _).symm) ?_
          rw [show sh.getD ac[i].b.toNat [] = sh[ac[i].b.toNat] from getD_lt hkb] at hsn
          refine xt_ag (⟨i + 1, B ++ [((.slice (some ⟨b71, 0, none⟩) sh[ac[i].b.toNat].length sh[ac[i].b.toNat].length), ac[i].b, List.replicate sh[ac[i].b.toNat].length 0)], lv'⟩ : MaS) ⟨hlt, by dsimp only; rw [hsn, stA_app], fun q hq => (List.mem_append.1 hq).elim (hF q) (fun h => by
            have : q = ((.slice (some ⟨b71, 0, none⟩) sh[ac[i].b.toNat].length sh[ac[i].b.toNat].length), ac[i].b, List.replicate sh[ac[i].b.toNat].length 0) := by simpa using h
            rw [this]; exact .inr ⟨b71, _, by dsimp only; rw [List.length_replicate]⟩)⟩ (by dsimp only; omega) (by repeat (first | exact trivial | refine ⟨rfl, ?_⟩)) ?_
          dsimp only
          rw [show xs.set ac[i].a.toNat ((B.length + 1 : Nat) : Int) = (sacts sh (ac.take (i + 1)) [] (List.replicate N 0)).2 by rw [hsn, hBl]; rfl, stC_app, List.length_append]
          exact (by (repeat (refine Sub.sel (by repeat (first | exact Sel.here | apply Sel.there)) ?_)); (repeat apply Sub.cons); first | exact Sub.refl _ | exact Sub.nil _)
        · skip
          have hin : ¬ (0 ≤ ac[i].b ∧ ac[i].b ≤ (sh.length : Int) - 1) := by simpa using hin
          rw [if_pos (by simp only [Bool.or_eq_true, decide_eq_true_eq]; omega)] at hsn
          refine cd_skip (xt_normal_block (xt_normal_block (xt_then (cd_region (st_v (v_move rfl) (st_v (v_add rfl rfl (by unfold I64 at *; omega)) (st_v (v_assign rfl) (st_nil (nx_kp [0, 1, 2, 6, 8, 9, 10] rfl (nx_xt (xt_ag (⟨i + 1, B, lv⟩ : MaS) ⟨hlt, by dsimp only; rw [hsn], hF⟩ (by dsimp only; omega) (by repeat (first | exact trivial | refine ⟨rfl, ?_⟩)) ?_)))))))))))
          dsimp only
          rw [show xs = (sacts sh (ac.take (i + 1)) [] (List.replicate N 0)).2 by rw [hsn]]
          exact (by (repeat (refine Sub.sel (by repeat (first | exact Sel.here | apply Sel.there)) ?_)); (repeat apply Sub.cons); first | exact Sub.refl _ | exact Sub.nil _)
      · skip
        have k1' : ac[i].k ≠ 1 := by simpa using k1
        refine cd_seq (cd_region (st_v (v_eql rfl rfl) (st_v (v_assign rfl) (st_nil (nx_kp [0, 1, 2, 6, 8, 9, 10, 11, 53, 81] rfl (nx_then (cd_cond rfl (fun k2 => ?_) (fun k2 => ?_))))))))
        · skip
          have hk : ac[i].k = 2 := by simpa using k2
          have hsd : sdo sh (stA B) xs ac[i] = sgetA sh (stA B) xs ac[i] := by unfold sdo; rw [if_neg k1', if_pos hk]
          obtain ⟨ha0, ha1⟩ := rootsP_a hrt (.inr (.inl hk))
          obtain ⟨hb0, hb1⟩ := rootsP_b hrt (.inl hk)
          rw [hsd] at hsn
          unfold sgetA at hsn
          have hbx : ac[i].b.toNat < xs.length := by omega
          have hax : ac[i].a.toNat < xs.length := by omega
          obtain ⟨rb, ro, rcp2, hrv2, hrd⟩ := hri.at hbx
          rw [show xs[ac[i].b.toNat] = AM.rdx xs ac[i].b from (getD_lt hbx).symm] at hrd
          refine cd_seq (cd_drawh (ork [(0, 2), (1, 2), (2, 2), (3, 2), (4, 1), (5, 2), (6, 1), (7, 2), (8, 1), (9, 1), (10, 2)] .nil) (fun _ => true) mixed (by kernel_rfl) ?_)
          refine dp_v rfl (v_move rfl) (dp_v rfl (v_move rfl) (dp_v rfl (v_move rfl) (dp_v rfl (v_fieldAddr rfl fa78_2 rfl) (dr_v rfl (v_ld rfl ld3) ?_))))
          refine dp_v rfl (v_ixo _ (congrArg some hrv2) rfl sl34 (Int.toNat_of_nonneg hb0).symm (by omega)) (dr_v rfl (v_ld rfl ld3) ?_)
          refine dp_v rfl (v_fieldAddr rfl fa78_3 rfl) (dr_v rfl (v_ld rfl ld3) ?_)
          refine dr_clr rfl rfl rfl en91 rfl (modelled_ct (B := B) (xs := xs) (lv := lv) hS g1 (g1.rdx ac[i].b) hw' (by omega)) ?_
          refine dp_v rfl (v_eql rfl rfl) (dr_nil (nx_kp [0, 1, 2, 6, 8, 9, 10, 11, 93] rfl (nx_then (cd_cond rfl (fun hsk => ?_) (fun hsk => ?_)))))
          · skip
            have hk0 : skind sh (stA B) (AM.rdx xs ac[i].b) ac[i].c true = 0 := by simpa using hsk
            obtain ⟨y1, _, _, c0, c1, _⟩ := g1.kind (g1.rdx ac[i].b) hk0
            obtain ⟨j, q, K⟩ := known (R := R) (v0 := v0) g1 hw' ⟨y1, (g1.rdx _).2⟩
            have hy2 := (g1.rdx ac[i].b).2
            rw [K.ob] at c1
            obtain ⟨fb, fo, fcp, hfe, hfr⟩ := (st_row hF K.mem).at c1
            rw [if_neg (by rw [hk0]; simp), K.ob, show q.2.2.getD ac[i].c.toNat 0 = q.2.2[ac[i].c.toNat] from getD_lt c1] at hsn
            refine cd_vecshape (v := lv) (E := 151) (sz := 2) (n := B.length) (l := stC B) (by repeat (first | exact Sel.here | apply Sel.there)) fun la lcp hlv hla => ?_
            obtain ⟨lb, rfl⟩ := hla (by have := K.i2; omega)
            have hrdl := (stC_rd (E := 151) (b := lb) (n := B.length) (cp := lcp) K.at').2
            rw [← hlv] at hrdl
            refine cd_row (v := rv) (n := N) (l := ints xs) (by omega) (by repeat (first | exact Sel.here | apply Sel.there)) fun b3 cp3 j3 hrv3 ho3 => ?_
            have hrd3 : Rd (pt b3 (cl (ints xs ++ j3) 3)) ⟨b3, ac[i].b.toNat, none⟩ (.int .i64 (AM.rdx xs ac[i].b)) := rd_ints hbx
            refine cd_drawh (ork [(0, 2), (1, 2), (2, 1), (3, 2), (4, 2), (5, 2), (6, 1), (7, 2), (8, 1), (9, 2), (10, 2), (11, 2), (12, 1), (13, 2), (14, 1), (15, 2), (16, 1), (17, 2), (18, 0)] .nil) (fun i => !(Nat.beq i 18)) mixed (by kernel_rfl) ?_
            refine dp_v rfl (v_move rfl) (dp_v rfl (v_fieldAddr rfl fa78_1 rfl) (dr_v rfl (v_ld rfl ld3) ?_))
            refine dp_v rfl (v_move rfl) (dp_v rfl (v_move rfl) (dp_v rfl (v_fieldAddr rfl fa78_2 rfl) (dr_v rfl (v_ld rfl ld3) ?_)))
            refine dp_v rfl (v_idx ac[i].b.toNat (congrArg some hrv3) rfl sl34 (by omega) (by omega)) (dr_v rfl (v_ld rfl ld3) ?_)
            refine dp_v rfl (v_sub rfl rfl (by unfold I64 at *; omega)) (dp_v rfl (v_indexAddr (o' := j * 2) (congrArg some hlv) rfl sl147 K.i1 K.i2 (by omega)) (dp_v rfl (v_fieldAddr rfl fa151_1 rfl) (dr_v rfl (v_ld rfl ld34) ?_)))
            refine dp_v rfl (v_fieldAddr rfl fa78_3 rfl) (dr_v rfl (v_ld rfl ld3) ?_)
            refine dp_v rfl (v_ixo ac[i].c.toNat (congrArg some hfe) rfl sl34 (Int.toNat_of_nonneg c0).symm c1) (dr_v rfl (v_ld rfl ld3) ?_)
            refine dp_v rfl (v_idx ac[i].a.toNat (congrArg some hrv3) rfl sl34 (by omega) (by omega)) (dr_eff rfl (st_sto rfl rfl sz3 (dr_nx ?_)))
            refine dr_nil (nx_kp [0, 1, 2, 6, 8, 9, 10] rfl (nx_xt (xt_normal_block (xt_normal_block (xt_then (cd_region (st_v (v_move rfl) (st_v (v_add rfl rfl (by unfold I64 at *; omega)) (st_v (v_assign rfl) (st_nil (nx_kp [0, 1, 2, 6, 8, 9, 10] rfl (nx_xt ?_))))))))))))
            rw [set_ints (by omega)]
            refine xt_shut (E := 3) (l' := ints (xs.set ac[i].a.toNat q.2.2[ac[i].c.toNat])) ho3 (by simp [ints]) (by repeat (first | exact Sel.here | apply Sel.there)) ?_
            refine xt_ag (⟨i + 1, B, lv⟩ : MaS) ⟨hlt, by dsimp only; rw [hsn], hF⟩ (by dsimp only; omega) (by repeat (first | exact trivial | refine ⟨rfl, ?_⟩)) ?_
            dsimp only
            rw [show xs.set ac[i].a.toNat q.2.2[ac[i].c.toNat] = (sacts sh (ac.take (i + 1)) [] (List.replicate N 0)).2 by rw [hsn]]
            exact (by (repeat (refine Sub.sel (by repeat (first | exact Sel.here | apply Sel.there)) ?_)); (repeat apply Sub.cons); first | exact Sub.refl _ | exact Sub.nil _)
          · skip
            rw [if_pos (by simpa using hsk)] at hsn
            refine cd_skip (xt_normal_block (xt_normal_block (xt_then (cd_region (st_v (v_move rfl) (st_v (v_add rfl rfl (by unfold I64 at *; omega)) (st_v (v_assign rfl) (st_nil (nx_kp [0, 1, 2, 6, 8, 9, 10] rfl (nx_xt (xt_ag (⟨i + 1, B, lv⟩ : MaS) ⟨hlt, by dsimp only; rw [hsn], hF⟩ (by dsimp only; omega) (by repeat (first | exact trivial | refine ⟨rfl, ?_⟩)) ?_)))))))))))
            dsimp only
            rw [show xs = (sacts sh (ac.take (i + 1)) [] (List.replicate N 0)).2 by rw [hsn]]
            exact (by (repeat (refine Sub.sel (by repeat (first | exact Sel.here | apply Sel.there)) ?_)); (repeat apply Sub.cons); first | exact Sub.refl _ | exact Sub.nil _)
        · skip
          have k2' : ac[i].k ≠ 2 := by simpa using k2
          refine cd_seq (cd_region (st_v (v_eql rfl rfl) (st_v (v_assign rfl) (st_nil (nx_kp [0, 1, 2, 6, 8, 9, 10, 11, 53, 112] rfl (nx_then (cd_cond rfl (fun k3 => ?_) (fun k3 => ?_))))))))
          · skip
            have hk : ac[i].k = 3 := by simpa using k3
            have hsd : sdo sh (stA B) xs ac[i] = ssetA sh (stA B) xs ac[i] := by unfold sdo; rw [if_neg k1', if_neg k2', if_pos hk]
            obtain ⟨ha0, ha1⟩ := rootsP_a hrt (.inr (.inr (.inl hk)))
            obtain ⟨hb0, hb1⟩ := rootsP_b hrt (.inr (.inl hk))
            rw [hsd] at hsn
            unfold ssetA at hsn
            have hax : ac[i].a.toNat < xs.length := by omega
            have hbx : ac[i].b.toNat < xs.length := by omega
            obtain ⟨rb, ro, rcp2, hrv2, hrd⟩ := hri.at hax
            rw [show xs[ac[i].a.toNat] = AM.rdx xs ac[i].a from (getD_lt hax).symm] at hrd
            obtain ⟨rb3, ro3, rcp3, hrv3, hrd3⟩ := hri.at hbx
            rw [show xs[ac[i].b.toNat] = AM.rdx xs ac[i].b from (getD_lt hbx).symm] at hrd3
            refine cd_seq (cd_drawh (ork [(0, 2), (1, 2), (2, 2), (3, 2), (4, 1), (5, 2), (6, 1), (7, 2), (8, 1), (9, 1), (10, 2)] .nil) (fun _ => true) mixed (by kernel_rfl) ?_)
            refine dp_v rfl (v_move rfl) (dp_v rfl (v_move rfl) (dp_v rfl (v_move rfl) (dp_v rfl (v_fieldAddr rfl fa78_1 rfl) (dr_v rfl (v_ld rfl ld3) ?_))))
            refine dp_v rfl (v_ixo _ (congrArg some hrv2) rfl sl34 (Int.toNat_of_nonneg ha0).symm (by omega)) (dr_v rfl (v_ld rfl ld3) ?_)
            refine dp_v rfl (v_fieldAddr rfl fa78_3 rfl) (dr_v rfl (v_ld rfl ld3) ?_)
            refine dr_clr rfl rfl rfl en91 rfl (modelled_ct (B := B) (xs := xs) (lv := lv) hS g1 (g1.rdx ac[i].a) hw' (by omega)) ?_
            refine dp_v rfl (v_eql rfl rfl) (dr_nil (nx_kp [0, 1, 2, 6, 8, 9, 10, 11, 124] rfl (nx_then (cd_cond rfl (fun hsk => ?_) (fun hsk => ?_)))))
            · skip
              have hk0 : skind sh (stA B) (AM.rdx xs ac[i].a) ac[i].c true = 0 := by simpa using hsk
              obtain ⟨y1, _, _, c0, c1, _⟩ := g1.kind (g1.rdx ac[i].a) hk0
              obtain ⟨j, q, K⟩ := known (R := R) (v0 := v0) g1 hw' ⟨y1, (g1.rdx _).2⟩
              have hy2 := (g1.rdx ac[i].a).2
              rw [K.ob] at c1
              have hj : (AM.rdx xs ac[i].a - 1).toNat = j := by have := K.i1; omega
              rw [if_neg (by rw [hk0]; simp), hj] at hsn
              have hrow : (stRows B)[j]? = some (vec q.1 3 1 q.2.2.length (ints q.2.2)) := by unfold stRows; rw [List.getElem?_map, K.at']; rfl
              refine cd_vecshape (v := lv) (E := 151) (sz := 2) (n := B.length) (l := stC B) (by repeat (first | exact Sel.here | apply Sel.there)) fun la lcp hlv hla => ?_
              obtain ⟨lb, rfl⟩ := hla (by have := K.i2; omega)
              have hrdl := (stC_rd (E := 151) (b := lb) (n := B.length) (cp := lcp) K.at').2
              rw [← hlv] at hrdl
              refine cd_takeidx hrow (by repeat (first | exact Sel.here | apply Sel.there)) ?_
              refine cd_row (v := q.1) (n := q.2.2.length) (l := ints q.2.2) (by omega) (by repeat (first | exact Sel.here | apply Sel.there)) fun fb fcp fj hq1 hoq => ?_
              refine cd_drawh (ork [(0, 2), (1, 2), (2, 2), (3, 1), (4, 2), (5, 1), (6, 2), (7, 2), (8, 2), (9, 1), (10, 2), (11, 1), (12, 2), (13, 2), (14, 1), (15, 2), (16, 1), (17, 2), (18, 0)] .nil) (fun i => !(Nat.beq i 18)) mixed (by kernel_rfl) ?_
              refine dp_v rfl (v_move rfl) (dp_v rfl (v_move rfl) (dp_v rfl (v_fieldAddr rfl fa78_1 rfl) (dr_v rfl (v_ld rfl ld3) ?_)))
              refine dp_v rfl (v_ixo _ (congrArg some hrv2) rfl sl34 (Int.toNat_of_nonneg ha0).symm (by omega)) (dr_v rfl (v_ld rfl ld3) ?_)
              refine dp_v rfl (v_sub rfl rfl (by unfold I64 at *; omega)) (dp_v rfl (v_indexAddr (o' := j * 2) (congrArg some hlv) rfl sl147 K.i1 K.i2 (by omega)) (dp_v rfl (v_fieldAddr rfl fa151_1 rfl) (dr_v rfl (v_ld rfl ld34) ?_)))
              refine dp_v rfl (v_fieldAddr rfl fa78_3 rfl) (dr_v rfl (v_ld rfl ld3) ?_)
              refine dp_v rfl (v_move rfl) (dp_v rfl (v_fieldAddr rfl fa78_2 rfl) (dr_v rfl (v_ld rfl ld3) ?_))
              refine dp_v rfl (v_ixo _ (congrArg some hrv3) rfl sl34 (Int.toNat_of_nonneg hb0).symm (by omega)) (dr_v rfl (v_ld rfl ld3) ?_)
              refine dp_v rfl (v_idx ac[i].c.toNat (congrArg some hq1) rfl sl34 (Int.toNat_of_nonneg c0).symm c1) (dr_eff rfl (st_sto rfl rfl sz3 (dr_nx ?_)))
              refine dr_nil (nx_kp [0, 1, 2, 6, 8, 9, 10] rfl (nx_xt (xt_normal_block (xt_normal_block (xt_then (cd_region (st_v (v_move rfl) (st_v (v_add rfl rfl (by unfold I64 at *; omega)) (st_v (v_assign rfl) (st_nil (nx_kp [0, 1, 2, 6, 8, 9, 10] rfl (nx_xt ?_))))))))))))
              rw [set_ints c1]
              refine xt_shut (v := q.1) (E := 3) (sz := 1) (n := q.2.2.length) (l' := ints (q.2.2.set ac[i].c.toNat (AM.rdx xs ac[i].b))) hoq (by simp [ints]) (by repeat (first | exact Sel.here | apply Sel.there)) ?_
              refine xt_restar (k' := stRows (B.set j (q.1, q.2.1, q.2.2.set ac[i].c.toNat (AM.rdx xs ac[i].b)))) (r := vec q.1 3 1 q.2.2.length (ints (q.2.2.set ac[i].c.toNat (AM.rdx xs ac[i].b)))) (k := (stRows B).eraseIdx j) (by repeat (first | exact Sel.here | apply Sel.there)) (by repeat (first | exact Sel.here | apply Sel.there)) (by
                unfold stRows
                rw [List.map_set]
                dsimp only
                rw [List.length_set]
                exact (set_perm _ (by rw [List.length_map]; exact K.i2)).symm) ?_
              refine xt_ag (⟨i + 1, B.set j (q.1, q.2.1, q.2.2.set ac[i].c.toNat (AM.rdx xs ac[i].b)), lv⟩ : MaS) ⟨hlt, by dsimp only; rw [hsn]; exact stA_set K.at' _ _, stF_set hF K.at' (List.length_set ..) (by omega)⟩ (by dsimp only; omega) (by repeat (first | exact trivial | refine ⟨rfl, ?_⟩)) ?_
              dsimp only
              rw [show xs = (sacts sh (ac.take (i + 1)) [] (List.replicate N 0)).2 by rw [hsn], stC_set K.at', List.length_set]
              exact (by (repeat (refine Sub.sel (by repeat (first | exact Sel.here | apply Sel.there)) ?_)); (repeat apply Sub.cons); first | exact Sub.refl _ | exact Sub.nil _)
            · skip
              rw [if_pos (by simpa using hsk)] at hsn
              refine cd_skip (xt_normal_block (xt_normal_block (xt_then (cd_region (st_v (v_move rfl) (st_v (v_add rfl rfl (by unfold I64 at *; omega)) (st_v (v_assign rfl) (st_nil (nx_kp [0, 1, 2, 6, 8, 9, 10] rfl (nx_xt (xt_ag (⟨i + 1, B, lv⟩ : MaS) ⟨hlt, by dsimp only; rw [hsn], hF⟩ (by dsimp only; omega) (by repeat (first | exact trivial | refine ⟨rfl, ?_⟩)) ?_)))))))))))
              dsimp only
              rw [show xs = (sacts sh (ac.take (i + 1)) [] (List.replicate N 0)).2 by rw [hsn]]
              exact (by (repeat (refine Sub.sel (by repeat (first | exact Sel.here | apply Sel.there)) ?_)); (repeat apply Sub.cons); first | exact Sub.refl _ | exact Sub.nil _)
          · skip
            have k3' : ac[i].k ≠ 3 := by simpa using k3
            refine cd_seq (cd_region (st_v (v_eql rfl rfl) (st_v (v_assign rfl) (st_nil (nx_kp [0, 1, 2, 6, 8, 9, 10, 11, 53, 143] rfl (nx_then (cd_cond rfl (fun k4 => ?_) (fun k4 => ?_))))))))
            · skip
              have hk : ac[i].k = 4 := by simpa using k4
              have hsd : sdo sh (stA B) xs ac[i] = sputA sh (stA B) xs ac[i] := by unfold sdo; rw [if_neg k1', if_neg k2', if_neg k3', if_pos hk]
              obtain ⟨ha0, ha1⟩ := rootsP_a hrt (.inr (.inr (.inr (.inl hk))))
              rw [hsd] at hsn
              unfold sputA at hsn
              have hax : ac[i].a.toNat < xs.length := by omega
              obtain ⟨rb, ro, rcp2, hrv2, hrd⟩ := hri.at hax
              rw [show xs[ac[i].a.toNat] = AM.rdx xs ac[i].a from (getD_lt hax).symm] at hrd
              refine cd_seq (cd_drawh (ork [(0, 2), (1, 2), (2, 2), (3, 2), (4, 1), (5, 2), (6, 1), (7, 2), (8, 1), (9, 1), (10, 2)] .nil) (fun _ => true) mixed (by kernel_rfl) ?_)
              refine dp_v rfl (v_move rfl) (dp_v rfl (v_move rfl) (dp_v rfl (v_move rfl) (dp_v rfl (v_fieldAddr rfl fa78_1 rfl) (dr_v rfl (v_ld rfl ld3) ?_))))
              refine dp_v rfl (v_ixo _ (congrArg some hrv2) rfl sl34 (Int.toNat_of_nonneg ha0).symm (by omega)) (dr_v rfl (v_ld rfl ld3) ?_)
              refine dp_v rfl (v_fieldAddr rfl fa78_3 rfl) (dr_v rfl (v_ld rfl ld3) ?_)
              refine dr_clr rfl rfl rfl en91 rfl (modelled_ct (B := B) (xs := xs) (lv := lv) hS g1 (g1.rdx ac[i].a) hw' (by omega)) ?_
              refine dp_v rfl (v_eql rfl rfl) (dr_nil (nx_kp [0, 1, 2, 6, 8, 9, 10, 11, 155] rfl (nx_then (cd_cond rfl (fun hsk => ?_) (fun hsk => ?_)))))
              · skip
                have hk0 : skind sh (stA B) (AM.rdx xs ac[i].a) ac[i].c false = 0 := by simpa using hsk
                obtain ⟨y1, _, _, c0, c1, _⟩ := g1.kind (g1.rdx ac[i].a) hk0
                obtain ⟨j, q, K⟩ := known (R := R) (v0 := v0) g1 hw' ⟨y1, (g1.rdx _).2⟩
                have hy2 := (g1.rdx ac[i].a).2
                rw [K.ob] at c1
                have hj : (AM.rdx xs ac[i].a - 1).toNat = j := by have := K.i1; omega
                rw [if_neg (by rw [hk0]; simp), hj] at hsn
                have hrow : (stRows B)[j]? = some (vec q.1 3 1 q.2.2.length (ints q.2.2)) := by unfold stRows; rw [List.getElem?_map, K.at']; rfl
                refine cd_vecshape (v := lv) (E := 151) (sz := 2) (n := B.length) (l := stC B) (by repeat (first | exact Sel.here | apply Sel.there)) fun la lcp hlv hla => ?_
                obtain ⟨lb, rfl⟩ := hla (by have := K.i2; omega)
                have hrdl := (stC_rd (E := 151) (b := lb) (n := B.length) (cp := lcp) K.at').2
                rw [← hlv] at hrdl
                refine cd_takeidx hrow (by repeat (first | exact Sel.here | apply Sel.there)) ?_
                refine cd_row (v := q.1) (n := q.2.2.length) (l := ints q.2.2) (by omega) (by repeat (first | exact Sel.here | apply Sel.there)) fun fb fcp fj hq1 hoq => ?_
                refine cd_drawh (ork [(0, 2), (1, 2), (2, 2), (3, 1), (4, 2), (5, 1), (6, 2), (7, 2), (8, 2), (9, 1), (10, 2), (11, 1), (12, 2), (13, 1), (14, 2), (15, 0)] .nil) (fun i => !(Nat.beq i 15)) mixed (by kernel_rfl) ?_
                refine dp_v rfl (v_move rfl) (dp_v rfl (v_move rfl) (dp_v rfl (v_fieldAddr rfl fa78_1 rfl) (dr_v rfl (v_ld rfl ld3) ?_)))
                refine dp_v rfl (v_ixo _ (congrArg some hrv2) rfl sl34 (Int.toNat_of_nonneg ha0).symm (by omega)) (dr_v rfl (v_ld rfl ld3) ?_)
                refine dp_v rfl (v_sub rfl rfl (by unfold I64 at *; omega)) (dp_v rfl (v_indexAddr (o' := j * 2) (congrArg some hlv) rfl sl147 K.i1 K.i2 (by omega)) (dp_v rfl (v_fieldAddr rfl fa151_1 rfl) (dr_v rfl (v_ld rfl ld34) ?_)))
                refine dp_v rfl (v_fieldAddr rfl fa78_3 rfl) (dr_v rfl (v_ld rfl ld3) ?_)
                refine dp_v rfl (v_fieldAddr rfl fa78_2 rfl) (dr_v rfl (v_ld rfl ld3) ?_)
                refine dp_v rfl (v_idx ac[i].c.toNat (congrArg some hq1) rfl sl34 (Int.toNat_of_nonneg c0).symm c1) (dr_eff rfl (st_sto rfl rfl sz3 (dr_nx ?_)))
                refine dr_nil (nx_kp [0, 1, 2, 6, 8, 9, 10] rfl (nx_xt (xt_normal_block (xt_normal_block (xt_then (cd_region (st_v (v_move rfl) (st_v (v_add rfl rfl (by unfold I64 at *; omega)) (st_v (v_assign rfl) (st_nil (nx_kp [0, 1, 2, 6, 8, 9, 10] rfl (nx_xt ?_))))))))))))
                rw [set_ints c1]
                refine xt_shut (v := q.1) (E := 3) (sz := 1) (n := q.2.2.length) (l' := ints (q.2.2.set ac[i].c.toNat ac[i].b)) hoq (by simp [ints]) (by repeat (first | exact Sel.here | apply Sel.there)) ?_
                refine xt_restar (k' := stRows (B.set j (q.1, q.2.1, q.2.2.set ac[i].c.toNat ac[i].b))) (r := vec q.1 3 1 q.2.2.length (ints (q.2.2.set ac[i].c.toNat ac[i].b))) (k := (stRows B).eraseIdx j) (by repeat (first | exact Sel.here | apply Sel.there)) (by repeat (first | exact Sel.here | apply Sel.there)) (by
                  unfold stRows
                  rw [List.map_set]
                  dsimp only
                  rw [List.length_set]
                  exact (set_perm _ (by rw [List.length_map]; exact K.i2)).symm) ?_
                refine xt_ag (⟨i + 1, B.set j (q.1, q.2.1, q.2.2.set ac[i].c.toNat ac[i].b), lv⟩ : MaS) ⟨hlt, by dsimp only; rw [hsn]; exact stA_set K.at' _ _, stF_set hF K.at' (List.length_set ..) (by omega)⟩ (by dsimp only; omega) (by repeat (first | exact trivial | refine ⟨rfl, ?_⟩)) ?_
                dsimp only
                rw [show xs = (sacts sh (ac.take (i + 1)) [] (List.replicate N 0)).2 by rw [hsn], stC_set K.at', List.length_set]
                exact (by (repeat (refine Sub.sel (by repeat (first | exact Sel.here | apply Sel.there)) ?_)); (repeat apply Sub.cons); first | exact Sub.refl _ | exact Sub.nil _)
              · skip
                rw [if_pos (by simpa using hsk)] at hsn
                refine cd_skip (xt_normal_block (xt_normal_block (xt_then (cd_region (st_v (v_move rfl) (st_v (v_add rfl rfl (by unfold I64 at *; omega)) (st_v (v_assign rfl) (st_nil (nx_kp [0, 1, 2, 6, 8, 9, 10] rfl (nx_xt (xt_ag (⟨i + 1, B, lv⟩ : MaS) ⟨hlt, by dsimp only; rw [hsn], hF⟩ (by dsimp only; omega) (by repeat (first | exact trivial | refine ⟨rfl, ?_⟩)) ?_)))))))))))
                dsimp only
                rw [show xs = (sacts sh (ac.take (i + 1)) [] (List.replicate N 0)).2 by rw [hsn]]
                exact (by (repeat (refine Sub.sel (by repeat (first | exact Sel.here | apply Sel.there)) ?_)); (repeat apply Sub.cons); first | exact Sub.refl _ | exact Sub.nil _)
            · skip
              have k4' : ac[i].k ≠ 4 := by simpa using k4
              refine cd_seq (cd_region (st_v (v_eql rfl rfl) (st_v (v_assign rfl) (st_nil (nx_kp [0, 1, 2, 6, 8, 9, 10, 11, 53, 171] rfl (nx_then (cd_cond rfl (fun k5 => ?_) (fun k5 => ?_))))))))
              · skip
                have hk : ac[i].k = 5 := by simpa using k5
                have hsd : sdo sh (stA B) xs ac[i] = (stA B, xs.set ac[i].a.toNat 0) := by unfold sdo; rw [if_neg k1', if_neg k2', if_neg k3', if_neg k4', if_pos hk]
                obtain ⟨ha0, ha1⟩ := rootsP_a hrt (.inr (.inr (.inr (.inr (.inl hk)))))
                rw [hsd] at hsn
                refine cd_row (v := rv) (n := N) (l := ints xs) (by omega) (by repeat (first | exact Sel.here | apply Sel.there)) fun b3 cp3 j3 hrv3 ho3 => ?_
                refine cd_region (st_v (v_move rfl) (st_v (v_fieldAddr rfl fa78_1 rfl) (st_v (v_ld rfl ld3) ?_)))
                refine st_v (v_idx ac[i].a.toNat (congrArg some hrv3) rfl sl34 (by omega) (by omega)) (st_sto rfl rfl sz3 ?_)
                refine st_nil (nx_kp [0, 1, 2, 6, 8, 9, 10] rfl (nx_xt (xt_normal_block (xt_normal_block (xt_then (cd_region (st_v (v_move rfl) (st_v (v_add rfl rfl (by unfold I64 at *; omega)) (st_v (v_assign rfl) (st_nil (nx_kp [0, 1, 2, 6, 8, 9, 10] rfl (nx_xt ?_))))))))))))
                rw [set_ints (by omega)]
                refine xt_shut (E := 3) (l' := ints (xs.set ac[i].a.toNat 0)) ho3 (by simp [ints]) (by repeat (first | exact Sel.here | apply Sel.there)) ?_
                refine xt_ag (⟨i + 1, B, lv⟩ : MaS) ⟨hlt, by dsimp only; rw [hsn], hF⟩ (by dsimp only; omega) (by repeat (first | exact trivial | refine ⟨rfl, ?_⟩)) ?_
                dsimp only
                rw [show xs.set ac[i].a.toNat 0 = (sacts sh (ac.take (i + 1)) [] (List.replicate N 0)).2 by rw [hsn]]
                exact (by (repeat (refine Sub.sel (by repeat (first | exact Sel.here | apply Sel.there)) ?_)); (repeat apply Sub.cons); first | exact Sub.refl _ | exact Sub.nil _)
              · skip
                have k5' : ac[i].k ≠ 5 := by simpa using k5
                refine cd_seq (cd_region (st_v (v_eql rfl rfl) (st_v (v_assign rfl) (st_nil (nx_kp [0, 1, 2, 6, 8, 9, 10, 11, 177] rfl (nx_then (cd_cond rfl (fun k6 => ?_) (fun k6 => ?_))))))))
                · skip
                  have hk : ac[i].k = 6 := by simpa using k6
                  have hsd : sdo sh (stA B) xs ac[i] = (stA B, xs.set ac[i].a.toNat (AM.rdx xs ac[i].b)) := by unfold sdo; rw [if_neg k1', if_neg k2', if_neg k3', if_neg k4', if_neg k5', if_pos hk]
                  obtain ⟨ha0, ha1⟩ := rootsP_a hrt (.inr (.inr (.inr (.inr (.inr hk)))))
                  obtain ⟨hb0, hb1⟩ := rootsP_b hrt (.inr (.inr hk))
                  rw [hsd] at hsn
                  have hbx : ac[i].b.toNat < xs.length := by omega
                  refine cd_row (v := rv) (n := N) (l := ints xs) (by omega) (by repeat (first | exact Sel.here | apply Sel.there)) fun b3 cp3 j3 hrv3 ho3 => ?_
                  have hrd3 : Rd (pt b3 (cl (ints xs ++ j3) 3)) ⟨b3, ac[i].b.toNat, none⟩ (.int .i64 (AM.rdx xs ac[i].b)) := rd_ints hbx
                  refine cd_drawh (ork [(0, 2), (1, 2), (2, 1), (3, 2), (4, 2), (5, 1), (6, 2), (7, 1), (8, 2), (9, 0)] .nil) (fun i => !(Nat.beq i 9)) mixed (by kernel_rfl) ?_
                  refine dp_v rfl (v_move rfl) (dp_v rfl (v_fieldAddr rfl fa78_1 rfl) (dr_v rfl (v_ld rfl ld3) ?_))
                  refine dp_v rfl (v_move rfl) (dp_v rfl (v_fieldAddr rfl fa78_2 rfl) (dr_v rfl (v_ld rfl ld3) ?_))
                  refine dp_v rfl (v_idx ac[i].b.toNat (congrArg some hrv3) rfl sl34 (by omega) (by omega)) (dr_v rfl (v_ld rfl ld3) ?_)
                  refine dp_v rfl (v_idx ac[i].a.toNat (congrArg some hrv3) rfl sl34 (by omega) (by omega)) (dr_eff rfl (st_sto rfl rfl sz3 (dr_nx ?_)))
                  refine dr_nil (nx_kp [0, 1, 2, 6, 8, 9, 10] rfl (nx_xt (xt_normal_block (xt_normal_block (xt_then (cd_region (st_v (v_move rfl) (st_v (v_add rfl rfl (by unfold I64 at *; omega)) (st_v (v_assign rfl) (st_nil (nx_kp [0, 1, 2, 6, 8, 9, 10] rfl (nx_xt ?_))))))))))))
                  rw [set_ints (by omega)]
                  refine xt_shut (E := 3) (l' := ints (xs.set ac[i].a.toNat (AM.rdx xs ac[i].b))) ho3 (by simp [ints]) (by repeat (first | exact Sel.here | apply Sel.there)) ?_
                  refine xt_ag (⟨i + 1, B, lv⟩ : MaS) ⟨hlt, by dsimp only; rw [hsn], hF⟩ (by dsimp only; omega) (by repeat (first | exact trivial | refine ⟨rfl, ?_⟩)) ?_
                  dsimp only
                  rw [show xs.set ac[i].a.toNat (AM.rdx xs ac[i].b) = (sacts sh (ac.take (i + 1)) [] (List.replicate N 0)).2 by rw [hsn]]
                  exact (by (repeat (refine Sub.sel (by repeat (first | exact Sel.here | apply Sel.there)) ?_)); (repeat apply Sub.cons); first | exact Sub.refl _ | exact Sub.nil _)
                · skip
                  have k6' : ac[i].k ≠ 6 := by simpa using k6
                  have hsd : sdo sh (stA B) xs ac[i] = (stA B, xs) := by unfold sdo; rw [if_neg k1', if_neg k2', if_neg k3', if_neg k4', if_neg k5', if_neg k6']
                  rw [hsd] at hsn
                  refine cd_skip (xt_normal_block (xt_normal_block (xt_then (cd_region (st_v (v_move rfl) (st_v (v_add rfl rfl (by unfold I64 at *; omega)) (st_v (v_assign rfl) (st_nil (nx_kp [0, 1, 2, 6, 8, 9, 10] rfl (nx_xt (xt_ag (⟨i + 1, B, lv⟩ : MaS) ⟨hlt, by dsimp only; rw [hsn], hF⟩ (by dsimp only; omega) (by repeat (first | exact trivial | refine ⟨rfl, ?_⟩)) ?_)))))))))))
                  dsimp only
                  rw [show xs = (sacts sh (ac.take (i + 1)) [] (List.replicate N 0)).2 by rw [hsn]]
                  exact (by (repeat (refine Sub.sel (by repeat (first | exact Sel.here | apply Sel.there)) ?_)); (repeat apply Sub.cons); first | exact Sub.refl _ | exact Sub.nil _)
  · skip
    have hge : i = ac.length := by have : ac.length ≤ i := by simpa using hd
                                   omega
    subst hge
    rw [List.take_length] at hA ⊢
    refine cd_exit (xt_exit_then (xt_exit_then (xt_exit_block ?_)))
    exact xt_use (hcont B lv hA hF)
end
end Go.Proofs.Ytmhmpjgkkpbnnaa
namespace Go.Proofs.Ytmhmpjgkkpbnnaa
open Go.Ck Fx Go.Hm Go.Hm.AM
attribute [local irreducible] St Cd Xt Nx DrL LsW
section
variable {R : Res} {v0 v2 : Value} {sh : List (List Bool)} {ac : List Go.Hm.Act} {n : Int}
def rmodPic (sh : List (List Bool)) (n : Int) (ac : List Go.Hm.Act) : Pic := if modErr sh n ac ≠ 0 then ⟨[], [], []⟩ else modPic sh n ac
set_option maxHeartbeats 4000000 in
set_option maxRecDepth 100000 in
theorem rmodel_c (hS : Shp R v0 sh) (hs0 : sh.length ≤ 1000000) (hX : ActsV R v2 ac) (ha : ∀ x ∈ ac, I64 x.a) : Ct Try.prog 38 #[v0, .int .i64 n, v2] [R] fun u h' =>
    ∃ sv fv rv us, u = .agg #[sv, fv, rv, .int .i64 (modErr sh n ac)] ∧ PF sv fv rv us (rmodPic sh n ac) ∧ h' = [pR sv fv rv us (rmodPic sh n ac), R] := by
  obtain ⟨xa, xcp, hxv, _⟩ := id hX
  have hme : modErr sh n ac = if sized sh = 0 then playedErr n ac else sized sh := by
    unfold modErr
    by_cases hz : sized sh = 0
    · rw [if_pos hz, if_neg (by rw [hz]; simp)]
    · rw [if_neg hz, if_pos hz]
  refine ct_of (n := 325) Try.func38 rfl rfl (len rfl) fun hr w0 => ?_
  simp only [List.cons_append, List.nil_append]
  refine cd_seq (cd_region (st_alc al46 fun b6 => ?_))
  refine st_nil (nx_then (cd_seq (cd_region (st_v (v_move rfl) (st_clr rfl rfl en47 rfl (rchecked_ct hS hs0) ?_)))))
  refine st_v (v_assign rfl) (st_nil (nx_kp [0, 1, 2, 6, 7] rfl (nx_then (cd_seq (cd_seq (cd_region (st_v (v_move rfl) (st_v (v_eql rfl rfl) (st_nil (nx_kp [0, 1, 2, 6, 7, 27] rfl (nx_then (cd_cond rfl (fun c1 => ?_) (fun c1 => ?_)))))))))))))
  · skip
    have hz : sized sh = 0 := by simpa using c1
    rw [if_pos hz] at hme
    refine cd_region (st_v (v_move rfl) (st_v (v_move rfl) (st_clr rfl rfl en88 rfl (limits_ct hX) ?_)))
    refine st_v (v_assign rfl) (st_nil (nx_kp [0, 1, 2, 6, 7] rfl (nx_then (cd_seq (cd_seq (cd_region (st_v (v_move rfl) (st_v (v_neq rfl rfl) (st_nil (nx_kp [0, 1, 2, 6, 7, 32] rfl (nx_then (cd_cond rfl (fun c2 => ?_) (fun c2 => ?_)))))))))))))
    · skip
      have hp : playedErr n ac ≠ 0 := by simpa using c2
      have hrm : rmodPic sh n ac = ⟨[], [], []⟩ := by unfold rmodPic; rw [if_pos (by rw [hme]; exact hp)]
      rw [hrm, hme]
      refine cd_vecnil 3 1 ?_
      refine cd_vecnil 3 1 ?_
      refine cd_vecnil 34 1 ?_
      refine cd_star0 (cd_pack [vec (.slice none 0 0) 3 1 0 [], vec (.slice none 0 0) 3 1 0 [], vec (.slice none 0 0) 34 1 0 [], Res.star (rowsI [] [])] ?_)
      refine cd_seq (cd_region (st_v (v_move rfl) (st_v (v_build (cells := [.slice none 0 0, .slice none 0 0, .slice none 0 0, .int .i64 (playedErr n ac)]) rfl (fun _ => by kernel_rfl)) ?_)))
      refine st_stoW rfl rfl sz46 rfl rfl ?_
      refine st_nil (nx_kp [0, 1, 2, 6] rfl (nx_then (cd_ret (xt_ret_then ?_))))
      exact xt_retV (.cellN rfl ld46 rfl (by repeat (first | exact Sel.here | apply Sel.there)) .nil) ⟨.slice none 0 0, .slice none 0 0, .slice none 0 0, [], rfl, ⟨.inl ⟨rfl, rfl, rfl⟩, .inl ⟨rfl, rfl, rfl⟩, .inl ⟨rfl, rfl, rfl⟩, rfl, fun j u l hu => by simp at hu⟩, rfl⟩ (by (repeat (refine Sub.sel (by repeat (first | exact Sel.here | apply Sel.there)) ?_)); (repeat apply Sub.cons); first | exact Sub.refl _ | exact Sub.nil _)
    · skip
      have hp : playedErr n ac = 0 := by simpa using c2
      have hp' := hp
      unfold playedErr at hp'
      have hq : ¬ (decide (200 < n) || decide (2000 < (ac.length : Int))) = true := fun hh => by rw [if_pos hh] at hp'; cases hp'
      rw [if_neg hq] at hp'
      have hn0 : 0 ≤ n := by
        by_cases h0 : n < 0
        · rw [if_pos h0] at hp'; cases hp'
        · omega
      simp only [Bool.or_eq_true, decide_eq_true_eq, not_or] at hq
      obtain ⟨N, rfl⟩ : ∃ N : Nat, n = N := ⟨n.toNat, by omega⟩
      obtain ⟨hso, hs1, hw⟩ := sized_ok hz
      have hw' : ∀ l ∈ sh, l.length ≤ 100 := fun l hl => by have := hw l hl; omega
      have hcs := cost_sum hw ac
      have hwd : words sh ac = 1 + (ac.map (cost sh)).sum := rfl
      have hrm : rmodPic sh N ac = (sgr sh (sacts sh ac [] (List.replicate N 0)).1).pic ((sacts sh ac [] (List.replicate N 0)).1.length + 1) (sacts sh ac [] (List.replicate N 0)).2 := by
        unfold rmodPic modPic
        rw [if_neg (by rw [hme, hp]; simp), Int.toNat_natCast]
        exact model_pic (by omega) (by omega) (by omega) (by omega) (by omega) hw' (by omega) (by omega)
      rw [hp] at hme
      rw [hrm, hme]
      refine cd_skip (xt_then (cd_seq (cd_region (st_v (v_assign rfl) (st_nil (nx_kp [0, 1, 2, 6, 8] rfl (nx_then (cd_seq (cd_region (st_v (v_move rfl) (st_make (n := N) rfl rfl rfl Try.underlying34 inf3 rfl (by omega) (by omega) (ltn rfl) fun b1 => ?_)))))))))))
      refine st_v (v_assign rfl) (st_nil (nx_kp [0, 1, 2, 6, 8, 9] rfl (nx_then (cd_seq (cd_seq (cd_region (st_v (v_assign rfl) (st_nil (nx_then (cd_shut (v := (.slice (some ⟨b1, 0, none⟩) N N)) (E := 3) (sz := 1) (n := N) (l := ints (List.replicate N 0)) (l' := ints (List.replicate N 0)) (b := b1) (cp := N) (j := []) ⟨rfl, by simp [ints], Nat.le_refl _, by unfold maxLen; omega, by simp [ints]⟩ rfl (by rw [show ints (List.replicate N 0) ++ [] = List.replicate N (.int .i64 0) by simp [ints]]; exact (by repeat (first | exact Sel.here | apply Sel.there))) ?_))))))))))
      refine cd_use (mm_acts_c (R := R) (v0 := v0) (v2 := v2) (rv := (.slice (some ⟨b1, 0, none⟩) N N)) (b6 := b6) (N := N) (w0 := w0) (hr := pt b6 (cl [.slice none 0 0, .slice none 0 0, .slice none 0 0, .int .i64 0] 46) :: hr) hS hX ha hw (by omega) (by omega) (by omega) rfl (fun _ => ⟨b1, rfl⟩) fun B lv hA hF => ?_)
      obtain ⟨g1, g2, g3⟩ := (SOk.new (sh := sh) N).acts ac
      rw [← hA] at g1 g2 ⊢
      rw [List.length_replicate] at g3
      have hBl : (stA B).length = B.length := List.length_map ..
      have hB2 : B.length ≤ 2000 := by rw [← hBl]; simp only [List.length_nil] at g2; omega
      refine xt_then (cd_seq (cd_region (st_v (v_assign rfl) (st_nil (nx_then (cd_seq (cd_seq (cd_region (st_v (v_assign rfl) (st_nil (nx_then (cd_use (mm_roots_c (R := R) (v0 := v0) (lv := lv) (rv := (.slice (some ⟨b1, 0, none⟩) N N)) (xs := (sacts sh ac [] (List.replicate N 0)).2) (B := B) (N := N) (b6 := b6) (w0 := w0) (hr := pt b6 (cl [.slice none 0 0, .slice none 0 0, .slice none 0 0, .int .i64 0] 46) :: hr) g1 g3 hB2 rfl (fun _ => ⟨b1, rfl⟩) (by omega) fun mv0 => ?_)))))))))))))
      refine xt_then (cd_seq (cd_seq (cd_region (st_v (v_assign rfl) (st_nil (nx_then (cd_vecshape (v := lv) (E := 151) (sz := 2) (n := B.length) (l := stC B) (by repeat (first | exact Sel.here | apply Sel.there)) fun la lcp hlv hla => ?_)))))))
      refine cd_use (mm_close_c (R := R) (v0 := v0) (lv := lv) (rv := (.slice (some ⟨b1, 0, none⟩) N N)) (xs := (sacts sh ac [] (List.replicate N 0)).2) (B := B) (N := N) (b6 := b6) (w0 := w0) (mv := mv0) (hr := pt b6 (cl [.slice none 0 0, .slice none 0 0, .slice none 0 0, .int .i64 0] 46) :: hr) hS g1 hF hw' hB2 hlv hla fun mv ma mcp hmv hma hmet => ?_)
      have hml := sn_len hmet
      refine xt_then (cd_seq (cd_region (st_v (v_build (cells := [.slice none 0 0, .slice none 0 0, .slice none 0 0, .int .i64 0]) rfl (fun _ => by kernel_rfl)) ?_)))
      refine st_alc al46 fun b18 => ?_
      refine st_stoW rfl rfl sz46 rfl rfl ?_
      refine st_nil (nx_kp [0, 1, 6, 8, 9, 13, 18] rfl (nx_then (cd_seq (cd_seq (cd_region (st_v (v_assign rfl) (st_nil (nx_then (cd_use (mm_objs_c (R := R) (v0 := v0) (lv := lv) (rv := (.slice (some ⟨b1, 0, none⟩) N N)) (mv := mv) (xs := (sacts sh ac [] (List.replicate N 0)).2) (B := B) (N := N) (T := (stA B).length + 1) (b6 := b6) (b18 := b18) (w0 := w0) (l := (sgr sh (stA B)).met ((stA B).length + 1) (sacts sh ac [] (List.replicate N 0)).2) (hr := pt b6 (cl [.slice none 0 0, .slice none 0 0, .slice none 0 0, .int .i64 0] 46) :: hr) hS g1 hF hw' hB2 hlv hla rfl hmet hmv hma fun us sv fv hul hform => ?_))))))))))
      refine xt_then (cd_seq (cd_seq (cd_region (st_v (v_assign rfl) (st_nil (nx_kp [1, 6, 9, 13, 18, 23] rfl (nx_then (cd_use (mm_rts_c (rv := (.slice (some ⟨b1, 0, none⟩) N N)) (mv := mv) (xs := (sacts sh ac [] (List.replicate N 0)).2) (N := N) (b6 := b6) (b18 := b18) (w0 := w0) (l := (sgr sh (stA B)).met ((stA B).length + 1) (sacts sh ac [] (List.replicate N 0)).2) (sv := sv) (fv := fv) (hr := vec sv 3 1 ((sgr sh (stA B)).met ((stA B).length + 1) (sacts sh ac [] (List.replicate N 0)).2).length (ints ((sgr sh (stA B)).pic ((stA B).length + 1) (sacts sh ac [] (List.replicate N 0)).2).shapes) :: vec fv 34 1 ((sgr sh (stA B)).met ((stA B).length + 1) (sacts sh ac [] (List.replicate N 0)).2).length us :: Res.star (rowsI us ((sgr sh (stA B)).pic ((stA B).length + 1) (sacts sh ac [] (List.replicate N 0)).2).fields) :: pt b6 (cl [.slice none 0 0, .slice none 0 0, .slice none 0 0, .int .i64 0] 46) :: R :: hr) g3 rfl (fun _ => ⟨b1, rfl⟩) (by omega) hmv hma (by omega) fun wv => ?_)))))))))
      obtain ⟨p1, p2, p3⟩ := spic_parts (sgr sh (stA B)) ((stA B).length + 1) (sacts sh ac [] (List.replicate N 0)).2
      generalize (sgr sh (stA B)).pic ((stA B).length + 1) (sacts sh ac [] (List.replicate N 0)).2 = PP at *
      generalize (sgr sh (stA B)).met ((stA B).length + 1) (sacts sh ac [] (List.replicate N 0)).2 = MM at *
      have e1 : PP.shapes.length = MM.length := by rw [p1, List.length_map]
      have e2 : PP.fields.length = MM.length := by rw [p2, List.length_map]
      have e3 : PP.roots.length = ((sacts sh ac [] (List.replicate N 0)).2).length := by rw [p3, List.length_map]
      refine xt_vform (v := sv) (n := MM.length) (l := ints PP.shapes) (by repeat (first | exact Sel.here | apply Sel.there)) fun f1 => ?_
      refine xt_vform (v := fv) (n := MM.length) (l := us) (by repeat (first | exact Sel.here | apply Sel.there)) fun f2 => ?_
      refine xt_vform (v := wv) (n := ((sacts sh ac [] (List.replicate N 0)).2).length) (l := ints (((sacts sh ac [] (List.replicate N 0)).2).map fun r => 1 + idx MM r)) (by repeat (first | exact Sel.here | apply Sel.there)) fun f3 => ?_
      have o1 := VForm.one f1; have o2 := VForm.one f2; have o3 := VForm.one f3
      refine xt_then (cd_seq (cd_region (st_v (v_loadW rfl ld46 rfl (by repeat (first | exact Sel.here | apply Sel.there))) ?_)))
      refine st_stoW rfl rfl sz46 rfl (by simp only [List.all_cons, List.all_nil, o1, o2, o3]; rfl) ?_
      refine st_nil (nx_kp [6] rfl (nx_then (cd_ret (xt_pack [vec sv 3 1 PP.shapes.length (ints PP.shapes), vec wv 3 1 PP.roots.length (ints PP.roots), vec fv 34 1 PP.fields.length us, Res.star (rowsI us PP.fields)] ?_ (by rw [e1, e2, e3, p3]; repeat (first | exact Pk.nil | (apply Pk.cons; (repeat (first | exact Sel.here | apply Sel.there)))))))))
      exact xt_retV (.cellN rfl ld46 rfl (by repeat (first | exact Sel.here | apply Sel.there)) .nil) ⟨sv, fv, wv, us, rfl, ⟨by rw [e1]; exact f1, by rw [e3, p3]; exact f3, by rw [e2]; exact f2, by rw [e2]; exact hul, hform⟩, rfl⟩ (by (repeat (refine Sub.sel (by repeat (first | exact Sel.here | apply Sel.there)) ?_)); (repeat apply Sub.cons); first | exact Sub.refl _ | exact Sub.nil _)
  · skip
    have hz : sized sh ≠ 0 := by simpa using c1
    rw [if_neg hz] at hme
    have hrm : rmodPic sh n ac = ⟨[], [], []⟩ := by unfold rmodPic; rw [if_pos (by rw [hme]; exact hz)]
    rw [hrm, hme]
    refine cd_skip (xt_then (cd_seq (cd_seq (cd_region (st_v (v_move rfl) (st_v (v_neq rfl rfl) (st_nil (nx_kp [0, 1, 2, 6, 7, 32] rfl (nx_then (cd_cond rfl (fun c3 => ?_) (fun c3 => ?_)))))))))))
    · skip
      refine cd_vecnil 3 1 ?_
      refine cd_vecnil 3 1 ?_
      refine cd_vecnil 34 1 ?_
      refine cd_star0 (cd_pack [vec (.slice none 0 0) 3 1 0 [], vec (.slice none 0 0) 3 1 0 [], vec (.slice none 0 0) 34 1 0 [], Res.star (rowsI [] [])] ?_)
      refine cd_seq (cd_region (st_v (v_move rfl) (st_v (v_build (cells := [.slice none 0 0, .slice none 0 0, .slice none 0 0, .int .i64 (sized sh)]) rfl (fun _ => by kernel_rfl)) ?_)))
      refine st_stoW rfl rfl sz46 rfl rfl ?_
      refine st_nil (nx_kp [0, 1, 2, 6] rfl (nx_then (cd_ret (xt_ret_then ?_))))
      exact xt_retV (.cellN rfl ld46 rfl (by repeat (first | exact Sel.here | apply Sel.there)) .nil) ⟨.slice none 0 0, .slice none 0 0, .slice none 0 0, [], rfl, ⟨.inl ⟨rfl, rfl, rfl⟩, .inl ⟨rfl, rfl, rfl⟩, .inl ⟨rfl, rfl, rfl⟩, rfl, fun j u l hu => by simp at hu⟩, rfl⟩ (by (repeat (refine Sub.sel (by repeat (first | exact Sel.here | apply Sel.there)) ?_)); (repeat apply Sub.cons); first | exact Sub.refl _ | exact Sub.nil _)
    · skip
      exact absurd (by simpa using c3) hz
end
end Go.Proofs.Ytmhmpjgkkpbnnaa
namespace Go.Proofs.Ytmhmpjgkkpbnnaa
open Go.Ck Fx Go.Hm Go.Hm.AM
attribute [local irreducible] St Cd Xt Nx DrL LsW
section
variable {R : Res} {v0 v2 : Value} {sh : List (List Bool)} {ac : List Go.Hm.Act} {n : Int}
theorem picv_nil (R : Res) : PicV R (.slice none 0 0) (.slice none 0 0) (.slice none 0 0) ⟨[], [], []⟩ := ⟨⟨none, 0, rfl, .inl rfl⟩, ⟨none, 0, rfl, .inl rfl⟩, ⟨none, 0, rfl, .inl rfl⟩⟩
theorem modPic_sz (hm : modErr sh n ac = 0) : PicSz (modPic sh n ac) := by
  unfold modErr at hm
  have hz : sized sh = 0 := by
    by_cases hz : sized sh = 0
    · exact hz
    · rw [if_pos hz] at hm; exact hm
  rw [if_neg (by rw [hz]; simp)] at hm
  obtain ⟨hso, hs1, hw⟩ := sized_ok hz
  have hcs := cost_sum hw ac
  have hwd : words sh ac = 1 + (ac.map (cost sh)).sum := rfl
  have hn : n ≤ 200 ∧ ac.length ≤ 2000 := by
    unfold playedErr at hm
    by_cases hq : (decide (200 < n) || decide (2000 < (ac.length : Int))) = true
    · rw [if_pos hq] at hm; cases hm
    · simp only [Bool.or_eq_true, decide_eq_true_eq, not_or] at hq; omega
  unfold modPic
  refine pictured_sz (Fine.acts true ac ⟨_, _, _, _, _, Good.newS (by omega) (by omega) (by omega) (by omega) (by omega) (fun l hl => by have := hw l hl; omega)⟩ _) ?_
  rw [acts_len, List.length_replicate]; omega
set_option maxHeartbeats 4000000 in
set_option maxRecDepth 100000 in
theorem heapModels_c (hS : Shp R v0 sh) (hs0 : sh.length ≤ maxLen) (hX : ActsV R v2 ac) (ha : ∀ x ∈ ac, I64 x.a) (hn : I64 n) :
    Ct Try.prog 8 #[v0, .int .i64 n, v2] [R] fun u h' => u = .bool true ∧ h' = [R] := by
  obtain ⟨a, cp, hv, _⟩ := id hS
  obtain ⟨xa, xcp, hxv, _⟩ := id hX
  refine ct_of (n := 63) Try.func8 rfl rfl (len rfl) fun hr w0 => ?_
  simp only [List.cons_append, List.nil_append]
  refine cd_seq (cd_region (st_v (v_assign rfl) (st_nil (nx_then (cd_seq (cd_seq (cd_region (st_v (v_move rfl) (st_clr rfl rfl en12 rfl (fit_ct hS hs0) ?_)))))))))
  refine st_v (v_not rfl) (st_v (v_move rfl) (st_cut (k := 11) (d := 21) (v := .bool (!(fitp sh) || (decide (20 < n) && decide (n ≤ 200)))) (fun hcut => bool_want (b := !(fitp sh)) false (fun hg => ?_) (fun hg => ?_)) ?_))
  · refine st_sk rfl rfl hg ?_
    refine st_sk rfl rfl hg ?_
    refine st_sk rfl rfl hg ?_
    refine st_sku rfl rfl ?_
    refine st_sku rfl rfl ?_
    refine st_sk rfl rfl hg ?_
    refine st_v (v_pick_true (bool_ev rfl hg) rfl) ?_
    exact hcut _ (ssub_head (by first | rfl | (rw [hg]; rfl) | simp_all) (ssub_skip rfl (ssub_skip rfl (ssub_skip rfl (ssub_skip rfl (ssub_skip rfl (ssub_skip rfl (ssub_refl))))))))
  · skip
    refine st_vg rfl (bool_get rfl hg) (v_move rfl) (st_vg rfl (bool_get rfl hg) (v_gtr rfl rfl) (st_vg rfl (bool_get rfl hg) (v_move rfl) (st_cut (k := 10) (d := 20) (v := .bool (decide (20 < n) && decide (n ≤ 200))) (fun hcut => bool_want (b := decide (20 < n)) true (fun hg1 => ?_) (fun hg1 => ?_)) ?_)))
    · refine st_sk rfl rfl hg1 ?_
      refine st_sk rfl rfl hg1 ?_
      refine st_vg rfl (bool_get rfl hg) (v_pick_false (bool_ev rfl hg1) rfl) ?_
      exact hcut _ (ssub_head (by first | rfl | (rw [hg1]; rfl) | simp_all) (ssub_skip rfl (ssub_skip rfl (ssub_refl))))
    · skip
      refine st_vg rfl (bool_get rfl hg1) (v_move rfl) (st_vg rfl (bool_get rfl hg1) (v_leq rfl rfl) (st_vg rfl (bool_get rfl hg) (v_pick_true (bool_ev rfl hg1) rfl) ?_))
      exact hcut _ (ssub_head (by first | rfl | (rw [hg1]; rfl) | simp_all) (ssub_skip rfl (ssub_skip rfl (ssub_refl))))
    refine st_v (v_pick_false (bool_ev rfl hg) rfl) ?_
    exact hcut _ (ssub_head (by first | rfl | (rw [hg]; rfl) | simp_all) (by repeat (first | exact ssub_refl | refine ssub_skip rfl ?_)))
  refine st_v (v_move rfl) (st_cut (k := 21) (d := 31) (v := .bool ((!(fitp sh) || (decide (20 < n) && decide (n ≤ 200))) || (decide (80 < (ac.length : Int)) && decide ((ac.length : Int) ≤ 2000)))) (fun hcut => bool_want (b := (!(fitp sh) || (decide (20 < n) && decide (n ≤ 200)))) false (fun hg => ?_) (fun hg => ?_)) ?_)
  · refine st_sk rfl rfl hg ?_
    refine st_sk rfl rfl hg ?_
    refine st_sk rfl rfl hg ?_
    refine st_sk rfl rfl hg ?_
    refine st_sku rfl rfl ?_
    refine st_sku rfl rfl ?_
    refine st_sku rfl rfl ?_
    refine st_sk rfl rfl hg ?_
    refine st_v (v_pick_true (bool_ev rfl hg) rfl) ?_
    exact hcut _ (ssub_head (by first | rfl | (rw [hg]; rfl) | simp_all) (ssub_skip rfl (ssub_skip rfl (ssub_skip rfl (ssub_skip rfl (ssub_skip rfl (ssub_skip rfl (ssub_skip rfl (ssub_skip rfl (ssub_refl))))))))))
  · skip
    refine st_vg rfl (bool_get rfl hg) (v_move rfl) (st_vg rfl (bool_get rfl hg) (v_len (congrArg some hxv) Try.underlying62) (st_vg rfl (bool_get rfl hg) (v_gtr rfl rfl) (st_vg rfl (bool_get rfl hg) (v_move rfl) (st_cut (k := 20) (d := 30) (v := .bool (decide (80 < (ac.length : Int)) && decide ((ac.length : Int) ≤ 2000))) (fun hcut => bool_want (b := decide (80 < (ac.length : Int))) true (fun hg1 => ?_) (fun hg1 => ?_)) ?_))))
    · refine st_sk rfl rfl hg1 ?_
      refine st_sk rfl rfl hg1 ?_
      refine st_sk rfl rfl hg1 ?_
      refine st_vg rfl (bool_get rfl hg) (v_pick_false (bool_ev rfl hg1) rfl) ?_
      exact hcut _ (ssub_head (by first | rfl | (rw [hg1]; rfl) | simp_all) (ssub_skip rfl (ssub_skip rfl (ssub_skip rfl (ssub_refl)))))
    · skip
      refine st_vg rfl (bool_get rfl hg1) (v_move rfl) (st_vg rfl (bool_get rfl hg1) (v_len (congrArg some hxv) Try.underlying62) (st_vg rfl (bool_get rfl hg1) (v_leq rfl rfl) (st_vg rfl (bool_get rfl hg) (v_pick_true (bool_ev rfl hg1) rfl) ?_)))
      exact hcut _ (ssub_head (by first | rfl | (rw [hg1]; rfl) | simp_all) (ssub_skip rfl (ssub_skip rfl (ssub_skip rfl (ssub_refl)))))
    refine st_v (v_pick_false (bool_ev rfl hg) rfl) ?_
    exact hcut _ (ssub_head (by first | rfl | (rw [hg]; rfl) | simp_all) (by repeat (first | exact ssub_refl | refine ssub_skip rfl ?_)))
  refine st_v (v_move rfl) (st_cut (k := 26) (d := 36) (v := .bool (((!(fitp sh) || (decide (20 < n) && decide (n ≤ 200))) || (decide (80 < (ac.length : Int)) && decide ((ac.length : Int) ≤ 2000))) || decide (2010 < (ac.length : Int)))) (fun hcut => bool_want (b := ((!(fitp sh) || (decide (20 < n) && decide (n ≤ 200))) || (decide (80 < (ac.length : Int)) && decide ((ac.length : Int) ≤ 2000)))) false (fun hg => ?_) (fun hg => ?_)) ?_)
  · refine st_sk rfl rfl hg ?_
    refine st_sk rfl rfl hg ?_
    refine st_sk rfl rfl hg ?_
    refine st_v (v_pick_true (bool_ev rfl hg) rfl) ?_
    exact hcut _ (ssub_head (by first | rfl | (rw [hg]; rfl) | simp_all) (ssub_skip rfl (ssub_skip rfl (ssub_skip rfl (ssub_refl)))))
  · skip
    refine st_vg rfl (bool_get rfl hg) (v_move rfl) (st_vg rfl (bool_get rfl hg) (v_len (congrArg some hxv) Try.underlying62) (st_vg rfl (bool_get rfl hg) (v_gtr rfl rfl) (st_v (v_pick_false (bool_ev rfl hg) rfl) ?_)))
    exact hcut _ (ssub_head (by first | rfl | (rw [hg]; rfl) | simp_all) (ssub_skip rfl (ssub_skip rfl (ssub_skip rfl (ssub_refl)))))
  refine st_nil (nx_kp [0, 1, 2, 6, 36] rfl (nx_then (cd_cond rfl (fun hc => ?_) (fun hc => ?_))))
  · skip
    refine cd_seq (cd_region (st_cl rfl rfl en14 rfl (sanity_c) ?_))
    rintro v' h' ⟨rfl, rfl⟩
    simp only [List.nil_append]
    refine st_v (v_assign rfl) (st_nil (nx_kp [0, 1, 2, 6] rfl (nx_then (cd_ret (xt_ret_then ?_)))))
    exact xt_rt rfl ⟨rfl, rfl⟩ (by (repeat (refine Sub.sel (by repeat (first | exact Sel.here | apply Sel.there)) ?_)); (repeat apply Sub.cons); first | exact Sub.refl _ | exact Sub.nil _)
  · skip
    have hsl : sh.length ≤ 1000000 := by
      have hf : fitp sh = true := by
        simp only [Bool.or_eq_false_iff, Bool.not_eq_false'] at hc
        exact hc.1.1.1
      unfold fitp at hf
      simp only [Bool.and_eq_true, Bool.or_eq_true, decide_eq_true_eq] at hf
      omega
    refine cd_skip (xt_then (cd_seq (cd_region (st_v (v_move rfl) (st_v (v_move rfl) (st_v (v_move rfl) (st_cl rfl rfl en37 rfl (model_c hS hsl hX ha) ?_)))))))
    rintro v' h' hu
    rcases hu with ⟨hq, rfl, rfl⟩ | ⟨hq, sv, fv, rv, us, rfl, hPM, rfl⟩
    · skip
      simp only [List.cons_append, List.nil_append]
      refine st_v (v_move rfl) (st_v (v_extract rfl rfl) (st_v (v_extract rfl rfl) (st_alc al42 fun b7 => ?_)))
      refine st_stoW rfl rfl sz42 rfl rfl ?_
      refine st_v (v_assign rfl) (st_nil (nx_kp [0, 1, 2, 6, 7, 8] rfl (nx_then (cd_seq (cd_region (st_v (v_move rfl) (st_v (v_move rfl) (st_v (v_move rfl) (st_cl rfl rfl en38 rfl (rmodel_c hS hsl hX ha) ?_)))))))))
      rintro v' h' ⟨sv2, fv2, rv2, us2, rfl, hPF, rfl⟩
      have q1 := VForm.one hPF.s; have q2 := VForm.one hPF.f; have q3 := VForm.one hPF.r
      simp only [List.cons_append, List.nil_append]
      refine st_alc al46 fun b9 => ?_
      refine st_stoW rfl rfl sz46 rfl (by simp only [List.all_cons, List.all_nil, q1, q2, q3]; rfl) ?_
      have hrm : rmodPic sh n ac = ⟨[], [], []⟩ := by unfold rmodPic; rw [if_pos hq]
      rw [hrm] at hPF ⊢
      have hsp := samePictures_ct (picv_nil _) hPF.v ⟨Nat.zero_le _, Nat.zero_le _, Nat.zero_le _, fun x hx => by cases hx⟩
      rw [samePic_self] at hsp
      refine st_nil (nx_kp [6, 7, 8, 9] rfl (nx_then (cd_seq (cd_region (st_v (v_loadW rfl ld42 rfl (by repeat (first | exact Sel.here | apply Sel.there))) ?_)))))
      refine st_v (v_fieldAddr rfl fa46_0 rfl) (st_v (v_loadR (r := pt b9 (cl ([sv2, fv2, rv2] ++ [.int .i64 (modErr sh n ac)]) 46)) rfl ld42 rfl (by repeat (first | exact Sel.here | apply Sel.there)) rds_pre) ?_)
      refine st_clr rfl rfl en22 rfl (hsp) ?_
      refine st_v (v_assign rfl) (st_nil (nx_kp [6, 8, 9, 10] rfl (nx_then (cd_seq (cd_region (st_cl rfl rfl en14 rfl (sanity_c) ?_))))))
      rintro v' h' ⟨rfl, rfl⟩
      simp only [List.nil_append]
      refine st_v (v_move rfl) (st_vg rfl rfl (v_move rfl) (st_v (v_pick_true rfl rfl) (st_v (v_move rfl) (st_vg rfl rfl (v_move rfl) (st_vg rfl rfl (v_fieldAddr rfl fa46_1 rfl) (st_vg rfl rfl (v_ld rfl ld28) ?_))))))
      refine st_vg rfl rfl (v_eql rfl rfl) (st_v (v_pick_true rfl rfl) (st_v (v_assign rfl) (st_nil (nx_kp [6] rfl (nx_then (cd_ret ?_))))))
      rw [beq_self_eq_true]
      exact xt_rt rfl ⟨rfl, rfl⟩ (by (repeat (refine Sub.sel (by repeat (first | exact Sel.here | apply Sel.there)) ?_)); (repeat apply Sub.cons); first | exact Sub.refl _ | exact Sub.nil _)
    · skip
      simp only [List.cons_append, List.nil_append]
      have u1 := VForm.one hPM.s; have u2 := VForm.one hPM.f; have u3 := VForm.one hPM.r
      refine st_v (v_move rfl) (st_v (v_extract rfl rfl) (st_v (v_extract rfl rfl) (st_alc al42 fun b7 => ?_)))
      refine st_stoW rfl rfl sz42 rfl (by simp only [List.all_cons, List.all_nil, u1, u2, u3]; rfl) ?_
      refine st_v (v_assign rfl) (st_nil (nx_kp [0, 1, 2, 6, 7, 8] rfl (nx_then (cd_seq (cd_region (st_v (v_move rfl) (st_v (v_move rfl) (st_v (v_move rfl) (st_cl rfl rfl en38 rfl (rmodel_c hS hsl hX ha) ?_)))))))))
      rintro v' h' ⟨sv2, fv2, rv2, us2, rfl, hPF, rfl⟩
      have q1 := VForm.one hPF.s; have q2 := VForm.one hPF.f; have q3 := VForm.one hPF.r
      simp only [List.cons_append, List.nil_append]
      refine st_alc al46 fun b9 => ?_
      refine st_stoW rfl rfl sz46 rfl (by simp only [List.all_cons, List.all_nil, q1, q2, q3]; rfl) ?_
      have hrm : rmodPic sh n ac = modPic sh n ac := by unfold rmodPic; rw [if_neg (by rw [hq]; simp)]
      rw [hrm] at hPF ⊢
      have hsp := Reads.unstar (samePictures_ct (R := Res.star [pR sv fv rv us (modPic sh n ac), pR sv2 fv2 rv2 us2 (modPic sh n ac)]) (hPM.v.star .here) (hPF.v.star (.there .here)) (modPic_sz hq))
      rw [samePic_self] at hsp
      refine st_nil (nx_kp [6, 7, 8, 9] rfl (nx_then (cd_seq (cd_region (st_v (v_loadW rfl ld42 rfl (by repeat (first | exact Sel.here | apply Sel.there))) ?_)))))
      refine st_v (v_fieldAddr rfl fa46_0 rfl) (st_v (v_loadR (r := pt b9 (cl ([sv2, fv2, rv2] ++ [.int .i64 (modErr sh n ac)]) 46)) rfl ld42 rfl (by repeat (first | exact Sel.here | apply Sel.there)) rds_pre) ?_)
      refine st_clr rfl rfl en22 rfl (hsp) ?_
      refine st_v (v_assign rfl) (st_nil (nx_kp [6, 8, 9, 10] rfl (nx_then (cd_seq (cd_region (st_cl rfl rfl en14 rfl (sanity_c) ?_))))))
      rintro v' h' ⟨rfl, rfl⟩
      simp only [List.nil_append]
      refine st_v (v_move rfl) (st_vg rfl rfl (v_move rfl) (st_v (v_pick_true rfl rfl) (st_v (v_move rfl) (st_vg rfl rfl (v_move rfl) (st_vg rfl rfl (v_fieldAddr rfl fa46_1 rfl) (st_vg rfl rfl (v_ld rfl ld28) ?_))))))
      refine st_vg rfl rfl (v_eql rfl rfl) (st_v (v_pick_true rfl rfl) (st_v (v_assign rfl) (st_nil (nx_kp [6] rfl (nx_then (cd_ret ?_))))))
      rw [hq]
      exact xt_rt rfl ⟨rfl, rfl⟩ (by (repeat (refine Sub.sel (by repeat (first | exact Sel.here | apply Sel.there)) ?_)); (repeat apply Sub.cons); first | exact Sub.refl _ | exact Sub.nil _)
end
end Go.Proofs.Ytmhmpjgkkpbnnaa
namespace Go.Proofs.Ytmhmpjgkkpbnnaa
open Go Go.RowKit Go.ChangeShapes Go.WideShapes Go.Ck
set_option maxRecDepth 100000 in
theorem heapModels_lifted (os : Os) (started : os.Started) (H : Type) (enc : TypeId × Value → H) :
    ReturnsInHanded {} Try.checked os 8 .any (Rows.heapModelsSpec.pre6 enc Try.prog Try.f8 Rows.heapModelsRow.domain false) (Rows.heapModelsSpec.post enc Try.prog Try.f8 false true false false) := by
  refine returnsInHanded_of_change (C := Try.checked) own' started (by kernel_rfl) Try.func8
    (ChangeSpec.witness6 (enc := enc) (C := Try.checked) false ⟨#[], #[.slice none 0 0, .int .i64 0, .slice none 0 0], []⟩ 8 (by kernel_rfl) (by kernel_rfl) (by kernel_rfl) (by kernel_rfl)) ?_
  intro W base args ds gs before hval0 hW hcnd _
  have hval : ∀ (j : Nat) t v, Try.f8.params[j]? = some t → args[j]? = some v → Value.okWide Try.prog W .any base t v := hval0
  have hW' := hW
  obtain ⟨p, q, hA0, hV, rfl, hfz, hnd⟩ := hW
  have hA : DataW.TrodAll enc Try.prog W 0 (fun _ => true) true Try.f8.params.toList args.toList ds p := hA0
  rw [Try.params8] at hA hval
  obtain ⟨v0, vs0, d0, ds0, p0, q0, hargs, rfl, rfl, h0, r0⟩ := trodAll_cons hA
  obtain ⟨v1, vs1, d1, ds1, p1, q1, rfl, rfl, rfl, h1, r1⟩ := trodAll_cons r0
  obtain ⟨v2, vs2, d2, ds2, p2, q2, rfl, rfl, rfl, h2, r2⟩ := trodAll_cons r1
  obtain ⟨rfl, rfl, rfl⟩ := trodAll_nil r2
  obtain rfl : args = #[v0, v1, v2] := by cases args; simp_all
  obtain ⟨rfl, rfl⟩ := trodVars_none hV
  obtain ⟨y0, e0⟩ := arg_one (ty := .slice (.slice .bool)) (by kernel_rfl) (by kernel_rfl) (hval 0 22 v0 rfl rfl) h0
  obtain ⟨y1, e1⟩ := arg_one (ty := .int .i64) (by kernel_rfl) (by kernel_rfl) (hval 1 3 v1 rfl rfl) h1
  obtain ⟨y2, e2⟩ := arg_one (ty := .slice actTy) (by kernel_rfl) (by kernel_rfl) (hval 2 62 v2 rfl rfl) h2
  obtain ⟨s0, l0⟩ := shp_of e0
  obtain ⟨s2, a2⟩ := acts_of e2
  obtain ⟨rfl, w1⟩ := rep_kind e1
  refine (ct_calls (heapModels_c s0 l0 s2 a2 (wf_I64' w1)) fun v h' h => ⟨h.1, by rw [h.2]; exact .refl _⟩).mono fun e W' ⟨he, hk⟩ => ⟨_, he, ?_⟩
  exact law_post (tys := [.slice (.slice .bool), .int .i64, .slice actTy]) hW' rfl (by kernel_rfl) Try.underlying4 (by rw [Try.params8]; kernel_rfl) rfl hk
theorem heapModels_holds : Rows.HeapModelsSaid :=
  OpenClaim.holds_of_wide 8 Try.f8 rfl rfl rfl rfl rfl rfl rfl ⟨rfl, rfl, rfl, rfl, rfl⟩ rfl rfl rfl rfl rfl (by kernel_rfl) Try.func8 (by kernel_rfl)
    (of_decide_eq_true (by kernel_rfl)) (by unfold Func.isWrapper; first | (rw [if_pos (by decide +kernel)]; kernel_rfl) | (rw [if_neg (by decide +kernel)]; exact ⟨rfl, rfl⟩))
    (fun os started H enc _ => heapModels_lifted os started H enc)
end Go.Proofs.Ytmhmpjgkkpbnnaa
