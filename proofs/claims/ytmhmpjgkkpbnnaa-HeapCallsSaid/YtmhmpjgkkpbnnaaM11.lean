/-
  The reference's pictures: PictureOf. Conditions: what the heap holds, that the machine is in order.
  The reference's pictures: PictureOf, joined. Conditions: what the heap holds, that the machine is in order.
  Pictures of package heap: seen, in, meet. Conditions: what the heap holds, that the machine is in order.
  Pictures of package heap: Picture. Conditions: what the heap holds, that the machine is in order.
-/
import Derived.Test.YtmhmpjgkkpbnnaaM10
import Derived.Test.YtmhmpjgkkpbnnaaM2
import Derived.Test.YtmhmpjgkkpbnnaaM4
namespace Go.Proofs.Ytmhmpjgkkpbnnaa
open Go.Ck Fx Go.Hm Go.Hm.AM
attribute [local irreducible] St Cd Xt Nx DrL LsW
/-- Rows of numbers, each with a block of its own. -/
def rowsI (us : List Value) (rows : List (List Int)) : SH := (us.zip rows).map fun q => vec q.1 3 1 q.2.length (ints q.2)
theorem rowsI_snoc {us : List Value} {rows : List (List Int)} {u : Value} {l : List Int} (h : us.length = rows.length) : rowsI (us ++ [u]) (rows ++ [l]) = rowsI us rows ++ [vec u 3 1 l.length (ints l)] := by
  unfold rowsI
  rw [List.zip_append h]; simp
/-- v is a list of rows of numbers, which r holds. -/
def RowsI (r : Res) (v : Value) (rows : List (List Int)) : Prop := ∃ a cp, v = .slice a rows.length cp ∧ (rows = [] ∨ ∃ b o, a = some ⟨b, o, none⟩ ∧ ∀ i (h : i < rows.length), ∃ u, Rd r ⟨b, o + i, none⟩ u ∧ RowI r u rows[i])
theorem RowsI.row {r : Res} {v : Value} {rows : List (List Int)} (h : RowsI r v rows) {i : Nat} (hi : i < rows.length) : ∃ b o cp u, v = .slice (some ⟨b, o, none⟩) rows.length cp ∧ Rd r ⟨b, o + i, none⟩ u ∧ RowI r u rows[i] := by
  obtain ⟨a, cp, hv, hn⟩ := h
  rcases hn with e | ⟨b, o, ha, hr⟩
  · rw [e] at hi; simp at hi
  obtain ⟨u, h1, h2⟩ := hr i hi
  exact ⟨b, o, cp, u, by rw [hv, ha], h1, h2⟩
/-- What the slices of a picture look like. -/
structure PF (sv fv rv : Value) (us : List Value) (p : Pic) : Prop where
  s : VForm sv p.shapes.length (ints p.shapes)
  r : VForm rv p.roots.length (ints p.roots)
  f : VForm fv p.fields.length us
  l : us.length = p.fields.length
  u : ∀ (j : Nat) (u : Value) (l : List Int), us[j]? = some u → p.fields[j]? = some l → VForm u l.length (ints l)
def pR (sv fv rv : Value) (us : List Value) (p : Pic) : Res := Res.star [vec sv 3 1 p.shapes.length (ints p.shapes), vec rv 3 1 p.roots.length (ints p.roots), vec fv 34 1 p.fields.length us, Res.star (rowsI us p.fields)]
/-- A picture that r holds. -/
structure PicV (r : Res) (sv fv rv : Value) (p : Pic) : Prop where
  ps : RowI r sv p.shapes
  pr : RowI r rv p.roots
  pf : RowsI r fv p.fields
theorem rowI_star2 {k : SH} {r : Res} {v : Value} {l : List Int} (hm : r ∈ k) (h : RowI r v l) : RowI (Res.star k) v l := by
  obtain ⟨a, cp, h1, h2 | ⟨b, o, h3, h4⟩⟩ := h
  · exact ⟨a, cp, h1, .inl h2⟩
  · exact ⟨a, cp, h1, .inr ⟨b, o, h3, fun j hj => rd_star_mem hm (h4 j hj)⟩⟩
theorem rowI_star {k : SH} {v : Value} {l : List Int} (hm : vec v 3 1 l.length (ints l) ∈ k) (hv : VForm v l.length (ints l)) : RowI (Res.star k) v l := by
  rcases hv with ⟨h1, h2, h3⟩ | ⟨b', cp', h1⟩
  · refine ⟨none, 0, by rw [h1, h2], .inl (List.eq_nil_of_length_eq_zero h2)⟩
  · refine ⟨_, cp', h1, .inr ⟨b', 0, rfl, fun j hj => ?_⟩⟩
    rw [Nat.zero_add]
    exact rd_star_mem hm (rd_vec h1 (by simp [ints, hj]))
theorem PF.v {sv fv rv : Value} {us : List Value} {p : Pic} (h : PF sv fv rv us p) : PicV (pR sv fv rv us p) sv fv rv p := by
  have hl := h.l
  refine ⟨rowI_star (by simp) h.s, rowI_star (by simp) h.r, ?_⟩
  rcases h.f with ⟨h0, h1, h2⟩ | ⟨b, cp, h0⟩
  · exact ⟨none, 0, by rw [h0, h1], .inl (List.eq_nil_of_length_eq_zero h1)⟩
  · refine ⟨_, cp, h0, .inr ⟨b, 0, rfl, fun i hi => ⟨us[i]'(by omega), ?_, ?_⟩⟩⟩
    · rw [Nat.zero_add]
      exact rd_star_mem (r := vec fv 34 1 p.fields.length us) (by simp) (rd_vec h0 (List.getElem?_eq_getElem (by omega)))
    · refine rowI_star2 (r := Res.star (rowsI us p.fields)) (by simp) (rowI_star ?_ (h.u i _ _ (List.getElem?_eq_getElem (by omega)) (List.getElem?_eq_getElem hi)))
      have hm : vec (us[i]'(by omega)) 3 1 p.fields[i].length (ints p.fields[i]) ∈ rowsI us p.fields := by
        refine List.mem_map.2 ⟨(us[i]'(by omega), p.fields[i]), ?_, rfl⟩
        have : (us.zip p.fields)[i]'(by simp; omega) = (us[i]'(by omega), p.fields[i]) := by simp
        rw [← this]; exact List.getElem_mem _
      exact hm
theorem row_step {A : List Int} {k n : Nat} (hA : A.length = n) (hk : k < n) (x : Int) : (A.take k ++ List.replicate (n - k) 0).set k x = A.take k ++ x :: List.replicate (n - (k + 1)) 0 := by
  rw [List.set_append_right _ _ (by rw [List.length_take]; omega), List.length_take, Nat.min_eq_left (by omega), Nat.sub_self, show n - k = (n - (k + 1)) + 1 by omega, List.replicate_succ, List.set_cons_zero]
theorem row_step2 {A : List Int} {k n : Nat} (hA : A.length = n) (hk : k < n) (x y : Int) : (A.take k ++ x :: List.replicate (n - (k + 1)) 0).set k y = A.take k ++ y :: List.replicate (n - (k + 1)) 0 := by
  rw [List.set_append_right _ _ (by rw [List.length_take]; omega), List.length_take, Nat.min_eq_left (by omega), Nat.sub_self, List.set_cons_zero]
theorem row_next {A : List Int} {k n : Nat} (hA : A.length = n) (hk : k < n) {x : Int} (hx : A[k]? = some x) : A.take k ++ x :: List.replicate (n - (k + 1)) 0 = A.take (k + 1) ++ List.replicate (n - (k + 1)) 0 := by
  rw [List.getElem?_eq_getElem (by omega)] at hx
  rw [List.take_succ_eq_append_getElem (by omega), List.append_assoc]
  cases hx; rfl
theorem row_get {A : List Int} {k n : Nat} (hA : A.length = n) (hk : k < n) (x : Int) : (A.take k ++ x :: List.replicate (n - (k + 1)) 0)[k]? = some x := by
  rw [List.getElem?_append_right (by rw [List.length_take]; omega), List.length_take, Nat.min_eq_left (by omega), Nat.sub_self]; rfl
section
variable {L : RL} {m : AM} {S R : Res} {t k a : Int} {ly ln lf N rl rs : List Int} {sp : Int} {v : Value} {roots : List Int} {φ : Int → Option Nat} {A : Store}
theorem ob_obj (h : Gd m ly ln lf N rl sp rs) {t : Int} (ht : AM.Obj ly ln lf t) : Ob m t := by
  rcases ht with ht | ht | ht
  · exact ob_y h ht
  · exact ob_n h ht
  · exact ob_f h ht
/-- The parts of a picture, as they grow. -/
theorem pic_parts (m : AM) (roots : List Int) : (m.pic roots).shapes = (m.gr.met m.T roots).map (fun t => m.head t - 1) ∧ (m.pic roots).fields = (m.gr.met m.T roots).map (m.gr.prow (m.gr.met m.T roots)) ∧ (m.pic roots).roots = roots.map fun r => 1 + idx (m.gr.met m.T roots) r := ⟨rfl, rfl, rfl⟩
theorem take_map_succ {α β : Type} {f : α → β} {l : List α} {i : Nat} (h : i < l.length) : (l.map f).take (i + 1) = (l.map f).take i ++ [f l[i]] := by
  rw [List.take_succ_eq_append_getElem (by simpa using h)]; simp
theorem gr_flag {k : Nat} (hk : k < (m.row t).length) : ((m.gr.fs t)[k]'(by rw [gr_len]; exact hk)) = ((m.row t)[k], if (m.row t)[k] then m.seen (m.word (t + 1 + k)) else m.word (t + 1 + k)) := by
  rw [gr_get, List.getD_eq_getElem?_getD, List.getElem?_eq_getElem hk]; rfl
theorem prow_len (m : AM) (M : List Int) (t : Int) : (m.gr.prow M t).length = (m.row t).length := by unfold Gr.prow; rw [List.length_map, gr_len]
theorem prow_get {M : List Int} {k : Nat} (hk : k < (m.row t).length) : (m.gr.prow M t)[k]? = some (if (m.row t)[k] then 1 + idx M (m.seen (m.word (t + 1 + k))) else m.word (t + 1 + k)) := by
  unfold Gr.prow
  rw [List.getElem?_map, List.getElem?_eq_getElem (by rw [gr_len]; exact hk), gr_flag hk]
  simp only [Option.map_some]
  split <;> rfl
theorem snoc_all {α β : Type} {P : α → β → Prop} {us : List α} {fs : List β} {x0 : α} {y0 : β} {i : Nat} (hul : us.length = i) (hf : ∀ (j : Nat) (u : α) (x : β), us[j]? = some u → fs[j]? = some x → P u x) (hi : fs[i]? = some y0) (h0 : P x0 y0) : ∀ (j : Nat) (u : α) (x : β), (us ++ [x0])[j]? = some u → fs[j]? = some x → P u x := fun j u x hu hx => by
  rcases Nat.lt_or_ge j us.length with hj | hj
  · exact hf j u x (by rw [List.getElem?_append_left hj] at hu; exact hu) hx
  · have hji : j = us.length := by
      have := (List.getElem?_eq_some_iff.1 hu).1
      simp at this; omega
    subst hji
    rw [List.getElem?_append_right (Nat.le_refl _)] at hu
    rw [hul, hi] at hx
    simp at hu hx
    rw [← hu, ← hx]; exact h0
variable {Q : Exit → Act → World → Prop} {w0 : World} {hr : SH} {l : List Int} {lv u : Value} {b4 b8 : Nat}
set_option maxHeartbeats 2000000 in
set_option maxRecDepth 100000 in
/-- A row of a picture. -/
theorem pic_row_c (z : Sz m) {i b90 lb lcp : Nat} (hi : i < l.length) (o : Ob m l[i]) (hu : RowB S u (m.row l[i])) (hlv : lv = .slice (some ⟨lb, 0, none⟩) l.length lcp) (hll : l.length ≤ 600001)
    (hcont : Xt ⟨Try.prog, none, 176, [], w0⟩ .normal Q [(0, .pointer (some ⟨L.hb, 0, none⟩)), (1, v), (4, .pointer (some ⟨b4, 0, none⟩)), (6, lv), (8, .pointer (some ⟨b8, 0, none⟩)), (12, .int .i64 (i : Nat)), (14, .slice (some ⟨b90, 0, none⟩) (m.row l[i]).length (m.row l[i]).length)] (pt b90 (cl (ints (m.gr.prow l l[i]) ++ []) 3) :: vec lv 3 1 l.length (ints l) :: hR L m :: wR L m :: oR L m :: S :: hr)) :
    Cd ⟨Try.prog, none, 176, [], w0⟩ (cdr (cdl (cdr (cdr (cdl (cdl (cdr (cdl (cdl (cdr (cdl (cdr (cdr (cdr (cdr (cdr (cdr (cdr (fbody Try.f20))))))))))))))))))) Q [(0, .pointer (some ⟨L.hb, 0, none⟩)), (1, v), (4, .pointer (some ⟨b4, 0, none⟩)), (6, lv), (8, .pointer (some ⟨b8, 0, none⟩)), (12, .int .i64 (i : Nat)), (13, u), (14, .slice (some ⟨b90, 0, none⟩) (m.row l[i]).length (m.row l[i]).length), (15, .int .i64 0)] (pt b90 (cl (List.replicate (m.row l[i]).length (.int .i64 0)) 3) :: vec lv 3 1 l.length (ints l) :: hR L m :: wR L m :: oR L m :: S :: hr) := by
  have h1 := z.Y0; have h2 := z.Y1; have h3 := z.H0; have h4 := z.H1
  have hrn : rn m = (m.Y + 2 * m.H + 1).toNat := rfl
  have g1 := o.t0; have g2 := o.h2; have hlen := o.len z
  have hsz : m.size l[i] = 1 + (m.row l[i]).length := rfl
  obtain ⟨ua, ucp, hue, _⟩ := id hu
  have hrd : Rd (vec lv 3 1 l.length (ints l)) ⟨lb, i, none⟩ (.int .i64 l[i]) := rd_vec hlv (by simp [ints, hi])
  have hAl : (m.gr.prow l l[i]).length = (m.row l[i]).length := prow_len _ _ _
  have hla : 0 < l.length → ∃ b, (some ⟨lb, 0, none⟩ : Option Addr) = some ⟨b, 0, none⟩ := fun _ => ⟨lb, rfl⟩
  refine cd_block (cd_loop (σ := Nat) (fun k => [(0, .pointer (some ⟨L.hb, 0, none⟩)), (1, v), (4, .pointer (some ⟨b4, 0, none⟩)), (6, lv), (8, .pointer (some ⟨b8, 0, none⟩)), (12, .int .i64 (i : Nat)), (13, u), (14, .slice (some ⟨b90, 0, none⟩) (m.row l[i]).length (m.row l[i]).length), (15, .int .i64 (k : Nat))]) (fun k => pt b90 (cl (ints ((m.gr.prow l l[i]).take k ++ List.replicate ((m.row l[i]).length - k) 0)) 3) :: vec lv 3 1 l.length (ints l) :: hR L m :: wR L m :: oR L m :: S :: hr) (fun k => k ≤ (m.row l[i]).length) (fun k => (m.row l[i]).length - k) 0 (Nat.zero_le _) ⟨rfl, rfl, rfl, rfl, rfl, rfl, rfl, rfl, rfl, trivial⟩ (by rw [show ints ((m.gr.prow l l[i]).take 0 ++ List.replicate ((m.row l[i]).length - 0) 0) = List.replicate (m.row l[i]).length (.int .i64 0) by simp [ints]]; exact Sub.refl _) ?_)
  rintro k hk
  refine cd_seq (cd_seq (cd_region (st_v (v_move rfl) (st_v (v_move rfl) (st_v (v_len (congrArg some hue) Try.underlying73) (st_v (v_lss rfl rfl) (st_nil (nx_kp [0, 1, 4, 6, 8, 12, 13, 14, 15, 94] rfl (nx_then (cd_cond rfl (fun hc6 => ?_) (fun hc6 => ?_)))))))))))
  · skip
    have hkl : k < (m.row l[i]).length := by simpa using hc6
    obtain ⟨ub, uo, ucp', hue2, hrdu⟩ := hu.at hkl
    have hrdx : Rd (wR L m) ⟨L.wb, (l[i] + 1 + k).toNat, none⟩ (.int .i64 (m.word (l[i] + 1 + k))) := a_rd (by omega) (by omega)
    have hpg := prow_get (M := l) hkl
    have hrl2 : (ints ((m.gr.prow l l[i]).take k ++ List.replicate ((m.row l[i]).length - k) 0)).length = (m.row l[i]).length := by simp [ints]; omega
    refine cd_skip (xt_then (cd_seq (cd_block (cd_seq (cd_drawh (ork [(0, 2), (1, 2), (2, 2), (3, 2), (4, 2), (5, 1), (6, 2), (7, 2), (8, 2), (9, 1), (10, 2), (11, 2), (12, 2), (13, 2), (14, 1), (15, 2), (16, 0)] .nil) (fun i => !(Nat.beq i 16)) mixed (by kernel_rfl) ?_)))))
    refine dp_v rfl (v_move rfl) (dp_v rfl (v_move rfl) (dp_v rfl (v_move rfl) (dp_v rfl (v_nilCheck rfl) (dp_v rfl (v_fieldAddr rfl fa52_3 rfl) (dr_v rfl (v_ld rfl ld34) ?_)))))
    refine dp_v rfl (v_move rfl) (dp_v rfl (v_move rfl) (dp_v rfl (v_idx i (congrArg some hlv) rfl sl34 rfl hi) (dr_v rfl (v_ld rfl ld3) ?_)))
    refine dp_v rfl (v_add rfl rfl (by unfold I64 at *; omega)) (dp_v rfl (v_move rfl) (dp_v rfl (v_add rfl rfl (by unfold I64 at *; omega)) (dp_v rfl (v_idx (l[i] + 1 + k).toNat rfl rfl sl34 (by omega) (by omega)) (dr_v rfl (v_ld rfl ld3) ?_))))
    refine dp_v rfl (v_idx k rfl rfl sl34 rfl hkl) (dr_eff rfl (st_sto rfl rfl sz3 (dr_nx ?_)))
    refine dr_nil (nx_kp [0, 1, 4, 6, 8, 12, 13, 14, 15] rfl (nx_then (cd_seq (cd_pt (b := b90) (T := 3) (l' := ints ((m.gr.prow l l[i]).take k ++ m.word (l[i] + 1 + k) :: List.replicate ((m.row l[i]).length - (k + 1)) 0)) ?he ?_))))
    case he => exact (by rw [ints_set, row_step hAl hkl])
    refine cd_region (st_v (v_move rfl) (st_v (v_move rfl) (st_v (v_ixo k (congrArg some hue2) rfl sl73 rfl hkl) (st_v (v_ld rfl ld4) ?_))))
    refine st_nil (nx_kp [0, 1, 4, 6, 8, 12, 13, 14, 15, 116] rfl (nx_then (cd_cond rfl (fun hb => ?_) (fun hb => ?_))))
    · skip
      rw [hb, if_pos rfl] at hpg
      have hix := idx_lt (l := l) (t := m.seen (m.word (l[i] + 1 + k)))
      have hrdr : Rd (pt b90 (cl (ints ((m.gr.prow l l[i]).take k ++ m.word (l[i] + 1 + k) :: List.replicate ((m.row l[i]).length - (k + 1)) 0)) 3)) ⟨b90, k, none⟩ (.int .i64 (m.word (l[i] + 1 + k))) := rd_cl (by simp only [ints, List.getElem?_map, row_get hAl hkl, Option.map_some])
      have hrl3 : (ints ((m.gr.prow l l[i]).take k ++ m.word (l[i] + 1 + k) :: List.replicate ((m.row l[i]).length - (k + 1)) 0)).length = (m.row l[i]).length := by simp [ints]; omega
      refine cd_region (st_v (v_move rfl) (st_v (v_move rfl) (st_v (v_move rfl) (st_v (v_move rfl) (st_v (v_move rfl) (st_v (v_move rfl) (st_v (v_idx k rfl rfl sl34 rfl hkl) (st_v (v_ld rfl ld3) ?_))))))))
      refine st_clr rfl rfl en65 rfl (rwhere_ct z) ?_
      refine st_clr rfl rfl en66 rfl (rindex_ct (rowI_vec hlv hla rfl) (by omega)) ?_
      refine st_v (v_add rfl rfl (by unfold I64 at *; omega)) (st_v (v_idx k rfl rfl sl34 rfl hkl) (st_sto rfl rfl sz3 ?_))
      refine st_nil (nx_kp [0, 1, 4, 6, 8, 12, 13, 14, 15] rfl (nx_xt (xt_normal_block (xt_then (cd_region (st_v (v_move rfl) (st_v (v_add rfl rfl (by unfold I64 at *; omega)) (st_v (v_assign rfl) (st_nil (nx_kp [0, 1, 4, 6, 8, 12, 13, 14, 15] rfl (nx_xt (xt_pt (b := b90) (T := 3) (l' := ints ((m.gr.prow l l[i]).take (k + 1) ++ List.replicate ((m.row l[i]).length - (k + 1)) 0)) ?he ?_))))))))))))
      case he => exact (by rw [ints_set, row_step2 hAl hkl, row_next hAl hkl hpg])
      refine xt_ag (k + 1) hkl (by omega)
    · skip
      rw [hb, if_neg (by simp)] at hpg
      refine cd_pt (b := b90) (T := 3) (l' := ints ((m.gr.prow l l[i]).take (k + 1) ++ List.replicate ((m.row l[i]).length - (k + 1)) 0)) ?he ?_
      case he => exact (by rw [row_next hAl hkl hpg])
      refine cd_skip (xt_normal_block (xt_then (cd_region (st_v (v_move rfl) (st_v (v_add rfl rfl (by unfold I64 at *; omega)) (st_v (v_assign rfl) (st_nil (nx_kp [0, 1, 4, 6, 8, 12, 13, 14, 15] rfl (nx_xt ?_)))))))))
      refine xt_ag (k + 1) hkl (by omega)
  · skip
    have hkg : k = (m.row l[i]).length := by
      have : ¬ k < (m.row l[i]).length := by simpa using hc6
      omega
    have hAk : ints ((m.gr.prow l l[i]).take k ++ List.replicate ((m.row l[i]).length - k) 0) = ints (m.gr.prow l l[i]) ++ [] := by rw [hkg, Nat.sub_self, List.take_of_length_le (by omega)]; simp
    refine cd_pt (b := b90) (T := 3) hAk ?_
    refine cd_exit (xt_exit_then (xt_exit_then (xt_exit_block ?_)))
    exact xt_use hcont
set_option maxHeartbeats 4000000 in
set_option maxRecDepth 100000 in
/-- The objects of a picture. -/
theorem pic_objs_c (hS : Shp S L.vs m.sh) (h : AM.Good m ly ln lf φ A) (hmet : PM (AM.Obj ly ln lf) l) (hM : l = m.gr.met m.T roots) {la : Option Addr} {lcp : Nat} (hlv : lv = .slice la l.length lcp) (hla : 0 < l.length → ∃ b, la = some ⟨b, 0, none⟩)
    (hcont : ∀ us sv fv, us.length = l.length → (∀ (j : Nat) (u : Value) (x : List Int), us[j]? = some u → (m.pic roots).fields[j]? = some x → VForm u x.length (ints x)) → Xt ⟨Try.prog, none, 176, [], w0⟩ .normal Q [(0, .pointer (some ⟨L.hb, 0, none⟩)), (1, v), (4, .pointer (some ⟨b4, 0, none⟩)), (6, lv), (8, .pointer (some ⟨b8, 0, none⟩))] (pt b8 (cl [sv, fv, .slice none 0 0, .int .i64 0] 46) :: vec sv 3 1 l.length (ints (m.pic roots).shapes) :: vec fv 34 1 l.length us :: Res.star (rowsI us (m.pic roots).fields) :: vec lv 3 1 l.length (ints l) :: ([hR L m, wR L m, eR L m, oR L m, S] ++ hr))) :
    Cd ⟨Try.prog, none, 176, [], w0⟩ (cdr (cdl (cdr (cdr (cdr (cdr (cdr (cdr (cdr (fbody Try.f20)))))))))) Q [(0, .pointer (some ⟨L.hb, 0, none⟩)), (1, v), (4, .pointer (some ⟨b4, 0, none⟩)), (6, lv), (8, .pointer (some ⟨b8, 0, none⟩)), (12, .int .i64 0)] (pt b8 (cl [.slice none 0 0, .slice none 0 0, .slice none 0 0, .int .i64 0] 46) :: vec lv 3 1 l.length (ints l) :: ([hR L m, wR L m, eR L m, oR L m, S] ++ hr)) := by
  have z := h.g.sz
  have h1 := z.Y0; have h2 := z.Y1; have h3 := z.H0; have h4 := z.H1
  have hrn : rn m = (m.Y + 2 * m.H + 1).toNat := rfl
  have hT := h.g.T_le
  have hml := h.g.pm_len hmet
  obtain ⟨p1, p2, p3⟩ := pic_parts m roots
  rw [← hM] at p1 p2 p3
  simp only [List.cons_append, List.nil_append]
  refine cd_vecnil 3 1 ?_
  refine cd_vecnil 34 1 ?_
  refine cd_star0 (cd_block (cd_loop (σ := Nat × List Value × Value × Value) (fun q => [(0, .pointer (some ⟨L.hb, 0, none⟩)), (1, v), (4, .pointer (some ⟨b4, 0, none⟩)), (6, lv), (8, .pointer (some ⟨b8, 0, none⟩)), (12, .int .i64 (q.1 : Nat))]) (fun q => pt b8 (cl [q.2.2.1, q.2.2.2, .slice none 0 0, .int .i64 0] 46) :: vec q.2.2.1 3 1 q.1 (ints ((m.pic roots).shapes.take q.1)) :: vec q.2.2.2 34 1 q.1 q.2.1 :: Res.star (rowsI q.2.1 ((m.pic roots).fields.take q.1)) :: vec lv 3 1 l.length (ints l) :: ([hR L m, wR L m, eR L m, oR L m, S] ++ hr)) (fun q => q.1 ≤ l.length ∧ q.2.1.length = q.1 ∧ ∀ (j : Nat) (u : Value) (x : List Int), q.2.1[j]? = some u → (m.pic roots).fields[j]? = some x → VForm u x.length (ints x)) (fun q => l.length - q.1) (0, [], .slice none 0 0, .slice none 0 0) ⟨Nat.zero_le _, rfl, fun j u x hx _ => absurd hx (by show ¬ ([] : List Value)[j]? = some u; simp)⟩ ⟨rfl, rfl, rfl, rfl, rfl, rfl, trivial⟩ (by repeat (first | exact Sub.refl _ | exact Sub.nil _ | refine Sub.sel (by repeat (first | exact Sel.here | apply Sel.there)) ?_ | apply Sub.cons)) ?_))
  rintro ⟨i, us, sv, fv⟩ ⟨hi2, hul, hform⟩
  dsimp only at hi2 hul hform ⊢
  simp only [List.cons_append, List.nil_append]
  refine cd_seq (cd_seq (cd_region (st_v (v_move rfl) (st_v (v_move rfl) (st_v (v_len (congrArg some hlv) Try.underlying34) (st_v (v_lss rfl rfl) (st_nil (nx_kp [0, 1, 4, 6, 8, 12, 79] rfl (nx_then (cd_cond rfl (fun hc5 => ?_) (fun hc5 => ?_)))))))))))
  · skip
    have hlt : i < l.length := by simpa using hc5
    obtain ⟨lb, rfl⟩ := hla (by omega)
    have ob := ob_obj h.g (hmet.s _ (List.getElem_mem hlt))
    have g1 := ob.t0; have g2 := ob.h2; have hlen := ob.len z
    have g3 := ob.h0; have g4 := ob.h1; have g5 := z.n; have g6 := ob.t1
    have hsz : m.size l[i] = 1 + (m.row l[i]).length := rfl
    obtain ⟨u, hu, hct⟩ := rshape_ct hS z ob
    obtain ⟨ua, ucp, hue, _⟩ := id hu
    have hrd : Rd (vec lv 3 1 l.length (ints l)) ⟨lb, i, none⟩ (.int .i64 l[i]) := rd_vec hlv (by simp [ints, hlt])
    have hrdh : Rd (eR L m) ⟨L.eb, l[i].toNat, none⟩ (.int .i64 (m.head l[i])) := a_rd g1 g6
    have hAl : (m.gr.prow l l[i]).length = (m.row l[i]).length := prow_len _ _ _
    have hs1 : (m.pic roots).shapes.take (i + 1) = (m.pic roots).shapes.take i ++ [m.head l[i] - 1] := by rw [p1]; exact take_map_succ hlt
    have hf1 : (m.pic roots).fields.take (i + 1) = (m.pic roots).fields.take i ++ [m.gr.prow l l[i]] := by rw [p2]; exact take_map_succ hlt
    have hfl : (m.pic roots).fields.length = l.length := by rw [p2, List.length_map]
    have hfi : (m.pic roots).fields[i]? = some (m.gr.prow l l[i]) := by rw [p2, List.getElem?_map, List.getElem?_eq_getElem hlt]; rfl
    refine cd_skip (xt_then (cd_seq (cd_block (cd_seq (cd_region (st_v (v_move rfl) (st_v (v_move rfl) (st_v (v_move rfl) (st_v (v_idx i (congrArg some hlv) rfl sl34 rfl hlt) (st_v (v_ld rfl ld3) ?_))))))))))
    refine st_clr rfl rfl en64 rfl (hct) ?_
    refine st_v (v_assign rfl) (st_nil (nx_kp [0, 1, 4, 6, 8, 12, 13] rfl (nx_then (cd_seq (cd_region (st_v (v_move rfl) (st_v (v_len (congrArg some hue) Try.underlying73) (st_make (n := (m.row l[i]).length) rfl rfl rfl Try.underlying34 inf3 rfl (by omega) (by omega) (ltn rfl) fun b90 => ?_))))))))
    refine st_v (v_assign rfl) (st_nil (nx_kp [0, 1, 4, 6, 8, 12, 13, 14] rfl (nx_then (cd_seq (cd_seq (cd_region (st_v (v_assign rfl) (st_nil (nx_then (cd_use (pic_row_c (L := L) (m := m) (S := S) (v := v) (b4 := b4) (b8 := b8) (b90 := b90) (w0 := w0) (hr := pt b8 (cl [sv, fv, .slice none 0 0, .int .i64 0] 46) :: vec sv 3 1 i (ints ((m.pic roots).shapes.take i)) :: vec fv 34 1 i us :: Res.star (rowsI us ((m.pic roots).fields.take i)) :: eR L m :: hr) z hlt ob hu hlv (by omega) ?_)))))))))))
    refine xt_shut (v := .slice (some ⟨b90, 0, none⟩) (m.row l[i]).length (m.row l[i]).length) (sz := 1) (n := (m.row l[i]).length) (l := ints (m.gr.prow l l[i])) (l' := ints (m.gr.prow l l[i])) (E := 3) ⟨rfl, by rw [ints_length, hAl]; simp, Nat.le_refl _, by unfold maxLen; omega, by rw [List.append_nil, ints_length, hAl]; simp⟩ rfl (by repeat (first | exact Sel.here | apply Sel.there)) ?_
    refine xt_then (cd_seq (cd_drawh (ork [(0, 2), (1, 2), (2, 1), (3, 2), (4, 2), (5, 2), (6, 1), (7, 2), (8, 2), (9, 2), (10, 1), (11, 2), (12, 1), (13, 2), (14, 0), (15, 0), (16, 2), (17, 2), (18, 0)] .nil) (fun i => !(Nat.beq i 15 || Nat.beq i 18)) mixed (by kernel_rfl) ?_))
    refine dp_v rfl (v_fieldAddr rfl fa46_0 rfl) (dp_v rfl (v_fieldAddr rfl fa42_0 rfl) (dr_v rfl (v_ld rfl ld34) ?_))
    refine dp_v rfl (v_move rfl) (dp_v rfl (v_nilCheck rfl) (dp_v rfl (v_fieldAddr rfl fa52_4 rfl) (dr_v rfl (v_ld rfl ld34) ?_)))
    refine dp_v rfl (v_move rfl) (dp_v rfl (v_move rfl) (dp_v rfl (v_idx i (congrArg some hlv) rfl sl34 rfl hlt) (dr_v rfl (v_ld rfl ld3) ?_)))
    refine dp_v rfl (v_idx l[i].toNat rfl rfl sl34 (by omega) (by omega)) (dr_v rfl (v_ld rfl ld3) ?_)
    refine dp_v rfl (v_sub rfl rfl (by unfold I64 at *; omega)) (dr_eff rfl (st_buildSlice (cells := [.int .i64 (m.head l[i] - 1)]) rfl Try.underlying34 inf3 rfl rfl (by kernel_rfl) (ltn rfl) fun b143 => dr_nx ?_))
    refine dr_eff rfl (st_append (news := [.int .i64 (m.head l[i] - 1)]) rfl rfl Try.underlying34 inf3 rfl (ltn rfl) (by repeat (first | exact Sel.here | apply Sel.there)) rfl (fun j u hu => by repeat (first | exact at_here (rd_cl (by simpa using hu)) | apply at_there)) (ones rfl) (by omega) (by omega) (ltn rfl) fun sv' hsv' hv1 => dr_nx ?_)
    refine dp_v rfl (v_fieldAddr rfl fa46_0 rfl) (dp_v rfl (v_fieldAddr rfl fa42_0 rfl) (dr_eff rfl (st_sto rfl rfl sz34 (dr_nx ?_))))
    refine dr_nil (nx_kp [0, 1, 4, 6, 8, 12, 14] rfl (nx_then (cd_region (st_v (v_fieldAddr rfl fa46_0 rfl) (st_v (v_fieldAddr rfl fa42_1 rfl) (st_v (v_ld rfl ld40) ?_))))))
    refine st_v (v_move rfl) (st_buildSlice (cells := [.slice (some ⟨b90, 0, none⟩) (m.row l[i]).length (m.row l[i]).length]) rfl Try.underlying40 inf34 rfl rfl (fill_one rfl _ (by simp)) (ltn rfl) fun b151 => ?_)
    refine st_append (news := [.slice (some ⟨b90, 0, none⟩) (m.row l[i]).length (m.row l[i]).length]) rfl rfl Try.underlying40 inf34 rfl (ltn rfl) (by repeat (first | exact Sel.here | apply Sel.there)) rfl (fun j u hu => by repeat (first | exact at_here (rd_cl (by simpa using hu)) | apply at_there)) (fun x hx => by simp at hx; subst hx; rfl) (by omega) (by omega) (ltn rfl) fun fv' hfv' hv2 => ?_
    refine st_v (v_fieldAddr rfl fa46_0 rfl) (st_v (v_fieldAddr rfl fa42_1 rfl) (st_sto rfl rfl sz40 ?_))
    refine st_nil (nx_kp [0, 1, 4, 6, 8, 12] rfl (nx_xt (xt_normal_block (xt_then (cd_region (st_v (v_move rfl) (st_v (v_add rfl rfl (by unfold I64 at *; omega)) (st_v (v_assign rfl) (st_nil (nx_kp [0, 1, 4, 6, 8, 12] rfl (nx_xt (xt_restar (k' := rowsI (us ++ [.slice (some ⟨b90, 0, none⟩) (m.row l[i]).length (m.row l[i]).length]) ((m.pic roots).fields.take (i + 1))) (r := vec (.slice (some ⟨b90, 0, none⟩) (m.row l[i]).length (m.row l[i]).length) 3 1 (m.row l[i]).length (ints (m.gr.prow l l[i]))) (k := rowsI us ((m.pic roots).fields.take i)) (by repeat (first | exact Sel.here | apply Sel.there)) (by repeat (first | exact Sel.here | apply Sel.there)) (by rw [hf1, rowsI_snoc (by rw [List.length_take]; omega), hAl]; exact (List.perm_append_singleton _ _).symm) ?_))))))))))))
    rw [show ints ((m.pic roots).shapes.take i) ++ [.int .i64 (m.head l[i] - 1)] = ints ((m.pic roots).shapes.take (i + 1)) by rw [hs1]; simp [ints]]
    refine xt_ag (i + 1, us ++ [.slice (some ⟨b90, 0, none⟩) (m.row l[i]).length (m.row l[i]).length], sv', fv') ⟨hlt, by simp [hul], snoc_all (P := fun (u : Value) (x : List Int) => VForm u x.length (ints x)) hul hform hfi (.inr ⟨b90, _, by rw [hAl]⟩)⟩ (by show _ - _ < _ - _; omega)
  · skip
    have hge : i = l.length := by have : l.length ≤ i := by simpa using hc5
                                  omega
    have e1 : (m.pic roots).shapes.take i = (m.pic roots).shapes := List.take_of_length_le (by rw [p1, List.length_map]; omega)
    have e2 : (m.pic roots).fields.take i = (m.pic roots).fields := List.take_of_length_le (by rw [p2, List.length_map]; omega)
    rw [e1, e2, hge]
    refine cd_exit (xt_exit_then (xt_exit_then (xt_exit_block ?_)))
    exact xt_use (hcont us sv fv (by omega) hform)
end
end Go.Proofs.Ytmhmpjgkkpbnnaa
namespace Go.Proofs.Ytmhmpjgkkpbnnaa
open Go.Ck Fx Go.Hm Go.Hm.AM
attribute [local irreducible] St Cd Xt Nx DrL LsW
section
variable {L : RL} {m : AM} {S R : Res} {t k a : Int} {ly ln lf N rl rs : List Int} {sp : Int} {v : Value} {roots : List Int} {φ : Int → Option Nat} {A : Store}
variable {Q : Exit → Act → World → Prop} {w0 : World} {hr : SH} {l : List Int} {lv u : Value} {b4 b8 : Nat}
set_option maxHeartbeats 4000000 in
set_option maxRecDepth 100000 in
/-- What is met, looked through. -/
theorem pic_meets_c (hS : Shp S L.vs m.sh) (h : AM.Good m ly ln lf φ A) (hmet : PM (AM.Obj ly ln lf) (roots.foldl pmeet []))
    (hcont : ∀ lv la lcp, lv = .slice la (m.gr.met m.T roots).length lcp → (0 < (m.gr.met m.T roots).length → ∃ b, la = some ⟨b, 0, none⟩) → PM (AM.Obj ly ln lf) (m.gr.met m.T roots) →
      Xt ⟨Try.prog, none, 176, [], w0⟩ .normal Q [(0, .pointer (some ⟨L.hb, 0, none⟩)), (1, v), (4, .pointer (some ⟨b4, 0, none⟩)), (6, lv), (8, .pointer (some ⟨b8, 0, none⟩))] (vec lv 3 1 (m.gr.met m.T roots).length (ints (m.gr.met m.T roots)) :: ([hR L m, wR L m, eR L m, oR L m, S] ++ hr))) :
    Cd ⟨Try.prog, none, 176, [], w0⟩ (cdr (cdl (cdr (cdr (cdr (cdr (cdr (cdr (fbody Try.f20))))))))) Q [(0, .pointer (some ⟨L.hb, 0, none⟩)), (1, v), (4, .pointer (some ⟨b4, 0, none⟩)), (6, lv), (8, .pointer (some ⟨b8, 0, none⟩)), (9, .int .i64 0)] (vec lv 3 1 (roots.foldl pmeet []).length (ints (roots.foldl pmeet [])) :: ([hR L m, wR L m, eR L m, oR L m, S] ++ hr)) := by
  have z := h.g.sz
  have h1 := z.Y0; have h2 := z.Y1; have h3 := z.H0; have h4 := z.H1
  have hrn : rn m = (m.Y + 2 * m.H + 1).toNat := rfl
  have hT := h.g.T_le
  have hM0 : m.gr.met m.T roots = m.gr.close m.T 0 (roots.foldl pmeet []) := rfl
  obtain ⟨M, hM⟩ : ∃ M, M = m.gr.met m.T roots := ⟨_, rfl⟩
  rw [← hM] at hM0 hcont
  refine cd_block (cd_loop (σ := Nat × List Int × Value) (fun q => [(0, .pointer (some ⟨L.hb, 0, none⟩)), (1, v), (4, .pointer (some ⟨b4, 0, none⟩)), (6, q.2.2), (8, .pointer (some ⟨b8, 0, none⟩)), (9, .int .i64 (q.1 : Nat))]) (fun q => vec q.2.2 3 1 q.2.1.length (ints q.2.1) :: ([hR L m, wR L m, eR L m, oR L m, S] ++ hr)) (fun q => q.1 ≤ q.2.1.length ∧ PM (AM.Obj ly ln lf) q.2.1 ∧ m.gr.close (m.T - q.1) q.1 q.2.1 = M) (fun q => m.T - q.1) (0, roots.foldl pmeet [], lv) ⟨Nat.zero_le _, hmet, hM0.symm⟩ ⟨rfl, rfl, rfl, rfl, rfl, rfl, trivial⟩ (Sub.refl _) ?_)
  rintro ⟨i, l, lv⟩ ⟨hi, hmet, hcl⟩
  dsimp only at hi hmet hcl ⊢
  have hml := h.g.pm_len hmet
  refine cd_vecshape (v := lv) (E := 3) (sz := 1) (n := l.length) (l := ints l) (by repeat (first | exact Sel.here | apply Sel.there)) fun la lcp hlv hla => ?_
  simp only [List.cons_append, List.nil_append]
  refine cd_seq (cd_seq (cd_region (st_v (v_move rfl) (st_v (v_move rfl) (st_v (v_len (congrArg some hlv) Try.underlying34) (st_v (v_lss rfl rfl) (st_nil (nx_kp [0, 1, 4, 6, 8, 9, 40] rfl (nx_then (cd_cond rfl (fun hc3 => ?_) (fun hc3 => ?_)))))))))))
  · skip
    have hlt : i < l.length := by simpa using hc3
    obtain ⟨lb, rfl⟩ := hla (by omega)
    have hob : AM.Obj ly ln lf l[i] := hmet.s _ (List.getElem_mem hlt)
    have ob := ob_obj h.g hob
    have g1 := ob.t0; have g2 := ob.h2; have hlen := ob.len z
    have hsz : m.size l[i] = 1 + (m.row l[i]).length := rfl
    obtain ⟨u, hu, hct⟩ := rshape_ct hS z ob
    obtain ⟨ua, ucp, hue, _⟩ := id hu
    have hrd : Rd (vec lv 3 1 l.length (ints l)) ⟨lb, i, none⟩ (.int .i64 l[i]) := rd_vec hlv (by simp [ints, hlt])
    refine cd_skip (xt_then (cd_seq (cd_block (cd_seq (cd_region (st_v (v_move rfl) (st_v (v_move rfl) (st_v (v_move rfl) (st_v (v_idx i (congrArg some hlv) rfl sl34 rfl hlt) (st_v (v_ld rfl ld3) ?_))))))))))
    refine st_clr rfl rfl en64 rfl (hct) ?_
    refine st_v (v_assign rfl) (st_nil (nx_kp [0, 1, 4, 6, 8, 9, 10] rfl (nx_then (cd_seq (cd_region (st_v (v_assign rfl) (st_nil (nx_then (cd_block (cd_loop (σ := Nat × Value) (fun q => [(0, .pointer (some ⟨L.hb, 0, none⟩)), (1, v), (4, .pointer (some ⟨b4, 0, none⟩)), (6, q.2), (8, .pointer (some ⟨b8, 0, none⟩)), (9, .int .i64 (i : Nat)), (10, u), (11, .int .i64 (q.1 : Nat))]) (fun q => vec q.2 3 1 ((m.gr.succTo l[i] q.1).foldl pmeet l).length (ints ((m.gr.succTo l[i] q.1).foldl pmeet l)) :: ([hR L m, wR L m, eR L m, oR L m, S] ++ hr)) (fun q => q.1 ≤ (m.row l[i]).length ∧ PM (AM.Obj ly ln lf) ((m.gr.succTo l[i] q.1).foldl pmeet l)) (fun q => (m.row l[i]).length - q.1) (0, lv) ⟨Nat.zero_le _, hmet⟩ ⟨rfl, rfl, rfl, rfl, rfl, rfl, rfl, rfl, trivial⟩ (Sub.refl _) ?_))))))))))
    rintro ⟨k, lw⟩ ⟨hk, hmk⟩
    dsimp only at hk hmk ⊢
    have hmkl := h.g.pm_len hmk
    refine cd_vecshape (v := lw) (E := 3) (sz := 1) (n := ((m.gr.succTo l[i] k).foldl pmeet l).length) (l := ints ((m.gr.succTo l[i] k).foldl pmeet l)) (by repeat (first | exact Sel.here | apply Sel.there)) fun wa wcp hlw hwa => ?_
    obtain ⟨ex, hex⟩ := pmeets_pre (m.gr.succTo l[i] k) l
    have hxl : i < ((m.gr.succTo l[i] k).foldl pmeet l).length := by rw [hex, List.length_append]; omega
    obtain ⟨wb, rfl⟩ := hwa (by omega)
    have hxi : ((m.gr.succTo l[i] k).foldl pmeet l)[i]? = some l[i] := by rw [hex, List.getElem?_append_left hlt, List.getElem?_eq_getElem hlt]
    have hrdw : Rd (vec lw 3 1 ((m.gr.succTo l[i] k).foldl pmeet l).length (ints ((m.gr.succTo l[i] k).foldl pmeet l))) ⟨wb, i, none⟩ (.int .i64 l[i]) := rd_vec hlw (by simp only [ints, List.getElem?_map, hxi, Option.map_some])
    simp only [List.cons_append, List.nil_append]
    refine cd_seq (cd_seq (cd_region (st_v (v_move rfl) (st_v (v_move rfl) (st_v (v_len (congrArg some hue) Try.underlying73) (st_v (v_lss rfl rfl) (st_nil (nx_kp [0, 1, 4, 6, 8, 9, 10, 11, 52] rfl (nx_then (cd_cond rfl (fun hc4 => ?_) (fun hc4 => ?_)))))))))))
    · skip
      have hkl : k < (m.row l[i]).length := by simpa using hc4
      obtain ⟨ub, uo, ucp', hue2, hrdu⟩ := hu.at hkl
      have hps := Gr.succTo_succ (g := m.gr) (t := l[i]) (k := k) (by rw [gr_len]; exact hkl)
      rw [gr_flag hkl] at hps
      refine cd_skip (xt_then (cd_seq (cd_block (cd_seq (cd_region (st_v (v_move rfl) (st_v (v_move rfl) (st_v (v_ixo k (congrArg some hue2) rfl sl73 rfl hkl) (st_v (v_ld rfl ld4) ?_)))))))))
      refine st_nil (nx_kp [0, 1, 4, 6, 8, 9, 10, 11, 58] rfl (nx_then (cd_cond rfl (fun hb => ?_) (fun hb => ?_))))
      · skip
        rw [hb] at hps
        simp only [if_true] at hps
        have hrdx : Rd (wR L m) ⟨L.wb, (l[i] + 1 + k).toNat, none⟩ (.int .i64 (m.word (l[i] + 1 + k))) := a_rd (by omega) (by omega)
        have hpm : l[i] + 1 + (k : Int) ∈ m.pl l[i] := mem_pl.2 ⟨k, by rw [List.getElem?_eq_getElem hkl, hb], rfl⟩
        have htk : (m.gr.succTo l[i] (k + 1)).foldl pmeet l = pmeet ((m.gr.succTo l[i] k).foldl pmeet l) (m.seen (m.word (l[i] + 1 + k))) := by
          rw [hps, pmeets_snoc]
        refine cd_drawh (ork [(0, 2), (1, 2), (2, 2), (3, 2), (4, 2), (5, 1), (6, 2), (7, 2), (8, 2), (9, 1), (10, 2), (11, 2), (12, 2), (13, 2), (14, 1), (15, 1), (16, 0), (17, 2)] .nil) (fun i => !(Nat.beq i 16)) mixed (by kernel_rfl) ?_
        refine dp_v rfl (v_move rfl) (dp_v rfl (v_move rfl) (dp_v rfl (v_move rfl) (dp_v rfl (v_nilCheck rfl) (dp_v rfl (v_fieldAddr rfl fa52_3 rfl) (dr_v rfl (v_ld rfl ld34) ?_)))))
        refine dp_v rfl (v_move rfl) (dp_v rfl (v_move rfl) (dp_v rfl (v_idx i (congrArg some hlw) rfl sl34 rfl hxl) (dr_v rfl (v_ld rfl ld3) ?_)))
        refine dp_v rfl (v_add rfl rfl (by unfold I64 at *; omega)) (dp_v rfl (v_move rfl) (dp_v rfl (v_add rfl rfl (by unfold I64 at *; omega)) (dp_v rfl (v_idx (l[i] + 1 + k).toNat rfl rfl sl34 (by omega) (by omega)) (dr_v rfl (v_ld rfl ld3) ?_))))
        refine dr_clr rfl rfl rfl en65 rfl (rwhere_ct z) ?_
        refine dr_eff rfl (st_cl rfl rfl en63 rfl (rmeet_ct (l := (m.gr.succTo l[i] k).foldl pmeet l) (lv := lw) (t := m.seen (m.word (l[i] + 1 + k))) (by omega)) ?_)
        rintro lv' h' rfl
        simp only [List.cons_append, List.nil_append]
        rw [← htk]
        refine dr_nx ?_
        refine dp_v rfl (v_assign rfl) (dr_nil (nx_kp [0, 1, 4, 6, 8, 9, 10, 11] rfl (nx_xt (xt_normal_block (xt_then (cd_region (st_v (v_move rfl) (st_v (v_add rfl rfl (by unfold I64 at *; omega)) (st_v (v_assign rfl) (st_nil (nx_kp [0, 1, 4, 6, 8, 9, 10, 11] rfl (nx_xt ?_))))))))))))
        refine xt_ag (k + 1, lv') ⟨hkl, by rw [htk]; exact hmk.meet (h.g.seen_obj (h.g.word_obj hob hpm))⟩ (by show _ - _ < _ - _; omega)
      · skip
        rw [hb] at hps
        simp only [Bool.false_eq_true, if_false, List.append_nil] at hps
        rw [← hps]
        refine cd_skip (xt_normal_block (xt_then (cd_region (st_v (v_move rfl) (st_v (v_add rfl rfl (by unfold I64 at *; omega)) (st_v (v_assign rfl) (st_nil (nx_kp [0, 1, 4, 6, 8, 9, 10, 11] rfl (nx_xt ?_)))))))))
        refine xt_ag (k + 1, lw) ⟨hkl, by rw [hps]; exact hmk⟩ (by show _ - _ < _ - _; omega)
    · skip
      have hkg : k = (m.row l[i]).length := by
        have : ¬ k < (m.row l[i]).length := by simpa using hc4
        omega
      have hpa : m.gr.succTo l[i] k = m.gr.succ l[i] := by rw [hkg, ← gr_len]; exact Gr.succTo_all _ _
      rw [hpa] at hmk hex hxl hlw ⊢
      have hf : m.T - i = (m.T - (i + 1)) + 1 := by omega
      have hcl2 : m.gr.close (m.T - (i + 1)) (i + 1) ((m.gr.succ l[i]).foldl pmeet l) = M := by
        rw [← hcl, hf]; conv => rhs; unfold Gr.close
        rw [dif_pos hlt]
      refine cd_exit (xt_exit_then (xt_exit_then (xt_exit_block (xt_normal_block (xt_then (cd_region (st_v (v_move rfl) (st_v (v_add rfl rfl (by unfold I64 at *; omega)) (st_v (v_assign rfl) (st_nil (nx_kp [0, 1, 4, 6, 8, 9] rfl (nx_xt ?_))))))))))))
      refine xt_ag (i + 1, (m.gr.succ l[i]).foldl pmeet l, lw) ⟨hxl, hmk, hcl2⟩ (by show _ - _ < _ - _; omega)
  · skip
    have hge2 : ¬ i < l.length := by simpa using hc3
    have hlM : l = M := by rw [← hcl]; exact (Gr.close_end _ (by omega)).symm
    clear hcl hM0 hM
    subst hlM
    refine cd_exit (xt_exit_then (xt_exit_then (xt_exit_block ?_)))
    exact xt_use (hcont lv la lcp hlv hla hmet)
set_option maxHeartbeats 2000000 in
set_option maxRecDepth 100000 in
/-- The roots of a picture. -/
theorem pic_rts_c (hv : RowI R v roots) (hrl : roots.length ≤ 1000000) {la : Option Addr} {lcp : Nat} (hlv : lv = .slice la l.length lcp) (hla : 0 < l.length → ∃ b, la = some ⟨b, 0, none⟩) (hll : l.length ≤ 600001) {sv fv : Value}
    (hcont : ∀ rv, Xt ⟨Try.prog, none, 176, [], w0⟩ .normal Q [(4, .pointer (some ⟨b4, 0, none⟩)), (8, .pointer (some ⟨b8, 0, none⟩))] (pt b8 (cl [sv, fv, rv, .int .i64 0] 46) :: vec rv 3 1 roots.length (ints (roots.map fun r => 1 + idx l r)) :: vec lv 3 1 l.length (ints l) :: R :: hr)) :
    Cd ⟨Try.prog, none, 176, [], w0⟩ (cdr (cdl (cdr (cdr (cdr (cdr (cdr (cdr (cdr (cdr (fbody Try.f20))))))))))) Q [(1, v), (4, .pointer (some ⟨b4, 0, none⟩)), (6, lv), (8, .pointer (some ⟨b8, 0, none⟩)), (16, .int .i64 0)] (pt b8 (cl [sv, fv, .slice none 0 0, .int .i64 0] 46) :: vec lv 3 1 l.length (ints l) :: R :: hr) := by
  obtain ⟨ra, rcp, hv1, _⟩ := id hv
  refine cd_vecnil 3 1 ?_
  refine cd_block (cd_loop (σ := Nat × Value) (fun q => [(1, v), (4, .pointer (some ⟨b4, 0, none⟩)), (6, lv), (8, .pointer (some ⟨b8, 0, none⟩)), (16, .int .i64 (q.1 : Nat))]) (fun q => pt b8 (cl [sv, fv, q.2, .int .i64 0] 46) :: vec q.2 3 1 q.1 (ints ((roots.map fun r => 1 + idx l r).take q.1)) :: vec lv 3 1 l.length (ints l) :: R :: hr) (fun q => q.1 ≤ roots.length) (fun q => roots.length - q.1) (0, .slice none 0 0) (Nat.zero_le _) ⟨rfl, rfl, rfl, rfl, rfl, trivial⟩ (by repeat (first | exact Sub.refl _ | exact Sub.nil _ | refine Sub.sel (by repeat (first | exact Sel.here | apply Sel.there)) ?_ | apply Sub.cons)) ?_)
  rintro ⟨i, rv⟩ hi
  dsimp only at hi ⊢
  refine cd_seq (cd_seq (cd_region (st_v (v_move rfl) (st_v (v_move rfl) (st_v (v_len (congrArg some hv1) Try.underlying34) (st_v (v_lss rfl rfl) (st_nil (nx_kp [1, 4, 6, 8, 16, 158] rfl (nx_then (cd_cond rfl (fun hc => ?_) (fun hc => ?_)))))))))))
  · skip
    have hlt : i < roots.length := by simpa using hc
    obtain ⟨b, o, cp', hv2, hrd⟩ := hv.at hlt
    have hix := idx_lt (l := l) (t := roots[i])
    have ht : (roots.map fun r => 1 + idx l r).take (i + 1) = (roots.map fun r => 1 + idx l r).take i ++ [1 + idx l roots[i]] := take_map_succ hlt
    refine cd_skip (xt_then (cd_seq (cd_block (cd_drawh (ork [(0, 2), (1, 2), (2, 1), (3, 2), (4, 2), (5, 2), (6, 2), (7, 1), (8, 1), (9, 2), (10, 0), (11, 0), (12, 2), (13, 2), (14, 0)] .nil) (fun i => !(Nat.beq i 11 || Nat.beq i 14)) mixed (by kernel_rfl) ?_))))
    refine dp_v rfl (v_fieldAddr rfl fa46_0 rfl) (dp_v rfl (v_fieldAddr rfl fa42_2 rfl) (dr_v rfl (v_ld rfl ld34) ?_))
    refine dp_v rfl (v_move rfl) (dp_v rfl (v_move rfl) (dp_v rfl (v_move rfl) (dp_v rfl (v_ixo i (congrArg some hv2) rfl sl34 rfl hlt) (dr_v rfl (v_ld rfl ld3) ?_))))
    refine dr_clr rfl rfl rfl en66 rfl (rindex_ct (rowI_vec hlv hla rfl) (by omega)) ?_
    refine dp_v rfl (v_add rfl rfl (by unfold I64 at *; omega)) (dr_eff rfl (st_buildSlice (cells := [.int .i64 (1 + idx l roots[i])]) rfl Try.underlying34 inf3 rfl rfl (by kernel_rfl) (ltn rfl) fun b171 => dr_nx ?_))
    refine dr_eff rfl (st_append (news := [.int .i64 (1 + idx l roots[i])]) rfl rfl Try.underlying34 inf3 rfl (ltn rfl) (by repeat (first | exact Sel.here | apply Sel.there)) rfl (fun j u hu => by repeat (first | exact at_here (rd_cl (by simpa using hu)) | apply at_there)) (ones rfl) (by omega) (by omega) (ltn rfl) fun rv' hrv' hv1' => dr_nx ?_)
    refine dp_v rfl (v_fieldAddr rfl fa46_0 rfl) (dp_v rfl (v_fieldAddr rfl fa42_2 rfl) (dr_eff rfl (st_sto rfl rfl sz34 (dr_nx ?_))))
    refine dr_nil (nx_kp [1, 4, 6, 8, 16] rfl (nx_xt (xt_normal_block (xt_then (cd_region (st_v (v_move rfl) (st_v (v_add rfl rfl (by unfold I64 at *; omega)) (st_v (v_assign rfl) (st_nil (nx_kp [1, 4, 6, 8, 16] rfl (nx_xt ?_)))))))))))
    rw [show ints ((roots.map fun r => 1 + idx l r).take i) ++ [.int .i64 (1 + idx l roots[i])] = ints ((roots.map fun r => 1 + idx l r).take (i + 1)) by rw [ht]; simp [ints]]
    refine xt_ag (i + 1, rv') hlt (by show _ - _ < _ - _; omega)
  · skip
    have hge : i = roots.length := by have : roots.length ≤ i := by simpa using hc
                                      omega
    rw [hge, List.take_of_length_le (by simp)]
    refine cd_exit (xt_exit_then (xt_exit_then (xt_exit_block ?_)))
    exact xt_use (hcont rv)
theorem VForm.one {v : Value} {n : Nat} {l : List Value} (h : VForm v n l) : v.oneCell' = true := by
  rcases h with ⟨h, _⟩ | ⟨b, cp, h⟩ <;> rw [h] <;> rfl
set_option maxHeartbeats 2000000 in
set_option maxRecDepth 100000 in
theorem rpicture_ct (hS : Shp S L.vs m.sh) (h : AM.Good m ly ln lf φ A) (hv : RowI S v roots) (hrl : roots.length ≤ 1000000) :
    Ct Try.prog 20 #[.pointer (some ⟨L.hb, 0, none⟩), v] [hR L m, wR L m, eR L m, oR L m, S] fun u h' => ∃ sv fv rv us, u = .agg #[sv, fv, rv, .int .i64 (m.pictured roots).2] ∧ PF sv fv rv us (m.pictured roots).1 ∧ h' = [pR sv fv rv us (m.pictured roots).1, hR L m, wR L m, eR L m, oR L m, S] := by
  have z := h.g.sz
  have hT := h.g.T_le
  obtain ⟨ra, rcp, hv1, _⟩ := id hv
  unfold AM.pictured
  refine ct_of (n := 176) Try.func20 rfl rfl (len rfl) fun hr w0 => ?_
  simp only [List.cons_append, List.nil_append]
  refine cd_seq (cd_region (st_alc al46 fun b4 => ?_))
  refine st_nil (nx_then (cd_seq (cd_region (st_v (v_move rfl) (st_v (v_move rfl) (st_clr rfl rfl en62 rfl (rrooted_ct h.g hv hrl) ?_))))))
  refine st_v (v_assign rfl) (st_nil (nx_kp [0, 1, 4, 5] rfl (nx_then (cd_seq (cd_seq (cd_region (st_v (v_move rfl) (st_v (v_neq rfl rfl) (st_nil (nx_kp [0, 1, 4, 5, 21] rfl (nx_then (cd_cond rfl (fun hc => ?_) (fun hc => ?_)))))))))))))
  · skip
    rw [if_pos (show m.rooted roots ≠ 0 by simpa using hc)]
    refine cd_vecnil 3 1 ?_
    refine cd_vecnil 3 1 ?_
    refine cd_vecnil 34 1 ?_
    refine cd_star0 (cd_pack [vec (.slice none 0 0) 3 1 0 [], vec (.slice none 0 0) 3 1 0 [], vec (.slice none 0 0) 34 1 0 [], Res.star (rowsI [] [])] ?_)
    refine cd_seq (cd_region (st_v (v_move rfl) (st_v (v_build (cells := [.slice none 0 0, .slice none 0 0, .slice none 0 0, .int .i64 (m.rooted roots)]) rfl (fun _ => by kernel_rfl)) ?_)))
    refine st_stoW rfl rfl sz46 rfl rfl ?_
    refine st_nil (nx_kp [0, 1, 4] rfl (nx_then (cd_ret (xt_ret_then ?_))))
    exact xt_retV (.cellN rfl ld46 rfl (by repeat (first | exact Sel.here | apply Sel.there)) .nil) ⟨.slice none 0 0, .slice none 0 0, .slice none 0 0, [], rfl, ⟨.inl ⟨rfl, rfl, rfl⟩, .inl ⟨rfl, rfl, rfl⟩, .inl ⟨rfl, rfl, rfl⟩, rfl, fun j u l hu => by simp at hu⟩, rfl⟩ (by repeat (first | exact Sub.refl _ | exact Sub.nil _ | refine Sub.sel (by repeat (first | exact Sel.here | apply Sel.there)) ?_ | apply Sub.cons))
  · skip
    have hro : m.rooted roots = 0 := by simpa using hc
    rw [if_neg (show ¬ m.rooted roots ≠ 0 by rw [hro]; simp)]
    have hobj := h.root_obj hro
    refine cd_skip (xt_then (cd_seq (cd_region (st_v (v_assign rfl) (st_nil (nx_kp [0, 1, 4, 6] rfl (nx_then (cd_seq (cd_seq (cd_region (st_v (v_assign rfl) (st_nil (nx_then (cd_block (cd_vecnil 3 1 ?_)))))))))))))))
    refine cd_loop (σ := Nat × Value) (fun q => [(0, .pointer (some ⟨L.hb, 0, none⟩)), (1, v), (4, .pointer (some ⟨b4, 0, none⟩)), (6, q.2), (7, .int .i64 (q.1 : Nat))]) (fun q => vec q.2 3 1 ((roots.take q.1).foldl pmeet []).length (ints ((roots.take q.1).foldl pmeet [])) :: pt b4 (cl [.slice none 0 0, .slice none 0 0, .slice none 0 0, .int .i64 0] 46) :: ([hR L m, wR L m, eR L m, oR L m, S] ++ hr)) (fun q => q.1 ≤ roots.length ∧ PM (AM.Obj ly ln lf) ((roots.take q.1).foldl pmeet [])) (fun q => roots.length - q.1) (0, .slice none 0 0) ⟨Nat.zero_le _, PM.nil⟩ ⟨rfl, rfl, rfl, rfl, rfl, trivial⟩ (Sub.refl _) ?_
    rintro ⟨i, lv⟩ ⟨hi, hmet⟩
    have hml := h.g.pm_len hmet
    dsimp only at hi hmet hml ⊢
    simp only [List.cons_append, List.nil_append]
    refine cd_seq (cd_seq (cd_region (st_v (v_move rfl) (st_v (v_move rfl) (st_v (v_len (congrArg some hv1) Try.underlying34) (st_v (v_lss rfl rfl) (st_nil (nx_kp [0, 1, 4, 6, 7, 27] rfl (nx_then (cd_cond rfl (fun hc1 => ?_) (fun hc1 => ?_)))))))))))
    · skip
      have hlt : i < roots.length := by simpa using hc1
      obtain ⟨b, o, cp', hv2, hrd⟩ := hv.at hlt
      have htk : (roots.take (i + 1)).foldl pmeet [] = pmeet ((roots.take i).foldl pmeet []) roots[i] := by rw [List.take_succ_eq_append_getElem hlt, pmeets_snoc]
      refine cd_skip (xt_then (cd_seq (cd_block (cd_region (st_v (v_move rfl) (st_v (v_move rfl) (st_v (v_move rfl) (st_v (v_ixo i (congrArg some hv2) rfl sl34 rfl hlt) (st_v (v_ld rfl ld3) ?_)))))))))
      refine st_cl rfl rfl en63 rfl (rmeet_ct (l := (roots.take i).foldl pmeet []) (lv := lv) (t := roots[i]) (by omega)) ?_
      rintro lv' h' rfl
      simp only [List.cons_append, List.nil_append]
      refine st_v (v_assign rfl) (st_nil (nx_kp [0, 1, 4, 6, 7] rfl (nx_xt (xt_normal_block (xt_then (cd_region (st_v (v_move rfl) (st_v (v_add rfl rfl (by unfold I64 at *; omega)) (st_v (v_assign rfl) (st_nil (nx_kp [0, 1, 4, 6, 7] rfl (nx_xt ?_))))))))))))
      rw [← htk]
      refine xt_ag (i + 1, lv') ⟨hlt, by rw [htk]; exact hmet.meet (hobj _ (List.getElem_mem hlt))⟩ (by show _ - _ < _ - _; omega)
    · skip
      have hge : roots.take i = roots := List.take_of_length_le (by simpa using hc1)
      rw [hge] at hmet hml ⊢
      refine cd_exit (xt_exit_then (xt_exit_then (xt_exit_block (xt_then (cd_seq (cd_region (st_v (v_build (cells := [.slice none 0 0, .slice none 0 0, .slice none 0 0, .int .i64 0]) rfl (fun _ => by kernel_rfl)) ?_)))))))
      refine st_alc al46 fun b8 => ?_
      refine st_stoW rfl rfl sz46 rfl rfl ?_
      refine st_nil (nx_kp [0, 1, 4, 6, 8] rfl (nx_then (cd_seq (cd_seq (cd_region (st_v (v_assign rfl) (st_nil (nx_then (cd_use (pic_meets_c (L := L) (m := m) (S := S) (v := v) (b4 := b4) (b8 := b8) (lv := lv) (roots := roots) (w0 := w0) (hr := pt b8 (cl [.slice none 0 0, .slice none 0 0, .slice none 0 0, .int .i64 0] 46) :: pt b4 (cl [.slice none 0 0, .slice none 0 0, .slice none 0 0, .int .i64 0] 46) :: hr) hS h hmet fun lw la lcp hlw hla hmM => ?_))))))))))
      have hmM2 := h.g.pm_len hmM
      refine xt_then (cd_seq (cd_seq (cd_region (st_v (v_assign rfl) (st_nil (nx_then (cd_use (pic_objs_c (L := L) (m := m) (S := S) (v := v) (b4 := b4) (b8 := b8) (lv := lw) (roots := roots) (w0 := w0) (hr := pt b4 (cl [.slice none 0 0, .slice none 0 0, .slice none 0 0, .int .i64 0] 46) :: hr) hS h hmM rfl hlw hla fun us sv fv hul hform => ?_))))))))
      refine xt_then (cd_seq (cd_seq (cd_region (st_v (v_assign rfl) (st_nil (nx_kp [1, 4, 6, 8, 16] rfl (nx_then (cd_use (pic_rts_c (R := S) (v := v) (b4 := b4) (b8 := b8) (lv := lw) (roots := roots) (w0 := w0) (l := m.gr.met m.T roots) (sv := sv) (fv := fv) (hr := vec sv 3 1 (m.gr.met m.T roots).length (ints (m.pic roots).shapes) :: vec fv 34 1 (m.gr.met m.T roots).length us :: Res.star (rowsI us (m.pic roots).fields) :: pt b4 (cl [.slice none 0 0, .slice none 0 0, .slice none 0 0, .int .i64 0] 46) :: ([hR L m, wR L m, eR L m, oR L m] ++ hr)) hv hrl hlw hla (by omega) fun rv => ?_)))))))))
      obtain ⟨p1, p2, p3⟩ := pic_parts m roots
      have e1 : (m.pic roots).shapes.length = (m.gr.met m.T roots).length := by rw [p1, List.length_map]
      have e2 : (m.pic roots).fields.length = (m.gr.met m.T roots).length := by rw [p2, List.length_map]
      have e3 : (m.pic roots).roots.length = roots.length := by rw [p3, List.length_map]
      simp only [List.cons_append, List.nil_append]
      refine xt_vform (v := sv) (n := (m.gr.met m.T roots).length) (l := ints (m.pic roots).shapes) (by repeat (first | exact Sel.here | apply Sel.there)) fun f1 => ?_
      refine xt_vform (v := fv) (n := (m.gr.met m.T roots).length) (l := us) (by repeat (first | exact Sel.here | apply Sel.there)) fun f2 => ?_
      refine xt_vform (v := rv) (n := roots.length) (l := ints (roots.map fun r => 1 + idx (m.gr.met m.T roots) r)) (by repeat (first | exact Sel.here | apply Sel.there)) fun f3 => ?_
      refine xt_then (cd_seq (cd_region (st_v (v_loadW rfl ld46 rfl (by repeat (first | exact Sel.here | apply Sel.there))) ?_)))
      have o1 := VForm.one f1; have o2 := VForm.one f2; have o3 := VForm.one f3
      refine st_stoW rfl rfl sz46 rfl (by simp only [List.all_cons, List.all_nil, o1, o2, o3]; rfl) ?_
      refine st_nil (nx_kp [4] rfl (nx_then (cd_ret (xt_pack [vec sv 3 1 (m.pic roots).shapes.length (ints (m.pic roots).shapes), vec rv 3 1 (m.pic roots).roots.length (ints (m.pic roots).roots), vec fv 34 1 (m.pic roots).fields.length us, Res.star (rowsI us (m.pic roots).fields)] ?_ (by rw [e1, e2, e3, p3]; repeat (first | exact Pk.nil | (apply Pk.cons; (repeat (first | exact Sel.here | apply Sel.there)))))))))
      exact xt_retV (.cellN rfl ld46 rfl (by repeat (first | exact Sel.here | apply Sel.there)) .nil) ⟨sv, fv, rv, us, rfl, ⟨by rw [e1]; exact f1, by rw [e3, p3]; exact f3, by rw [e2]; exact f2, by rw [e2]; exact hul, hform⟩, rfl⟩ (by repeat (first | exact Sub.refl _ | exact Sub.nil _ | refine Sub.sel (by repeat (first | exact Sel.here | apply Sel.there)) ?_ | apply Sub.cons))
end
end Go.Proofs.Ytmhmpjgkkpbnnaa
namespace Go.Proofs.Ytmhmpjgkkpbnnaa
open Go.Ck Fx Go.Hm Go.Hm.AM
attribute [local irreducible] St Cd Xt Nx DrL LsW
section
variable {L : MemL} {μ : Mem} {S R : Res} {m : AM} {ly ln lf : List Int} {φ : Int → Option Nat} {A : Store} {v : Value} {roots : List Int} {t : Int}
theorem seen_of (I : MI L μ S m) (h : AM.Good m ly ln lf φ A) (t : Int) : (ml μ.mv t = none → m.seen t = t) ∧ ∀ to, ml μ.mv t = some to → m.seen t = if μ.bu && μ.o.begins t then to else t := by
  have hb := I.r.bo t
  unfold AM.seen
  cases hF : m.isF t with
  | false =>
    rw [hF, Bool.false_and] at hb
    exact ⟨fun _ => rfl, fun to _ => by rw [hb, Bool.and_false]; rfl⟩
  | true =>
    rw [hF, Bool.true_and] at hb
    have hmv := I.r.mv t hF
    by_cases hm : m.moved t = 0
    · rw [if_pos hm] at hmv
      exact ⟨fun _ => by rw [hm]; rfl, fun to hto => by rw [hmv] at hto; cases hto⟩
    · rw [if_neg hm] at hmv
      have hp := h.g.mpos t hm
      have hf := h.ym t hm
      have hh := h.g.fhead hf
      have hbz : m.busy = true := by
        cases hz : m.busy with
        | true => rfl
        | false => rw [h.g.nb hz] at hf; cases hf
      refine ⟨fun hn => (by rw [hmv] at hn; cases hn), fun to hto => ?_⟩
      rw [hmv] at hto
      cases hto
      rw [hb, I.r.bu, hbz]
      simp [hp, hh]
set_option maxRecDepth 100000 in
theorem hseen_ct (I : MI L μ S m) (h : AM.Good m ly ln lf φ A) : Reads Try.prog 59 #[.pointer (some ⟨L.mb, 0, none⟩), .int .i64 t] [mb L μ, mpr L.mvb (mvv μ.mv), sb L.o μ.o, tb L.o μ.o] (.int .i64 (m.seen t)) := by
  have oo := I.r.oko h.g
  obtain ⟨q1, q2⟩ := seen_of I h t
  cases hq : ml μ.mv t with
  | none =>
    rw [q1 hq]
    refine ct_of (n := 33) Try.func59 rfl rfl (len rfl) fun hr w0 => ?_
    refine cd_seq (cd_region (st_v (v_assign rfl) (st_nil (nx_then (cd_seq (cd_seq (cd_region (st_v (v_move rfl) (st_v (v_nilCheck rfl) (st_v (v_fieldAddr rfl fa100_7 rfl) (st_v (v_ld rfl ld97) ?_)))))))))))
    refine st_v (v_move rfl) (st_v (v_lookup_ok rfl rfl mp97 inf3 (by repeat (first | exact Sel.here | apply Sel.there))) ?_)
    rw [mlook_mvv, hq]
    refine st_v (v_move rfl) (st_v (v_extract rfl rfl) (st_v (v_extract rfl rfl) (st_v (v_assign rfl) (st_v (v_assign rfl) (st_nil (nx_kp [0, 1, 4, 5, 6] rfl (nx_then (cd_seq (cd_region (st_v (v_move rfl) (st_v (v_move rfl) (st_sk rfl rfl rfl ?_))))))))))))
    refine st_sk rfl rfl rfl ?_
    refine st_sk rfl rfl rfl ?_
    refine st_sk rfl rfl rfl ?_
    refine st_v (v_pick_false rfl rfl) (st_v (v_move rfl) (st_sk rfl rfl rfl ?_))
    refine st_sk rfl rfl rfl ?_
    refine st_sk rfl rfl rfl ?_
    refine st_sk rfl rfl rfl ?_
    refine st_sk rfl rfl rfl ?_
    refine st_sk rfl rfl rfl ?_
    refine st_v (v_pick_false rfl rfl) (st_nil (nx_kp [1, 4, 5, 30] rfl (nx_then (cd_false rfl ?_))))
    refine cd_skip (xt_then (cd_seq (cd_region (st_v (v_move rfl) (st_v (v_assign rfl) (st_nil (nx_kp [4] rfl (nx_then (cd_ret ?_)))))))))
    exact xt_rt rfl ⟨rfl, rfl⟩
  | some to =>
    rw [q2 to hq]
    refine ct_of (n := 33) Try.func59 rfl rfl (len rfl) fun hr w0 => ?_
    refine cd_seq (cd_region (st_v (v_assign rfl) (st_nil (nx_then (cd_seq (cd_seq (cd_region (st_v (v_move rfl) (st_v (v_nilCheck rfl) (st_v (v_fieldAddr rfl fa100_7 rfl) (st_v (v_ld rfl ld97) ?_)))))))))))
    refine st_v (v_move rfl) (st_v (v_lookup_ok rfl rfl mp97 inf3 (by repeat (first | exact Sel.here | apply Sel.there))) ?_)
    rw [mlook_mvv, hq]
    refine st_v (v_move rfl) (st_v (v_extract rfl rfl) (st_v (v_extract rfl rfl) (st_v (v_assign rfl) (st_v (v_assign rfl) (st_nil (nx_kp [0, 1, 4, 5, 6] rfl (nx_then (cd_seq (cd_region (st_v (v_move rfl) (st_v (v_move rfl) (st_vg rfl rfl (v_move rfl) (st_vg rfl rfl (v_nilCheck rfl) (st_vg rfl rfl (v_fieldAddr rfl fa100_5 rfl) (st_vg rfl rfl (v_ld rfl ld4) ?_)))))))))))))))
    refine st_v (v_pick_true rfl rfl) (st_v (v_move rfl) (st_cut (k := 15) (d := 30) (v := .bool (μ.bu && μ.o.begins t)) (fun hcut => bool_want (b := μ.bu) true (fun hg => ?_) (fun hg => ?_)) ?_))
    · refine st_sk rfl rfl hg ?_
      refine st_sk rfl rfl hg ?_
      refine st_sk rfl rfl hg ?_
      refine st_sk rfl rfl hg ?_
      refine st_sk rfl rfl hg ?_
      refine st_sk rfl rfl hg ?_
      refine st_v (v_pick_false (bool_ev rfl hg) rfl) ?_
      exact hcut _ (ssub_head (by first | rfl | (rw [hg]; rfl) | simp_all) (ssub_skip rfl (ssub_skip rfl (ssub_skip rfl (ssub_skip rfl (ssub_skip rfl (ssub_skip rfl (ssub_refl))))))))
    · skip
      refine st_vg rfl (bool_get rfl hg) (v_move rfl) (st_vg rfl (bool_get rfl hg) (v_nilCheck rfl) (st_vg rfl (bool_get rfl hg) (v_fieldAddr rfl fa100_3 rfl) (st_vg rfl (bool_get rfl hg) (v_ld rfl ld95) ?_)))
      refine st_vg rfl (bool_get rfl hg) (v_move rfl) (st_clrg rfl (bool_get rfl hg) rfl rfl en72 rfl (begins_ct (l := L.o) (s := μ.o) oo) ?_)
      refine st_v (v_pick_true (bool_ev rfl hg) rfl) ?_
      exact hcut _ (ssub_head (by first | rfl | (rw [hg]; rfl) | simp_all) (ssub_skip rfl (ssub_skip rfl (ssub_skip rfl (ssub_skip rfl (ssub_skip rfl (ssub_skip rfl (ssub_refl))))))))
    refine st_nil (nx_kp [1, 4, 5, 30] rfl (nx_then (cd_cond rfl (fun hc => ?_) (fun hc => ?_))))
    · skip
      rw [if_pos hc]
      refine cd_seq (cd_region (st_v (v_move rfl) (st_v (v_assign rfl) (st_nil (nx_kp [1, 4] rfl (nx_then (cd_ret (xt_ret_then ?_))))))))
      exact xt_rt rfl ⟨rfl, rfl⟩
    · skip
      rw [if_neg (by rw [hc]; simp)]
      refine cd_skip (xt_then (cd_seq (cd_region (st_v (v_move rfl) (st_v (v_assign rfl) (st_nil (nx_kp [4] rfl (nx_then (cd_ret ?_)))))))))
      exact xt_rt rfl ⟨rfl, rfl⟩
/-- In which space an object lies. -/
def inP (L : MemL) (μ : Mem) (t : Int) : Option Addr := if μ.y.begins t then some ⟨L.y.sb, 0, none⟩ else if μ.n.begins t then some ⟨L.n.sb, 0, none⟩ else if μ.o.begins t then some ⟨L.o.sb, 0, none⟩ else none
set_option maxRecDepth 100000 in
theorem in1_ct {l : SpL} {s : Sp} {t : Int} {bx : Nat} (ok : s.Ok) : Reads Try.prog 106 #[.pointer (some ⟨l.sb, 0, none⟩), .pointer (some ⟨bx, 0, none⟩)] [pt bx (cl [.int .i64 t] 3), sb l s, tb l s] (.bool (s.begins t)) := by
  refine ct_of (n := 7) Try.func106 rfl rfl (len rfl) fun hr w0 => ?_
  refine cd_seq (cd_region (st_v (v_assign rfl) (st_nil (nx_then (cd_seq (cd_region (st_v (v_move rfl) (st_v (v_ld rfl ld3) ?_))))))))
  refine st_clr rfl rfl en72 rfl (begins_ct (l := l) (s := s) ok) ?_
  refine st_v (v_assign rfl) (st_nil (nx_kp [3] rfl (nx_then (cd_ret ?_))))
  exact xt_rt rfl ⟨rfl, rfl⟩
def inSH (L : MemL) (μ : Mem) : SH := [mb L μ, sb L.y μ.y, tb L.y μ.y, sb L.n μ.n, tb L.n μ.n, sb L.o μ.o, tb L.o μ.o]
theorem in1_all (I : MI L μ S m) (h : AM.Good m ly ln lf φ A) {t : Int} {b : Nat} : ∀ p ∈ [L.y.sb, L.n.sb, L.o.sb], Reads Try.prog 106 (#[.pointer (some ⟨p, 0, none⟩)] ++ #[.pointer (some ⟨b, 0, none⟩)])
    [pt b (cl [.int .i64 t] 3), sb L.y μ.y, tb L.y μ.y, sb L.n μ.n, tb L.n μ.n, sb L.o μ.o, tb L.o μ.o] (.bool (if p = L.y.sb then μ.y.begins t else if p = L.n.sb then μ.n.begins t else μ.o.begins t)) := by
  have oy := I.r.oky h.g; have on := I.r.okn h.g; have oo := I.r.oko h.g
  have h1 := I.yn; have h2 := I.yo; have h3 := I.no
  intro p hp
  simp only [List.mem_cons, List.not_mem_nil, or_false] at hp
  rcases hp with rfl | rfl | rfl
  · rw [if_pos rfl]; exact Reads.more (x := [sb L.n μ.n, tb L.n μ.n, sb L.o μ.o, tb L.o μ.o]) (in1_ct (l := L.y) oy) (by repeat (first | exact Pk.nil | (apply Pk.cons; (repeat (first | exact Sel.here | apply Sel.there)))))
  · rw [if_neg (Ne.symm h1), if_pos rfl]; exact Reads.more (x := [sb L.y μ.y, tb L.y μ.y, sb L.o μ.o, tb L.o μ.o]) (in1_ct (l := L.n) on) (by repeat (first | exact Pk.nil | (apply Pk.cons; (repeat (first | exact Sel.here | apply Sel.there)))))
  · rw [if_neg (Ne.symm h2), if_neg (Ne.symm h3)]; exact Reads.more (x := [sb L.y μ.y, tb L.y μ.y, sb L.n μ.n, tb L.n μ.n]) (in1_ct (l := L.o) oo) (by repeat (first | exact Pk.nil | (apply Pk.cons; (repeat (first | exact Sel.here | apply Sel.there)))))
set_option maxRecDepth 100000 in
theorem hin_ct (I : MI L μ S m) (h : AM.Good m ly ln lf φ A) {t : Int} : Reads Try.prog 60 #[.pointer (some ⟨L.mb, 0, none⟩), .int .i64 t] (inSH L μ) (.pointer (inP L μ t)) := by
  have h1 := I.yn; have h2 := I.yo; have h3 := I.no
  unfold inSH
  refine ct_of (n := 26) Try.func60 rfl rfl (len rfl) fun hr w0 => ?_
  refine cd_seq (cd_region (st_bx rfl rfl fun b3 => ?_))
  refine st_v (v_assign rfl) (st_nil (nx_kp [0, 3, 4] rfl (nx_then (cd_seq (cd_drawh (ork [(0, 2), (1, 2), (2, 2), (3, 2), (4, 1), (5, 2), (6, 2), (7, 2), (8, 1), (9, 2), (10, 2), (11, 2), (12, 1), (13, 0), (14, 0), (15, 2), (16, 2), (17, 2), (18, 2), (19, 2)] .nil) (fun i => !(Nat.beq i 13 || Nat.beq i 14)) mixed (by kernel_rfl) ?_)))))
  refine dp_v rfl (v_makeFunc rfl rfl) (dp_v rfl (v_move rfl) (dp_v rfl (v_nilCheck rfl) (dp_v rfl (v_fieldAddr rfl fa100_1 rfl) (dr_v rfl (v_ld rfl ld95) ?_))))
  refine dp_v rfl (v_move rfl) (dp_v rfl (v_nilCheck rfl) (dp_v rfl (v_fieldAddr rfl fa100_2 rfl) (dr_v rfl (v_ld rfl ld95) ?_)))
  refine dp_v rfl (v_move rfl) (dp_v rfl (v_nilCheck rfl) (dp_v rfl (v_fieldAddr rfl fa100_3 rfl) (dr_v rfl (v_ld rfl ld95) ?_)))
  refine dr_eff rfl (st_buildSlice (cells := [.pointer (some ⟨L.y.sb, 0, none⟩), .pointer (some ⟨L.n.sb, 0, none⟩), .pointer (some ⟨L.o.sb, 0, none⟩)]) rfl Try.underlying178 inf95 rfl rfl (by kernel_rfl) (ltn rfl) fun b21 => dr_nx ?_)
  refine dr_eff rfl (st_cl rfl rfl en105 rfl (find_ct (bs := b21) (k := 106) (cp := #[.pointer (some ⟨b3, 0, none⟩)]) (ps := [L.y.sb, L.n.sb, L.o.sb]) (hf := [pt b3 (cl [.int .i64 t] 3), sb L.y μ.y, tb L.y μ.y, sb L.n μ.n, tb L.n μ.n, sb L.o μ.o, tb L.o μ.o]) (is := fun p => if p = L.y.sb then μ.y.begins t else if p = L.n.sb then μ.n.begins t else μ.o.begins t) (by simp) en106 (in1_all I h)) ?_)
  rintro v h' ⟨rfl, rfl⟩
  have hc : ((List.find? (fun p => if p = L.y.sb then μ.y.begins t else if p = L.n.sb then μ.n.begins t else μ.o.begins t) [L.y.sb, L.n.sb, L.o.sb]).map (fun b => (⟨b, 0, none⟩ : Addr))) = inP L μ t := by
    unfold inP
    cases e1 : μ.y.begins t <;> cases e2 : μ.n.begins t <;> cases e3 : μ.o.begins t <;> simp [e1, e2, e3, List.find?_cons, Ne.symm h1, Ne.symm h2, Ne.symm h3]
  rw [hc]
  refine dr_nx ?_
  refine dp_v rfl (v_move rfl) (dp_v rfl (v_extract rfl rfl) (dp_v rfl (v_extract rfl rfl) (dp_v rfl (v_assign rfl) (dp_v rfl (v_assign rfl) (dr_nil (nx_kp [4, 5] rfl (nx_then (cd_seq (cd_region (st_v (v_move rfl) (st_v (v_assign rfl) (st_nil (nx_kp [4] rfl (nx_then (cd_ret ?_)))))))))))))))
  exact xt_rt rfl ⟨rfl, rfl⟩
/-- The numbers of what is met. -/
def nmF : Nat → List Int → List (Int × Value)
  | _, [] => []
  | j, x :: r => (x, .int .i64 ((j : Int) + 1)) :: nmF (j + 1) r
def nmv (l : List Int) : List (Int × Value) := nmF 0 l
theorem mlook_nmF (t : Int) : ∀ (l : List Int) (j : Nat), mlook (nmF j l) t = if t ∈ l then some (.int .i64 ((j : Int) + 1 + idx l t)) else none
  | [], j => rfl
  | x :: r, j => by
    have ih := mlook_nmF t r (j + 1)
    unfold mlook at ih ⊢
    unfold nmF
    simp only [List.find?_cons]
    by_cases hx : x = t
    · subst hx
      simp [idx_has (List.mem_cons_self ..)]
    · rw [show (x == t) = false by simp [hx]]
      dsimp only
      rw [ih]
      by_cases hm : t ∈ r
      · rw [if_pos hm, if_pos (List.mem_cons_of_mem _ hm), idx_has hm, idx_has (List.mem_cons_of_mem _ hm), List.idxOf_cons, show (x == t) = false by simp [hx]]
        simp only [cond_false, Option.some.injEq, Value.int.injEq, true_and]
        omega
      · rw [if_neg hm, if_neg (by simp [hm, Ne.symm hx])]
theorem mlook_nmv (t : Int) (l : List Int) : mlook (nmv l) t = if t ∈ l then some (.int .i64 (1 + idx l t)) else none := by
  unfold nmv; rw [mlook_nmF]; simp
theorem mupd_nmF {t : Int} : ∀ {l : List Int} {j : Nat}, t ∉ l → mupd (nmF j l) t (.int .i64 ((j : Int) + l.length + 1)) = nmF j (l ++ [t])
  | [], j, _ => by simp [nmF, mupd]
  | x :: r, j, h => by
    have h1 : x ≠ t := fun e => h (by simp [e])
    have h2 : t ∉ r := fun e => h (by simp [e])
    have ih := mupd_nmF (j := j + 1) h2
    unfold nmF mupd
    rw [if_neg h1, List.cons_append]
    dsimp only
    rw [← ih]
    congr 3
    simp; omega
theorem mupd_nmv {t : Int} {l : List Int} (h : t ∉ l) : mupd (nmv l) t (.int .i64 ((l.length : Int) + 1)) = nmv (l ++ [t]) := by
  have := mupd_nmF (j := 0) h
  unfold nmv; rw [← this]; simp
def pcSH (L : MemL) (μ : Mem) (b1 b2 b3 mp : Nat) (lv : Value) (l : List Int) : SH :=
  [pt b1 (cl [.pointer (some ⟨L.mb, 0, none⟩)] 27), pt b2 (cl [.map (some mp)] 97), pt b3 (cl [lv] 34), mpr mp (nmv l), vec lv 3 1 l.length (ints l), mb L μ, mpr L.mvb (mvv μ.mv), sb L.o μ.o, tb L.o μ.o]
theorem seen_ne (h : AM.Good m ly ln lf φ A) {t : Int} (ht : AM.Obj ly ln lf t) : m.seen t ≠ 0 := by
  have h1 := (h.g.obj_bd ht).1
  unfold AM.seen
  split
  · rename_i hc; simp only [Bool.and_eq_true, decide_eq_true_eq] at hc; omega
  · omega
theorem seen_zero (h : AM.Good m ly ln lf φ A) : m.seen 0 = 0 := by
  have hb := m.base_former; have := h.g.sz.Y0; have := h.g.sz.H0
  unfold AM.seen
  rw [if_neg]
  simp only [Bool.and_eq_true, isF_iff]
  omega
set_option maxRecDepth 100000 in
theorem hpmeet_ct (I : MI L μ S m) (h : AM.Good m ly ln lf φ A) {b1 b2 b3 mp : Nat} {lv : Value} {l : List Int} {t : Int} (hl : PM (AM.Obj ly ln lf) l) (ht : t = 0 ∨ AM.Obj ly ln lf t) :
    Ct Try.prog 58 #[.int .i64 t, .pointer (some ⟨b1, 0, none⟩), .pointer (some ⟨b2, 0, none⟩), .pointer (some ⟨b3, 0, none⟩)] (pcSH L μ b1 b2 b3 mp lv l)
      fun v h' => v = .int .i64 (1 + idx (pmeet l (m.seen t)) (m.seen t)) ∧ ∃ lv', h' = pcSH L μ b1 b2 b3 mp lv' (pmeet l (m.seen t)) := by
  have hll := h.g.pm_len hl; have hT := h.g.T_le
  unfold pcSH
  refine ct_of (n := 32) Try.func58 rfl rfl (len rfl) fun hr w0 => ?_
  refine cd_seq (cd_region (st_v (v_assign rfl) (st_nil (nx_then (cd_seq (cd_seq (cd_region (st_v (v_move rfl) (st_v (v_eql rfl rfl) (st_nil (nx_kp [0, 1, 2, 3, 5, 9] rfl (nx_then (cd_cond rfl (fun hc => ?_) (fun hc => ?_))))))))))))))
  · skip
    have h0 : t = 0 := by simpa using hc
    have hn0 : (0 : Int) ∉ l := fun hm => by have := (h.g.obj_bd (hl.s 0 hm)).1; omega
    have hres : (1 : Int) + idx (pmeet l (m.seen t)) (m.seen t) = 0 := by rw [h0, seen_zero h, pmeet_zero, idx_no hn0]; rfl
    have hpm : pmeet l (m.seen t) = l := by rw [h0, seen_zero h, pmeet_zero]
    rw [hres, hpm]
    refine cd_seq (cd_region (st_v (v_assign rfl) (st_nil (nx_kp [0, 1, 2, 3, 5] rfl (nx_then (cd_ret (xt_ret_then ?_)))))))
    exact xt_rt rfl ⟨rfl, lv, rfl⟩
  · skip
    have h0 : t ≠ 0 := by simpa using hc
    have hne := seen_ne h (ht.resolve_left h0)
    refine cd_vecshape (v := lv) (E := 3) (sz := 1) (n := l.length) (l := ints l) (by repeat (first | exact Sel.here | apply Sel.there)) fun la lcp hlv hla => ?_
    refine cd_skip (xt_then (cd_seq (cd_region (st_v (v_ld rfl ld27) ?_))))
    refine st_v (v_move rfl) (st_clr rfl rfl en59 rfl (hseen_ct I h) ?_)
    refine st_v (v_assign rfl) (st_nil (nx_kp [0, 2, 3, 5] rfl (nx_then (cd_seq (cd_seq (cd_region (st_v (v_ld rfl ld97) ?_)))))))
    refine st_v (v_move rfl) (st_v (v_lookup_ok rfl rfl mp97 inf3 (by repeat (first | exact Sel.here | apply Sel.there))) ?_)
    rw [mlook_nmv]
    by_cases hm : m.seen t ∈ l
    · rw [if_pos hm, pmeet_old hm]
      refine st_v (v_move rfl) (st_v (v_extract rfl rfl) (st_v (v_extract rfl rfl) (st_v (v_assign rfl) (st_v (v_assign rfl) (st_nil (nx_kp [0, 2, 3, 5, 7] rfl (nx_then (cd_seq (cd_region (st_v (v_move rfl) (st_v (v_not rfl) (st_nil (nx_kp [0, 2, 3, 5, 20] rfl (nx_then (cd_false rfl ?_)))))))))))))))
      refine cd_skip (xt_then (cd_seq (cd_region (st_v (v_ld rfl ld97) ?_))))
      refine st_v (v_move rfl) (st_v (v_lookup rfl rfl mp97 inf3 (by repeat (first | exact Sel.here | apply Sel.there))) ?_)
      rw [mlook_nmv, if_pos hm]
      refine st_v (v_assign rfl) (st_nil (nx_kp [5] rfl (nx_then (cd_ret ?_))))
      exact xt_rt rfl ⟨rfl, lv, rfl⟩
    · rw [if_neg hm, pmeet_new hne hm, idx_new hm]
      refine st_v (v_move rfl) (st_v (v_extract rfl rfl) (st_v (v_extract rfl rfl) (st_v (v_assign rfl) (st_v (v_assign rfl) (st_nil (nx_kp [0, 2, 3, 5, 7] rfl (nx_then (cd_seq (cd_region (st_v (v_move rfl) (st_v (v_not rfl) (st_nil (nx_kp [0, 2, 3, 5, 20] rfl (nx_then (cd_true rfl ?_)))))))))))))))
      refine cd_seq (cd_region (st_v (v_ld rfl ld34) ?_))
      refine st_v (v_move rfl) (st_buildSlice (cells := [.int .i64 (m.seen t)]) rfl Try.underlying34 inf3 rfl rfl (by kernel_rfl) (ltn rfl) fun b23 => ?_)
      refine st_append (news := [.int .i64 (m.seen t)]) rfl rfl Try.underlying34 inf3 rfl (ltn rfl) (by repeat (first | exact Sel.here | apply Sel.there)) rfl (fun j u hu => by repeat (first | exact at_here (rd_cl (by simpa using hu)) | apply at_there)) (ones rfl) (by omega) (by omega) (ltn rfl) fun lv' hlv' hv1 => ?_
      refine st_vecshape (v := lv') (E := 3) (sz := 1) (n := l.length + 1) (l := ints l ++ [.int .i64 (m.seen t)]) (by repeat (first | exact Sel.here | apply Sel.there)) fun la' lcp' hlv2 hla' => ?_
      refine st_sto rfl rfl sz34 ?_
      refine st_nil (nx_kp [0, 2, 3, 5] rfl (nx_then (cd_region (st_v (v_ld rfl ld97) ?_))))
      refine st_v (v_move rfl) (st_v (v_ld rfl ld34) ?_)
      refine st_v (v_len (congrArg some hlv2) Try.underlying34) (st_mapUpdate rfl rfl rfl mp97 (by repeat (first | exact Sel.here | apply Sel.there)) ?_)
      rw [show ((l.length + 1 : Nat) : Int) = (l.length : Int) + 1 by omega, mupd_nmv hm]
      refine st_nil (nx_kp [0, 2, 5] rfl (nx_then (cd_seq (cd_region (st_v (v_ld rfl ld97) ?_)))))
      refine st_v (v_move rfl) (st_v (v_lookup rfl rfl mp97 inf3 (by repeat (first | exact Sel.here | apply Sel.there))) ?_)
      rw [mlook_nmv, if_pos (by simp), idx_new hm]
      refine st_v (v_assign rfl) (st_nil (nx_kp [5] rfl (nx_then (cd_ret ?_))))
      rw [show ints l ++ [.int .i64 (m.seen t)] = ints (l ++ [m.seen t]) by simp [ints], show l.length + 1 = (l ++ [m.seen t]).length by simp]
      exact xt_rt rfl ⟨rfl, lv', rfl⟩
end
end Go.Proofs.Ytmhmpjgkkpbnnaa
namespace Go.Proofs.Ytmhmpjgkkpbnnaa
open Go.Ck Fx Go.Hm Go.Hm.AM
attribute [local irreducible] St Cd Xt Nx DrL LsW
section
variable {L : MemL} {μ : Mem} {S R : Res} {m : AM} {ly ln lf : List Int} {φ : Int → Option Nat} {A : Store} {v u : Value} {roots l M : List Int} {t : Int} {w0 : World} {hr : SH} {Q : Exit → Act → World → Prop} {b2 b4 b7 b8 b10 mp : Nat} {lv : Value}
set_option maxHeartbeats 2000000 in
set_option maxRecDepth 100000 in
/-- A row of a picture, of an object there. -/
theorem hrow_y_c (I : MI L μ S m) (h : AM.Good m ly ln lf φ A) {i : Nat} (hi : i < l.length) (ht : l[i] ∈ ly) (hl : PM (AM.Obj ly ln lf) l) (hu : RowB S u (m.row l[i])) (hM : ∃ k, M = (m.gr.succ l[i]).foldl pmeet l ++ k) (hM0 : (0 : Int) ∉ M) (sw : Value)
    (hcont : ∀ lv' rv', Xt ⟨Try.prog, none, 114, [], w0⟩ .normal Q [(2, .pointer (some ⟨b2, 0, none⟩)), (4, .pointer (some ⟨b4, 0, none⟩)), (8, .pointer (some ⟨b8, 0, none⟩)), (9, .func (.func 58) #[] #[.pointer (some ⟨b2, 0, none⟩), .pointer (some ⟨b7, 0, none⟩), .pointer (some ⟨b8, 0, none⟩)]), (10, .pointer (some ⟨b10, 0, none⟩)), (13, .int .i64 (i : Nat)), (15, sw), (16, rv')] (vec rv' 3 1 (m.row l[i]).length (ints (m.gr.prow M l[i])) :: (pcSH L μ b2 b7 b8 mp lv' ((m.gr.succ l[i]).foldl pmeet l) ++ ([sb L.y μ.y, wb L.y μ.y, tb L.y μ.y, sb L.n μ.n, wb L.n μ.n, tb L.n μ.n, wb L.o μ.o, S] ++ hr)))) :
    Cd ⟨Try.prog, none, 114, [], w0⟩ (cdr (cdl (cdr (cdr (cdr (cdl (cdl (cdr (cdl (cdl (cdr (cdl (cdr (cdr (cdr (cdr (cdr (cdr (cdr (fbody Try.f19)))))))))))))))))))) Q [(2, .pointer (some ⟨b2, 0, none⟩)), (4, .pointer (some ⟨b4, 0, none⟩)), (8, .pointer (some ⟨b8, 0, none⟩)), (9, .func (.func 58) #[] #[.pointer (some ⟨b2, 0, none⟩), .pointer (some ⟨b7, 0, none⟩), .pointer (some ⟨b8, 0, none⟩)]), (10, .pointer (some ⟨b10, 0, none⟩)), (13, .int .i64 (i : Nat)), (14, .pointer (some ⟨L.y.sb, 0, none⟩)), (15, sw), (16, .slice none 0 0), (72, u), (73, .int .i64 (m.row l[i]).length), (74, .int .i64 0)] (pcSH L μ b2 b7 b8 mp lv l ++ ([sb L.y μ.y, wb L.y μ.y, tb L.y μ.y, sb L.n μ.n, wb L.n μ.n, tb L.n μ.n, wb L.o μ.o, S] ++ hr)) := by
  have z := h.g.sz
  have h1 := z.Y0; have h2 := z.Y1; have h3 := z.H0; have h4 := z.H1; have h5 := m.base_former
  have hob : AM.Obj ly ln lf l[i] := hl.s _ (List.getElem_mem hi)
  have hbd := h.g.ybd ht
  have hlen := (ob_obj h.g hob).len z
  have hsz : m.size l[i] = 1 + (m.row l[i]).length := rfl
  have ok := I.r.oky h.g
  have k1 := ok.us; have k2 := ok.fr; have k3 := ok.ws
  have e1 := I.r.y.fr; have e2 := I.r.y.ln; have e3 := h.g.yl
  obtain ⟨ua, ucp, hue, _⟩ := id hu
  have hT := h.g.T_le
  have hn0 : ∀ {l'}, PM (AM.Obj ly ln lf) l' → (0 : Int) ∉ l' := fun hp hm => by have := (h.g.obj_bd (hp.s 0 hm)).1; omega
  refine cd_vecnil 3 1 ?_
  refine cd_block (cd_loop (σ := Nat × Value × Value) (fun q => [(2, .pointer (some ⟨b2, 0, none⟩)), (4, .pointer (some ⟨b4, 0, none⟩)), (8, .pointer (some ⟨b8, 0, none⟩)), (9, .func (.func 58) #[] #[.pointer (some ⟨b2, 0, none⟩), .pointer (some ⟨b7, 0, none⟩), .pointer (some ⟨b8, 0, none⟩)]), (10, .pointer (some ⟨b10, 0, none⟩)), (13, .int .i64 (i : Nat)), (14, .pointer (some ⟨L.y.sb, 0, none⟩)), (15, sw), (16, q.2.2), (72, u), (73, .int .i64 (m.row l[i]).length), (74, .int .i64 (q.1 : Nat))]) (fun q => vec q.2.2 3 1 q.1 (ints ((m.gr.prow M l[i]).take q.1)) :: (pcSH L μ b2 b7 b8 mp q.2.1 ((m.gr.succTo l[i] q.1).foldl pmeet l) ++ ([sb L.y μ.y, wb L.y μ.y, tb L.y μ.y, sb L.n μ.n, wb L.n μ.n, tb L.n μ.n, wb L.o μ.o, S] ++ hr))) (fun q => q.1 ≤ (m.row l[i]).length ∧ PM (AM.Obj ly ln lf) ((m.gr.succTo l[i] q.1).foldl pmeet l)) (fun q => (m.row l[i]).length - q.1) (0, lv, .slice none 0 0) ⟨Nat.zero_le _, hl⟩ ⟨rfl, rfl, rfl, rfl, rfl, rfl, rfl, rfl, rfl, rfl, rfl, rfl, trivial⟩ (Sub.refl _) ?_)
  rintro ⟨k, lw, rw_⟩ ⟨hk, hmk⟩
  dsimp only at hk hmk ⊢
  have hmkl := h.g.pm_len hmk
  obtain ⟨ex, hex⟩ := pmeets_pre (m.gr.succTo l[i] k) l
  have hxl : i < ((m.gr.succTo l[i] k).foldl pmeet l).length := by rw [hex, List.length_append]; omega
  have hxi : ((m.gr.succTo l[i] k).foldl pmeet l)[i]? = some l[i] := by rw [hex, List.getElem?_append_left hi, List.getElem?_eq_getElem hi]
  unfold pcSH
  simp only [List.cons_append, List.nil_append]
  refine cd_vecshape (v := lw) (E := 3) (sz := 1) (n := ((m.gr.succTo l[i] k).foldl pmeet l).length) (l := ints ((m.gr.succTo l[i] k).foldl pmeet l)) (by repeat (first | exact Sel.here | apply Sel.there)) fun wa wcp hlw hwa => ?_
  obtain ⟨wbk, rfl⟩ := hwa (by omega)
  have hrdw : Rd (vec lw 3 1 ((m.gr.succTo l[i] k).foldl pmeet l).length (ints ((m.gr.succTo l[i] k).foldl pmeet l))) ⟨wbk, i, none⟩ (.int .i64 l[i]) := rd_vec hlw (by simp only [ints, List.getElem?_map, hxi, Option.map_some])
  refine cd_seq (cd_region (st_v (v_lss rfl rfl) (st_nil (nx_then (cd_seq (cd_cond rfl (fun hc4 => ?_) (fun hc4 => ?_)))))))
  · skip
    have hkl : k < (m.row l[i]).length := by simpa using hc4
    obtain ⟨ub, uo2, ucp', hue2, hrdu⟩ := hu.at hkl
    have hps := Gr.succTo_succ (g := m.gr) (t := l[i]) (k := k) (by rw [gr_len]; exact hkl)
    rw [gr_flag hkl] at hps
    have hpg := prow_get (M := M) hkl
    have hAl : (m.gr.prow M l[i]).length = (m.row l[i]).length := prow_len _ _ _
    have hwd : μ.y.ws.getD (l[i] + 1 + k - μ.y.fr).toNat 0 = m.word (l[i] + 1 + k) := I.r.wordy (by omega) (by omega) (Gd.innery h.g ht (by omega) (by unfold AM.size; omega))
    have hrdx : Rd (wb L.y μ.y) ⟨L.y.wb, (l[i] + 1 + k - μ.y.fr).toNat, none⟩ (.int .i64 (m.word (l[i] + 1 + k))) := by rw [← hwd]; exact rd_ints (by omega)
    refine cd_skip (xt_then (cd_seq (cd_block (cd_seq (cd_region (st_v (v_move rfl) (st_v (v_ixo k (congrArg some hue2) rfl sl73 rfl hkl) (st_v (v_ld rfl ld4) ?_))))))))
    refine st_v (v_assign rfl) (st_v (v_assign rfl) (st_nil (nx_kp [2, 4, 8, 9, 10, 13, 14, 15, 16, 17, 18, 72, 73, 74] rfl (nx_then (cd_seq (cd_drawh (ork [(0, 2), (1, 2), (2, 2), (3, 1), (4, 2), (5, 2), (6, 1), (7, 2), (8, 2), (9, 2), (10, 1), (11, 2), (12, 1), (13, 2)] .nil) (fun _ => true) mixed (by kernel_rfl) ?_))))))
    refine dp_v rfl (v_move rfl) (dp_v rfl (v_nilCheck rfl) (dp_v rfl (v_fieldAddr rfl fa117_0 rfl) (dr_v rfl (v_ld rfl ld34) ?_)))
    refine dp_v rfl (v_move rfl) (dp_v rfl (v_idx i (congrArg some hlw) rfl sl34 rfl hxl) (dr_v rfl (v_ld rfl ld3) ?_))
    refine dp_v rfl (v_add rfl rfl (by unfold I64 at *; omega)) (dp_v rfl (v_move rfl) (dp_v rfl (v_add rfl rfl (by unfold I64 at *; omega)) (dr_clr rfl rfl rfl en61 rfl (word_ct (l := L.y) (s := μ.y) ok (by omega) (by omega)) ?_)))
    refine dp_v rfl (v_nilCheck rfl) (dr_v rfl (v_ld rfl ld3) ?_)
    refine dp_v rfl (v_assign rfl) (dr_nil (nx_kp [2, 4, 8, 9, 10, 13, 14, 15, 16, 18, 19, 72, 73, 74] rfl (nx_then (cd_seq (cd_seq (cd_region (st_v (v_move rfl) (st_nil (nx_kp [2, 4, 8, 9, 10, 13, 14, 15, 16, 19, 72, 73, 74, 92] rfl (nx_then (cd_cond rfl (fun hb => ?_) (fun hb => ?_))))))))))))
    · skip
      rw [hb] at hps hpg
      simp only [if_true] at hps hpg
      have hpm : l[i] + 1 + (k : Int) ∈ m.pl l[i] := mem_pl.2 ⟨k, by rw [List.getElem?_eq_getElem hkl, hb], rfl⟩
      have htk : (m.gr.succTo l[i] (k + 1)).foldl pmeet l = pmeet ((m.gr.succTo l[i] k).foldl pmeet l) (m.seen (m.word (l[i] + 1 + k))) := by rw [hps, pmeets_snoc]
      have hwo := h.g.word_obj hob hpm
      have hidx : idx (pmeet ((m.gr.succTo l[i] k).foldl pmeet l) (m.seen (m.word (l[i] + 1 + k)))) (m.seen (m.word (l[i] + 1 + k))) = idx M (m.seen (m.word (l[i] + 1 + k))) :=
        idx_pre (pre_trans (by rw [← htk]; exact m.gr.meets_to l[i] (k + 1) l) hM) pmeet_has hM0
      have hix := idx_lt (l := M) (t := m.seen (m.word (l[i] + 1 + k)))
      have hmk1 : PM (AM.Obj ly ln lf) ((m.gr.succTo l[i] (k + 1)).foldl pmeet l) := by rw [htk]; exact hmk.meet (h.g.seen_obj hwo)
      have hta : (m.gr.prow M l[i]).take (k + 1) = (m.gr.prow M l[i]).take k ++ [1 + idx M (m.seen (m.word (l[i] + 1 + k)))] := by
        rw [List.take_succ_eq_append_getElem (by omega)]
        rw [List.getElem?_eq_getElem (by omega), Option.some.injEq] at hpg
        rw [hpg]
      refine cd_region (st_v (v_move rfl) (st_v (v_move rfl) (st_cl rfl rfl en58 rfl (hpmeet_ct (b1 := b2) (b2 := b7) (b3 := b8) (mp := mp) (lv := lw) I h hmk hwo) ?_)))
      rintro v' h' ⟨rfl, lv', rfl⟩
      rw [hidx]
      unfold pcSH
      simp only [List.cons_append, List.nil_append]
      refine st_v (v_assign rfl) (st_nil (nx_kp [2, 4, 8, 9, 10, 13, 14, 15, 16, 19, 72, 73, 74] rfl (nx_then (cd_region (st_v (v_move rfl) (st_v (v_move rfl) (st_buildSlice (cells := [.int .i64 (1 + idx M (m.seen (m.word (l[i] + 1 + k))))]) rfl Try.underlying34 inf3 rfl rfl (by kernel_rfl) (ltn rfl) fun b98 => ?_)))))))
      refine st_append (news := [.int .i64 (1 + idx M (m.seen (m.word (l[i] + 1 + k))))]) rfl rfl Try.underlying34 inf3 rfl (ltn rfl) (by repeat (first | exact Sel.here | apply Sel.there)) rfl (fun j u hu => by repeat (first | exact at_here (rd_cl (by simpa using hu)) | apply at_there)) (ones rfl) (by omega) (by omega) (ltn rfl) fun rv' hrv' hv1 => ?_
      refine st_v (v_assign rfl) (st_nil (nx_kp [2, 4, 8, 9, 10, 13, 14, 15, 16, 72, 73, 74] rfl (nx_xt (xt_normal_block (xt_then (cd_region (st_v (v_add rfl rfl (by unfold I64 at *; omega)) (st_v (v_move rfl) (st_nil (nx_kp [2, 4, 8, 9, 10, 13, 14, 15, 16, 72, 73, 74] rfl (nx_xt ?_)))))))))))
      rw [show ints ((m.gr.prow M l[i]).take k) ++ [.int .i64 (1 + idx M (m.seen (m.word (l[i] + 1 + k))))] = ints ((m.gr.prow M l[i]).take (k + 1)) by rw [hta]; simp [ints], ← htk]
      refine xt_ag (k + 1, lv', rv') ⟨hkl, hmk1⟩ (by show _ - _ < _ - _; omega)
    · skip
      rw [hb] at hps hpg
      simp only [Bool.false_eq_true, if_false, List.append_nil] at hps hpg
      have hta : (m.gr.prow M l[i]).take (k + 1) = (m.gr.prow M l[i]).take k ++ [m.word (l[i] + 1 + k)] := by
        rw [List.take_succ_eq_append_getElem (by omega)]
        rw [List.getElem?_eq_getElem (by omega), Option.some.injEq] at hpg
        rw [hpg]
      refine cd_skip (xt_then (cd_region (st_v (v_move rfl) (st_v (v_move rfl) (st_buildSlice (cells := [.int .i64 (m.word (l[i] + 1 + k))]) rfl Try.underlying34 inf3 rfl rfl (by kernel_rfl) (ltn rfl) fun b98 => ?_)))))
      refine st_append (news := [.int .i64 (m.word (l[i] + 1 + k))]) rfl rfl Try.underlying34 inf3 rfl (ltn rfl) (by repeat (first | exact Sel.here | apply Sel.there)) rfl (fun j u hu => by repeat (first | exact at_here (rd_cl (by simpa using hu)) | apply at_there)) (ones rfl) (by omega) (by omega) (ltn rfl) fun rv' hrv' hv1 => ?_
      refine st_v (v_assign rfl) (st_nil (nx_kp [2, 4, 8, 9, 10, 13, 14, 15, 16, 72, 73, 74] rfl (nx_xt (xt_normal_block (xt_then (cd_region (st_v (v_add rfl rfl (by unfold I64 at *; omega)) (st_v (v_move rfl) (st_nil (nx_kp [2, 4, 8, 9, 10, 13, 14, 15, 16, 72, 73, 74] rfl (nx_xt ?_)))))))))))
      rw [show ints ((m.gr.prow M l[i]).take k) ++ [.int .i64 (m.word (l[i] + 1 + k))] = ints ((m.gr.prow M l[i]).take (k + 1)) by rw [hta]; simp [ints], ← hps]
      refine xt_ag (k + 1, lw, rv') ⟨hkl, by rw [hps]; exact hmk⟩ (by show _ - _ < _ - _; omega)
  · skip
    have hkg : k = (m.row l[i]).length := by
      have : ¬ k < (m.row l[i]).length := by simpa using hc4
      omega
    have hpa : m.gr.succTo l[i] k = m.gr.succ l[i] := by rw [hkg, ← gr_len]; exact Gr.succTo_all _ _
    have hAl : (m.gr.prow M l[i]).length = (m.row l[i]).length := prow_len _ _ _
    rw [hpa, List.take_of_length_le (by omega), hkg]
    refine cd_exit (xt_exit_then (xt_exit_then (xt_exit_block ?_)))
    have hc := hcont lw rw_
    unfold pcSH at hc
    simp only [List.cons_append, List.nil_append] at hc
    exact xt_use hc
set_option maxHeartbeats 2000000 in
set_option maxRecDepth 100000 in
/-- A row of a picture, of an object there. -/
theorem hrow_n_c (I : MI L μ S m) (h : AM.Good m ly ln lf φ A) {i : Nat} (hi : i < l.length) (ht : l[i] ∈ ln) (hl : PM (AM.Obj ly ln lf) l) (hu : RowB S u (m.row l[i])) (hM : ∃ k, M = (m.gr.succ l[i]).foldl pmeet l ++ k) (hM0 : (0 : Int) ∉ M) (sw : Value)
    (hcont : ∀ lv' rv', Xt ⟨Try.prog, none, 114, [], w0⟩ .normal Q [(2, .pointer (some ⟨b2, 0, none⟩)), (4, .pointer (some ⟨b4, 0, none⟩)), (8, .pointer (some ⟨b8, 0, none⟩)), (9, .func (.func 58) #[] #[.pointer (some ⟨b2, 0, none⟩), .pointer (some ⟨b7, 0, none⟩), .pointer (some ⟨b8, 0, none⟩)]), (10, .pointer (some ⟨b10, 0, none⟩)), (13, .int .i64 (i : Nat)), (15, sw), (16, rv')] (vec rv' 3 1 (m.row l[i]).length (ints (m.gr.prow M l[i])) :: (pcSH L μ b2 b7 b8 mp lv' ((m.gr.succ l[i]).foldl pmeet l) ++ ([sb L.y μ.y, wb L.y μ.y, tb L.y μ.y, sb L.n μ.n, wb L.n μ.n, tb L.n μ.n, wb L.o μ.o, S] ++ hr)))) :
    Cd ⟨Try.prog, none, 114, [], w0⟩ (cdr (cdl (cdr (cdr (cdr (cdl (cdl (cdr (cdl (cdl (cdr (cdl (cdr (cdr (cdr (cdr (cdr (cdr (cdr (fbody Try.f19)))))))))))))))))))) Q [(2, .pointer (some ⟨b2, 0, none⟩)), (4, .pointer (some ⟨b4, 0, none⟩)), (8, .pointer (some ⟨b8, 0, none⟩)), (9, .func (.func 58) #[] #[.pointer (some ⟨b2, 0, none⟩), .pointer (some ⟨b7, 0, none⟩), .pointer (some ⟨b8, 0, none⟩)]), (10, .pointer (some ⟨b10, 0, none⟩)), (13, .int .i64 (i : Nat)), (14, .pointer (some ⟨L.n.sb, 0, none⟩)), (15, sw), (16, .slice none 0 0), (72, u), (73, .int .i64 (m.row l[i]).length), (74, .int .i64 0)] (pcSH L μ b2 b7 b8 mp lv l ++ ([sb L.y μ.y, wb L.y μ.y, tb L.y μ.y, sb L.n μ.n, wb L.n μ.n, tb L.n μ.n, wb L.o μ.o, S] ++ hr)) := by
  have z := h.g.sz
  have h1 := z.Y0; have h2 := z.Y1; have h3 := z.H0; have h4 := z.H1; have h5 := m.base_former
  have hob : AM.Obj ly ln lf l[i] := hl.s _ (List.getElem_mem hi)
  have hbd := h.g.obd ht
  have hlen := (ob_obj h.g hob).len z
  have hsz : m.size l[i] = 1 + (m.row l[i]).length := rfl
  have ok := I.r.okn h.g
  have k1 := ok.us; have k2 := ok.fr; have k3 := ok.ws
  have e1 := I.r.n.fr; have e2 := I.r.n.ln; have e3 := h.g.oldle
  obtain ⟨ua, ucp, hue, _⟩ := id hu
  have hT := h.g.T_le
  have hn0 : ∀ {l'}, PM (AM.Obj ly ln lf) l' → (0 : Int) ∉ l' := fun hp hm => by have := (h.g.obj_bd (hp.s 0 hm)).1; omega
  refine cd_vecnil 3 1 ?_
  refine cd_block (cd_loop (σ := Nat × Value × Value) (fun q => [(2, .pointer (some ⟨b2, 0, none⟩)), (4, .pointer (some ⟨b4, 0, none⟩)), (8, .pointer (some ⟨b8, 0, none⟩)), (9, .func (.func 58) #[] #[.pointer (some ⟨b2, 0, none⟩), .pointer (some ⟨b7, 0, none⟩), .pointer (some ⟨b8, 0, none⟩)]), (10, .pointer (some ⟨b10, 0, none⟩)), (13, .int .i64 (i : Nat)), (14, .pointer (some ⟨L.n.sb, 0, none⟩)), (15, sw), (16, q.2.2), (72, u), (73, .int .i64 (m.row l[i]).length), (74, .int .i64 (q.1 : Nat))]) (fun q => vec q.2.2 3 1 q.1 (ints ((m.gr.prow M l[i]).take q.1)) :: (pcSH L μ b2 b7 b8 mp q.2.1 ((m.gr.succTo l[i] q.1).foldl pmeet l) ++ ([sb L.y μ.y, wb L.y μ.y, tb L.y μ.y, sb L.n μ.n, wb L.n μ.n, tb L.n μ.n, wb L.o μ.o, S] ++ hr))) (fun q => q.1 ≤ (m.row l[i]).length ∧ PM (AM.Obj ly ln lf) ((m.gr.succTo l[i] q.1).foldl pmeet l)) (fun q => (m.row l[i]).length - q.1) (0, lv, .slice none 0 0) ⟨Nat.zero_le _, hl⟩ ⟨rfl, rfl, rfl, rfl, rfl, rfl, rfl, rfl, rfl, rfl, rfl, rfl, trivial⟩ (Sub.refl _) ?_)
  rintro ⟨k, lw, rw_⟩ ⟨hk, hmk⟩
  dsimp only at hk hmk ⊢
  have hmkl := h.g.pm_len hmk
  obtain ⟨ex, hex⟩ := pmeets_pre (m.gr.succTo l[i] k) l
  have hxl : i < ((m.gr.succTo l[i] k).foldl pmeet l).length := by rw [hex, List.length_append]; omega
  have hxi : ((m.gr.succTo l[i] k).foldl pmeet l)[i]? = some l[i] := by rw [hex, List.getElem?_append_left hi, List.getElem?_eq_getElem hi]
  unfold pcSH
  simp only [List.cons_append, List.nil_append]
  refine cd_vecshape (v := lw) (E := 3) (sz := 1) (n := ((m.gr.succTo l[i] k).foldl pmeet l).length) (l := ints ((m.gr.succTo l[i] k).foldl pmeet l)) (by repeat (first | exact Sel.here | apply Sel.there)) fun wa wcp hlw hwa => ?_
  obtain ⟨wbk, rfl⟩ := hwa (by omega)
  have hrdw : Rd (vec lw 3 1 ((m.gr.succTo l[i] k).foldl pmeet l).length (ints ((m.gr.succTo l[i] k).foldl pmeet l))) ⟨wbk, i, none⟩ (.int .i64 l[i]) := rd_vec hlw (by simp only [ints, List.getElem?_map, hxi, Option.map_some])
  refine cd_seq (cd_region (st_v (v_lss rfl rfl) (st_nil (nx_then (cd_seq (cd_cond rfl (fun hc4 => ?_) (fun hc4 => ?_)))))))
  · skip
    have hkl : k < (m.row l[i]).length := by simpa using hc4
    obtain ⟨ub, uo2, ucp', hue2, hrdu⟩ := hu.at hkl
    have hps := Gr.succTo_succ (g := m.gr) (t := l[i]) (k := k) (by rw [gr_len]; exact hkl)
    rw [gr_flag hkl] at hps
    have hpg := prow_get (M := M) hkl
    have hAl : (m.gr.prow M l[i]).length = (m.row l[i]).length := prow_len _ _ _
    have hwd : μ.n.ws.getD (l[i] + 1 + k - μ.n.fr).toNat 0 = m.word (l[i] + 1 + k) := I.r.wordn (by omega) (by omega) (h.g.inner ht (by omega) (by unfold AM.size; omega))
    have hrdx : Rd (wb L.n μ.n) ⟨L.n.wb, (l[i] + 1 + k - μ.n.fr).toNat, none⟩ (.int .i64 (m.word (l[i] + 1 + k))) := by rw [← hwd]; exact rd_ints (by omega)
    refine cd_skip (xt_then (cd_seq (cd_block (cd_seq (cd_region (st_v (v_move rfl) (st_v (v_ixo k (congrArg some hue2) rfl sl73 rfl hkl) (st_v (v_ld rfl ld4) ?_))))))))
    refine st_v (v_assign rfl) (st_v (v_assign rfl) (st_nil (nx_kp [2, 4, 8, 9, 10, 13, 14, 15, 16, 17, 18, 72, 73, 74] rfl (nx_then (cd_seq (cd_drawh (ork [(0, 2), (1, 2), (2, 2), (3, 1), (4, 2), (5, 2), (6, 1), (7, 2), (8, 2), (9, 2), (10, 1), (11, 2), (12, 1), (13, 2)] .nil) (fun _ => true) mixed (by kernel_rfl) ?_))))))
    refine dp_v rfl (v_move rfl) (dp_v rfl (v_nilCheck rfl) (dp_v rfl (v_fieldAddr rfl fa117_0 rfl) (dr_v rfl (v_ld rfl ld34) ?_)))
    refine dp_v rfl (v_move rfl) (dp_v rfl (v_idx i (congrArg some hlw) rfl sl34 rfl hxl) (dr_v rfl (v_ld rfl ld3) ?_))
    refine dp_v rfl (v_add rfl rfl (by unfold I64 at *; omega)) (dp_v rfl (v_move rfl) (dp_v rfl (v_add rfl rfl (by unfold I64 at *; omega)) (dr_clr rfl rfl rfl en61 rfl (word_ct (l := L.n) (s := μ.n) ok (by omega) (by omega)) ?_)))
    refine dp_v rfl (v_nilCheck rfl) (dr_v rfl (v_ld rfl ld3) ?_)
    refine dp_v rfl (v_assign rfl) (dr_nil (nx_kp [2, 4, 8, 9, 10, 13, 14, 15, 16, 18, 19, 72, 73, 74] rfl (nx_then (cd_seq (cd_seq (cd_region (st_v (v_move rfl) (st_nil (nx_kp [2, 4, 8, 9, 10, 13, 14, 15, 16, 19, 72, 73, 74, 92] rfl (nx_then (cd_cond rfl (fun hb => ?_) (fun hb => ?_))))))))))))
    · skip
      rw [hb] at hps hpg
      simp only [if_true] at hps hpg
      have hpm : l[i] + 1 + (k : Int) ∈ m.pl l[i] := mem_pl.2 ⟨k, by rw [List.getElem?_eq_getElem hkl, hb], rfl⟩
      have htk : (m.gr.succTo l[i] (k + 1)).foldl pmeet l = pmeet ((m.gr.succTo l[i] k).foldl pmeet l) (m.seen (m.word (l[i] + 1 + k))) := by rw [hps, pmeets_snoc]
      have hwo := h.g.word_obj hob hpm
      have hidx : idx (pmeet ((m.gr.succTo l[i] k).foldl pmeet l) (m.seen (m.word (l[i] + 1 + k)))) (m.seen (m.word (l[i] + 1 + k))) = idx M (m.seen (m.word (l[i] + 1 + k))) :=
        idx_pre (pre_trans (by rw [← htk]; exact m.gr.meets_to l[i] (k + 1) l) hM) pmeet_has hM0
      have hix := idx_lt (l := M) (t := m.seen (m.word (l[i] + 1 + k)))
      have hmk1 : PM (AM.Obj ly ln lf) ((m.gr.succTo l[i] (k + 1)).foldl pmeet l) := by rw [htk]; exact hmk.meet (h.g.seen_obj hwo)
      have hta : (m.gr.prow M l[i]).take (k + 1) = (m.gr.prow M l[i]).take k ++ [1 + idx M (m.seen (m.word (l[i] + 1 + k)))] := by
        rw [List.take_succ_eq_append_getElem (by omega)]
        rw [List.getElem?_eq_getElem (by omega), Option.some.injEq] at hpg
        rw [hpg]
      refine cd_region (st_v (v_move rfl) (st_v (v_move rfl) (st_cl rfl rfl en58 rfl (hpmeet_ct (b1 := b2) (b2 := b7) (b3 := b8) (mp := mp) (lv := lw) I h hmk hwo) ?_)))
      rintro v' h' ⟨rfl, lv', rfl⟩
      rw [hidx]
      unfold pcSH
      simp only [List.cons_append, List.nil_append]
      refine st_v (v_assign rfl) (st_nil (nx_kp [2, 4, 8, 9, 10, 13, 14, 15, 16, 19, 72, 73, 74] rfl (nx_then (cd_region (st_v (v_move rfl) (st_v (v_move rfl) (st_buildSlice (cells := [.int .i64 (1 + idx M (m.seen (m.word (l[i] + 1 + k))))]) rfl Try.underlying34 inf3 rfl rfl (by kernel_rfl) (ltn rfl) fun b98 => ?_)))))))
      refine st_append (news := [.int .i64 (1 + idx M (m.seen (m.word (l[i] + 1 + k))))]) rfl rfl Try.underlying34 inf3 rfl (ltn rfl) (by repeat (first | exact Sel.here | apply Sel.there)) rfl (fun j u hu => by repeat (first | exact at_here (rd_cl (by simpa using hu)) | apply at_there)) (ones rfl) (by omega) (by omega) (ltn rfl) fun rv' hrv' hv1 => ?_
      refine st_v (v_assign rfl) (st_nil (nx_kp [2, 4, 8, 9, 10, 13, 14, 15, 16, 72, 73, 74] rfl (nx_xt (xt_normal_block (xt_then (cd_region (st_v (v_add rfl rfl (by unfold I64 at *; omega)) (st_v (v_move rfl) (st_nil (nx_kp [2, 4, 8, 9, 10, 13, 14, 15, 16, 72, 73, 74] rfl (nx_xt ?_)))))))))))
      rw [show ints ((m.gr.prow M l[i]).take k) ++ [.int .i64 (1 + idx M (m.seen (m.word (l[i] + 1 + k))))] = ints ((m.gr.prow M l[i]).take (k + 1)) by rw [hta]; simp [ints], ← htk]
      refine xt_ag (k + 1, lv', rv') ⟨hkl, hmk1⟩ (by show _ - _ < _ - _; omega)
    · skip
      rw [hb] at hps hpg
      simp only [Bool.false_eq_true, if_false, List.append_nil] at hps hpg
      have hta : (m.gr.prow M l[i]).take (k + 1) = (m.gr.prow M l[i]).take k ++ [m.word (l[i] + 1 + k)] := by
        rw [List.take_succ_eq_append_getElem (by omega)]
        rw [List.getElem?_eq_getElem (by omega), Option.some.injEq] at hpg
        rw [hpg]
      refine cd_skip (xt_then (cd_region (st_v (v_move rfl) (st_v (v_move rfl) (st_buildSlice (cells := [.int .i64 (m.word (l[i] + 1 + k))]) rfl Try.underlying34 inf3 rfl rfl (by kernel_rfl) (ltn rfl) fun b98 => ?_)))))
      refine st_append (news := [.int .i64 (m.word (l[i] + 1 + k))]) rfl rfl Try.underlying34 inf3 rfl (ltn rfl) (by repeat (first | exact Sel.here | apply Sel.there)) rfl (fun j u hu => by repeat (first | exact at_here (rd_cl (by simpa using hu)) | apply at_there)) (ones rfl) (by omega) (by omega) (ltn rfl) fun rv' hrv' hv1 => ?_
      refine st_v (v_assign rfl) (st_nil (nx_kp [2, 4, 8, 9, 10, 13, 14, 15, 16, 72, 73, 74] rfl (nx_xt (xt_normal_block (xt_then (cd_region (st_v (v_add rfl rfl (by unfold I64 at *; omega)) (st_v (v_move rfl) (st_nil (nx_kp [2, 4, 8, 9, 10, 13, 14, 15, 16, 72, 73, 74] rfl (nx_xt ?_)))))))))))
      rw [show ints ((m.gr.prow M l[i]).take k) ++ [.int .i64 (m.word (l[i] + 1 + k))] = ints ((m.gr.prow M l[i]).take (k + 1)) by rw [hta]; simp [ints], ← hps]
      refine xt_ag (k + 1, lw, rv') ⟨hkl, by rw [hps]; exact hmk⟩ (by show _ - _ < _ - _; omega)
  · skip
    have hkg : k = (m.row l[i]).length := by
      have : ¬ k < (m.row l[i]).length := by simpa using hc4
      omega
    have hpa : m.gr.succTo l[i] k = m.gr.succ l[i] := by rw [hkg, ← gr_len]; exact Gr.succTo_all _ _
    have hAl : (m.gr.prow M l[i]).length = (m.row l[i]).length := prow_len _ _ _
    rw [hpa, List.take_of_length_le (by omega), hkg]
    refine cd_exit (xt_exit_then (xt_exit_then (xt_exit_block ?_)))
    have hc := hcont lw rw_
    unfold pcSH at hc
    simp only [List.cons_append, List.nil_append] at hc
    exact xt_use hc
set_option maxHeartbeats 2000000 in
set_option maxRecDepth 100000 in
/-- A row of a picture, of an object there. -/
theorem hrow_o_c (I : MI L μ S m) (h : AM.Good m ly ln lf φ A) {i : Nat} (hi : i < l.length) (ht : l[i] ∈ lf) (hl : PM (AM.Obj ly ln lf) l) (hu : RowB S u (m.row l[i])) (hM : ∃ k, M = (m.gr.succ l[i]).foldl pmeet l ++ k) (hM0 : (0 : Int) ∉ M) (sw : Value)
    (hcont : ∀ lv' rv', Xt ⟨Try.prog, none, 114, [], w0⟩ .normal Q [(2, .pointer (some ⟨b2, 0, none⟩)), (4, .pointer (some ⟨b4, 0, none⟩)), (8, .pointer (some ⟨b8, 0, none⟩)), (9, .func (.func 58) #[] #[.pointer (some ⟨b2, 0, none⟩), .pointer (some ⟨b7, 0, none⟩), .pointer (some ⟨b8, 0, none⟩)]), (10, .pointer (some ⟨b10, 0, none⟩)), (13, .int .i64 (i : Nat)), (15, sw), (16, rv')] (vec rv' 3 1 (m.row l[i]).length (ints (m.gr.prow M l[i])) :: (pcSH L μ b2 b7 b8 mp lv' ((m.gr.succ l[i]).foldl pmeet l) ++ ([sb L.y μ.y, wb L.y μ.y, tb L.y μ.y, sb L.n μ.n, wb L.n μ.n, tb L.n μ.n, wb L.o μ.o, S] ++ hr)))) :
    Cd ⟨Try.prog, none, 114, [], w0⟩ (cdr (cdl (cdr (cdr (cdr (cdl (cdl (cdr (cdl (cdl (cdr (cdl (cdr (cdr (cdr (cdr (cdr (cdr (cdr (fbody Try.f19)))))))))))))))))))) Q [(2, .pointer (some ⟨b2, 0, none⟩)), (4, .pointer (some ⟨b4, 0, none⟩)), (8, .pointer (some ⟨b8, 0, none⟩)), (9, .func (.func 58) #[] #[.pointer (some ⟨b2, 0, none⟩), .pointer (some ⟨b7, 0, none⟩), .pointer (some ⟨b8, 0, none⟩)]), (10, .pointer (some ⟨b10, 0, none⟩)), (13, .int .i64 (i : Nat)), (14, .pointer (some ⟨L.o.sb, 0, none⟩)), (15, sw), (16, .slice none 0 0), (72, u), (73, .int .i64 (m.row l[i]).length), (74, .int .i64 0)] (pcSH L μ b2 b7 b8 mp lv l ++ ([sb L.y μ.y, wb L.y μ.y, tb L.y μ.y, sb L.n μ.n, wb L.n μ.n, tb L.n μ.n, wb L.o μ.o, S] ++ hr)) := by
  have z := h.g.sz
  have h1 := z.Y0; have h2 := z.Y1; have h3 := z.H0; have h4 := z.H1; have h5 := m.base_former
  have hob : AM.Obj ly ln lf l[i] := hl.s _ (List.getElem_mem hi)
  have hbd := h.g.fbd ht
  have hlen := (ob_obj h.g hob).len z
  have hsz : m.size l[i] = 1 + (m.row l[i]).length := rfl
  have ok := I.r.oko h.g
  have k1 := ok.us; have k2 := ok.fr; have k3 := ok.ws
  obtain ⟨uo, o1, o2⟩ := I.r.o; have e1 := o1.fr; have e2 := o1.ln; have e3 := o1.us; have e4 := o2 l[i] (by omega) (by omega) (h.g.fhead ht)
  obtain ⟨ua, ucp, hue, _⟩ := id hu
  have hT := h.g.T_le
  have hn0 : ∀ {l'}, PM (AM.Obj ly ln lf) l' → (0 : Int) ∉ l' := fun hp hm => by have := (h.g.obj_bd (hp.s 0 hm)).1; omega
  refine cd_vecnil 3 1 ?_
  refine cd_block (cd_loop (σ := Nat × Value × Value) (fun q => [(2, .pointer (some ⟨b2, 0, none⟩)), (4, .pointer (some ⟨b4, 0, none⟩)), (8, .pointer (some ⟨b8, 0, none⟩)), (9, .func (.func 58) #[] #[.pointer (some ⟨b2, 0, none⟩), .pointer (some ⟨b7, 0, none⟩), .pointer (some ⟨b8, 0, none⟩)]), (10, .pointer (some ⟨b10, 0, none⟩)), (13, .int .i64 (i : Nat)), (14, .pointer (some ⟨L.o.sb, 0, none⟩)), (15, sw), (16, q.2.2), (72, u), (73, .int .i64 (m.row l[i]).length), (74, .int .i64 (q.1 : Nat))]) (fun q => vec q.2.2 3 1 q.1 (ints ((m.gr.prow M l[i]).take q.1)) :: (pcSH L μ b2 b7 b8 mp q.2.1 ((m.gr.succTo l[i] q.1).foldl pmeet l) ++ ([sb L.y μ.y, wb L.y μ.y, tb L.y μ.y, sb L.n μ.n, wb L.n μ.n, tb L.n μ.n, wb L.o μ.o, S] ++ hr))) (fun q => q.1 ≤ (m.row l[i]).length ∧ PM (AM.Obj ly ln lf) ((m.gr.succTo l[i] q.1).foldl pmeet l)) (fun q => (m.row l[i]).length - q.1) (0, lv, .slice none 0 0) ⟨Nat.zero_le _, hl⟩ ⟨rfl, rfl, rfl, rfl, rfl, rfl, rfl, rfl, rfl, rfl, rfl, rfl, trivial⟩ (Sub.refl _) ?_)
  rintro ⟨k, lw, rw_⟩ ⟨hk, hmk⟩
  dsimp only at hk hmk ⊢
  have hmkl := h.g.pm_len hmk
  obtain ⟨ex, hex⟩ := pmeets_pre (m.gr.succTo l[i] k) l
  have hxl : i < ((m.gr.succTo l[i] k).foldl pmeet l).length := by rw [hex, List.length_append]; omega
  have hxi : ((m.gr.succTo l[i] k).foldl pmeet l)[i]? = some l[i] := by rw [hex, List.getElem?_append_left hi, List.getElem?_eq_getElem hi]
  unfold pcSH
  simp only [List.cons_append, List.nil_append]
  refine cd_vecshape (v := lw) (E := 3) (sz := 1) (n := ((m.gr.succTo l[i] k).foldl pmeet l).length) (l := ints ((m.gr.succTo l[i] k).foldl pmeet l)) (by repeat (first | exact Sel.here | apply Sel.there)) fun wa wcp hlw hwa => ?_
  obtain ⟨wbk, rfl⟩ := hwa (by omega)
  have hrdw : Rd (vec lw 3 1 ((m.gr.succTo l[i] k).foldl pmeet l).length (ints ((m.gr.succTo l[i] k).foldl pmeet l))) ⟨wbk, i, none⟩ (.int .i64 l[i]) := rd_vec hlw (by simp only [ints, List.getElem?_map, hxi, Option.map_some])
  refine cd_seq (cd_region (st_v (v_lss rfl rfl) (st_nil (nx_then (cd_seq (cd_cond rfl (fun hc4 => ?_) (fun hc4 => ?_)))))))
  · skip
    have hkl : k < (m.row l[i]).length := by simpa using hc4
    obtain ⟨ub, uo2, ucp', hue2, hrdu⟩ := hu.at hkl
    have hps := Gr.succTo_succ (g := m.gr) (t := l[i]) (k := k) (by rw [gr_len]; exact hkl)
    rw [gr_flag hkl] at hps
    have hpg := prow_get (M := M) hkl
    have hAl : (m.gr.prow M l[i]).length = (m.row l[i]).length := prow_len _ _ _
    have hwd : μ.o.ws.getD (l[i] + 1 + k - μ.o.fr).toNat 0 = m.word (l[i] + 1 + k) := (by rw [o1.wd _ (by omega), show m.former + (((l[i] + 1 + k - μ.o.fr).toNat : Nat) : Int) = l[i] + 1 + k by omega, hw_word (Gd.innerf h.g ht (by omega) (by unfold AM.size; omega))])
    have hrdx : Rd (wb L.o μ.o) ⟨L.o.wb, (l[i] + 1 + k - μ.o.fr).toNat, none⟩ (.int .i64 (m.word (l[i] + 1 + k))) := by rw [← hwd]; exact rd_ints (by omega)
    refine cd_skip (xt_then (cd_seq (cd_block (cd_seq (cd_region (st_v (v_move rfl) (st_v (v_ixo k (congrArg some hue2) rfl sl73 rfl hkl) (st_v (v_ld rfl ld4) ?_))))))))
    refine st_v (v_assign rfl) (st_v (v_assign rfl) (st_nil (nx_kp [2, 4, 8, 9, 10, 13, 14, 15, 16, 17, 18, 72, 73, 74] rfl (nx_then (cd_seq (cd_drawh (ork [(0, 2), (1, 2), (2, 2), (3, 1), (4, 2), (5, 2), (6, 1), (7, 2), (8, 2), (9, 2), (10, 1), (11, 2), (12, 1), (13, 2)] .nil) (fun _ => true) mixed (by kernel_rfl) ?_))))))
    refine dp_v rfl (v_move rfl) (dp_v rfl (v_nilCheck rfl) (dp_v rfl (v_fieldAddr rfl fa117_0 rfl) (dr_v rfl (v_ld rfl ld34) ?_)))
    refine dp_v rfl (v_move rfl) (dp_v rfl (v_idx i (congrArg some hlw) rfl sl34 rfl hxl) (dr_v rfl (v_ld rfl ld3) ?_))
    refine dp_v rfl (v_add rfl rfl (by unfold I64 at *; omega)) (dp_v rfl (v_move rfl) (dp_v rfl (v_add rfl rfl (by unfold I64 at *; omega)) (dr_clr rfl rfl rfl en61 rfl (word_ct (l := L.o) (s := μ.o) ok (by omega) (by omega)) ?_)))
    refine dp_v rfl (v_nilCheck rfl) (dr_v rfl (v_ld rfl ld3) ?_)
    refine dp_v rfl (v_assign rfl) (dr_nil (nx_kp [2, 4, 8, 9, 10, 13, 14, 15, 16, 18, 19, 72, 73, 74] rfl (nx_then (cd_seq (cd_seq (cd_region (st_v (v_move rfl) (st_nil (nx_kp [2, 4, 8, 9, 10, 13, 14, 15, 16, 19, 72, 73, 74, 92] rfl (nx_then (cd_cond rfl (fun hb => ?_) (fun hb => ?_))))))))))))
    · skip
      rw [hb] at hps hpg
      simp only [if_true] at hps hpg
      have hpm : l[i] + 1 + (k : Int) ∈ m.pl l[i] := mem_pl.2 ⟨k, by rw [List.getElem?_eq_getElem hkl, hb], rfl⟩
      have htk : (m.gr.succTo l[i] (k + 1)).foldl pmeet l = pmeet ((m.gr.succTo l[i] k).foldl pmeet l) (m.seen (m.word (l[i] + 1 + k))) := by rw [hps, pmeets_snoc]
      have hwo := h.g.word_obj hob hpm
      have hidx : idx (pmeet ((m.gr.succTo l[i] k).foldl pmeet l) (m.seen (m.word (l[i] + 1 + k)))) (m.seen (m.word (l[i] + 1 + k))) = idx M (m.seen (m.word (l[i] + 1 + k))) :=
        idx_pre (pre_trans (by rw [← htk]; exact m.gr.meets_to l[i] (k + 1) l) hM) pmeet_has hM0
      have hix := idx_lt (l := M) (t := m.seen (m.word (l[i] + 1 + k)))
      have hmk1 : PM (AM.Obj ly ln lf) ((m.gr.succTo l[i] (k + 1)).foldl pmeet l) := by rw [htk]; exact hmk.meet (h.g.seen_obj hwo)
      have hta : (m.gr.prow M l[i]).take (k + 1) = (m.gr.prow M l[i]).take k ++ [1 + idx M (m.seen (m.word (l[i] + 1 + k)))] := by
        rw [List.take_succ_eq_append_getElem (by omega)]
        rw [List.getElem?_eq_getElem (by omega), Option.some.injEq] at hpg
        rw [hpg]
      refine cd_region (st_v (v_move rfl) (st_v (v_move rfl) (st_cl rfl rfl en58 rfl (hpmeet_ct (b1 := b2) (b2 := b7) (b3 := b8) (mp := mp) (lv := lw) I h hmk hwo) ?_)))
      rintro v' h' ⟨rfl, lv', rfl⟩
      rw [hidx]
      unfold pcSH
      simp only [List.cons_append, List.nil_append]
      refine st_v (v_assign rfl) (st_nil (nx_kp [2, 4, 8, 9, 10, 13, 14, 15, 16, 19, 72, 73, 74] rfl (nx_then (cd_region (st_v (v_move rfl) (st_v (v_move rfl) (st_buildSlice (cells := [.int .i64 (1 + idx M (m.seen (m.word (l[i] + 1 + k))))]) rfl Try.underlying34 inf3 rfl rfl (by kernel_rfl) (ltn rfl) fun b98 => ?_)))))))
      refine st_append (news := [.int .i64 (1 + idx M (m.seen (m.word (l[i] + 1 + k))))]) rfl rfl Try.underlying34 inf3 rfl (ltn rfl) (by repeat (first | exact Sel.here | apply Sel.there)) rfl (fun j u hu => by repeat (first | exact at_here (rd_cl (by simpa using hu)) | apply at_there)) (ones rfl) (by omega) (by omega) (ltn rfl) fun rv' hrv' hv1 => ?_
      refine st_v (v_assign rfl) (st_nil (nx_kp [2, 4, 8, 9, 10, 13, 14, 15, 16, 72, 73, 74] rfl (nx_xt (xt_normal_block (xt_then (cd_region (st_v (v_add rfl rfl (by unfold I64 at *; omega)) (st_v (v_move rfl) (st_nil (nx_kp [2, 4, 8, 9, 10, 13, 14, 15, 16, 72, 73, 74] rfl (nx_xt ?_)))))))))))
      rw [show ints ((m.gr.prow M l[i]).take k) ++ [.int .i64 (1 + idx M (m.seen (m.word (l[i] + 1 + k))))] = ints ((m.gr.prow M l[i]).take (k + 1)) by rw [hta]; simp [ints], ← htk]
      refine xt_ag (k + 1, lv', rv') ⟨hkl, hmk1⟩ (by show _ - _ < _ - _; omega)
    · skip
      rw [hb] at hps hpg
      simp only [Bool.false_eq_true, if_false, List.append_nil] at hps hpg
      have hta : (m.gr.prow M l[i]).take (k + 1) = (m.gr.prow M l[i]).take k ++ [m.word (l[i] + 1 + k)] := by
        rw [List.take_succ_eq_append_getElem (by omega)]
        rw [List.getElem?_eq_getElem (by omega), Option.some.injEq] at hpg
        rw [hpg]
      refine cd_skip (xt_then (cd_region (st_v (v_move rfl) (st_v (v_move rfl) (st_buildSlice (cells := [.int .i64 (m.word (l[i] + 1 + k))]) rfl Try.underlying34 inf3 rfl rfl (by kernel_rfl) (ltn rfl) fun b98 => ?_)))))
      refine st_append (news := [.int .i64 (m.word (l[i] + 1 + k))]) rfl rfl Try.underlying34 inf3 rfl (ltn rfl) (by repeat (first | exact Sel.here | apply Sel.there)) rfl (fun j u hu => by repeat (first | exact at_here (rd_cl (by simpa using hu)) | apply at_there)) (ones rfl) (by omega) (by omega) (ltn rfl) fun rv' hrv' hv1 => ?_
      refine st_v (v_assign rfl) (st_nil (nx_kp [2, 4, 8, 9, 10, 13, 14, 15, 16, 72, 73, 74] rfl (nx_xt (xt_normal_block (xt_then (cd_region (st_v (v_add rfl rfl (by unfold I64 at *; omega)) (st_v (v_move rfl) (st_nil (nx_kp [2, 4, 8, 9, 10, 13, 14, 15, 16, 72, 73, 74] rfl (nx_xt ?_)))))))))))
      rw [show ints ((m.gr.prow M l[i]).take k) ++ [.int .i64 (m.word (l[i] + 1 + k))] = ints ((m.gr.prow M l[i]).take (k + 1)) by rw [hta]; simp [ints], ← hps]
      refine xt_ag (k + 1, lw, rv') ⟨hkl, by rw [hps]; exact hmk⟩ (by show _ - _ < _ - _; omega)
  · skip
    have hkg : k = (m.row l[i]).length := by
      have : ¬ k < (m.row l[i]).length := by simpa using hc4
      omega
    have hpa : m.gr.succTo l[i] k = m.gr.succ l[i] := by rw [hkg, ← gr_len]; exact Gr.succTo_all _ _
    have hAl : (m.gr.prow M l[i]).length = (m.row l[i]).length := prow_len _ _ _
    rw [hpa, List.take_of_length_le (by omega), hkg]
    refine cd_exit (xt_exit_then (xt_exit_then (xt_exit_block ?_)))
    have hc := hcont lw rw_
    unfold pcSH at hc
    simp only [List.cons_append, List.nil_append] at hc
    exact xt_use hc
end
end Go.Proofs.Ytmhmpjgkkpbnnaa
