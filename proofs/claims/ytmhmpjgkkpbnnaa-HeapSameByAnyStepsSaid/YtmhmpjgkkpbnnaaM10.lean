/-
  What the arguments of the laws read as: shapes, rows, numbers, acts. No condition.
  Pictures: their parts, and what holds them; objects of the plain machine. Conditions: what the heap holds, that the machine is in order.
  Pictures of package heap: seen, in, meet. Conditions: what the heap holds, that the machine is in order.
-/
import Derived.Test.YtmhmpjgkkpbnnaaM9
import Derived.Test.YtmhmpjgkkpbnnaaM2
import Derived.JoinedCond
import Derived.Test.YtmhmpjgkkpbnnaaM4
namespace Go.Ck
open Go Go.RowKit Go.ChangeShapes Go.WideShapes
theorem cells_one {v : Value} (h : v.oneCell' = true) : v.cells.toList = [v] := by
  cases v <;> first | rfl | (simp [Value.oneCell'] at h)
/-- An argument of one cell. -/
theorem arg_one {H : Type} {enc : TypeId × Value → H} {P : Program} {W : World} {ty : Ty} {t : TypeId} {v : Value} {d : DataW H} {ps : List MemPlace} {b : Nat} (hf : fitB P ty t = true)
    (hs : (match P.underlying t with | some (.struct _) | some (.array _ _) => false | some _ => true | none => false) = true) (hv : Value.okWide P W .any b t v) (h : DataW.Trod enc P W 0 (fun _ => true) true t v d ps) : ∃ y, Rep (old W) ty [v] y := by
  have := arg_rep hf h
  rwa [cells_one (okWide_one hs hv)] at this
theorem rep_int {r : Res} {v : Value} {n : Int} (h : Rep r (.int .i64) [v] n) : v = .int .i64 n ∧ (Lit.int .i64 n).wf = true := by
  simp only [Rep] at h
  exact ⟨by simpa using h.1, h.2⟩
end Go.Ck
namespace Go.Proofs.Ytmhmpjgkkpbnnaa
open Go Go.RowKit Go.ChangeShapes Go.WideShapes Go.Ck
theorem own' : ownKnob Try.prog.godebug = none := by kernel_rfl
theorem wf_I64' {n : Int} (h : (Lit.int .i64 n).wf = true) : I64 n := by
  unfold Lit.wf at h
  simp [IntKind.min, IntKind.max, IntKind.signed, IntKind.bits] at h
  unfold I64; omega
theorem rds_one {r : Res} {b o : Nat} {us : List Value} (hl : us.length = 1) (h : Rds r b o us) : ∃ u, us = [u] ∧ Rd r ⟨b, o, none⟩ u := by
  match us, hl with
  | [u], _ => exact ⟨u, rfl, by have := h 0 (by simp); rwa [Nat.add_zero] at this⟩
theorem rowB_of {r : Res} {u : Value} {y : (Ty.slice .bool).D} (h : Rep r (.slice .bool) [u] y) : RowB r u (show List Bool from y) := by
  simp only [Rep] at h
  obtain ⟨a, cap, h1, _, _, _, h2⟩ := h
  refine ⟨a, cap, (List.cons.inj h1).1, h2.imp id ?_⟩
  rintro ⟨b, o, h3, h4⟩
  refine ⟨b, o, h3, fun j hj => ?_⟩
  obtain ⟨us, h5, h6, h7⟩ := h4 j _ (List.getElem?_eq_getElem hj)
  obtain ⟨u, rfl, h8⟩ := rds_one h5 h6
  rw [show o + j = o + j * Ty.bool.sz by simp [Ty.sz]]
  have : u = .bool ((show List Bool from y)[j]) := by simpa using h7
  rw [← this]; exact h8
theorem rowI_of {r : Res} {u : Value} {y : (Ty.slice (.int .i64)).D} (h : Rep r (.slice (.int .i64)) [u] y) : RowI r u (show List Int from y) := by
  simp only [Rep] at h
  obtain ⟨a, cap, h1, _, _, _, h2⟩ := h
  refine ⟨a, cap, (List.cons.inj h1).1, h2.imp id ?_⟩
  rintro ⟨b, o, h3, h4⟩
  refine ⟨b, o, h3, fun j hj => ?_⟩
  obtain ⟨us, h5, h6, h7⟩ := h4 j _ (List.getElem?_eq_getElem hj)
  obtain ⟨u, rfl, h8⟩ := rds_one h5 h6
  rw [show o + j = o + j * (Ty.int .i64).sz by simp [Ty.sz]]
  have : u = .int .i64 ((show List Int from y)[j]) := by simpa using h7.1
  rw [← this]; exact h8
theorem shp_of {r : Res} {v : Value} {y : (Ty.slice (.slice .bool)).D} (h : Rep r (.slice (.slice .bool)) [v] y) : Shp r v (show List (List Bool) from y) ∧ (show List (List Bool) from y).length ≤ maxLen := by
  unfold Rep at h
  obtain ⟨a, cap, h1, hl, hm, _, h2⟩ := h
  refine ⟨⟨a, cap, (List.cons.inj h1).1, h2.imp id ?_⟩, Nat.le_trans hl hm⟩
  rintro ⟨b, o, h3, h4⟩
  refine ⟨b, o, h3, fun i hi => ?_⟩
  obtain ⟨us, h5, h6, h7⟩ := h4 i _ (List.getElem?_eq_getElem hi)
  obtain ⟨u, rfl, h8⟩ := rds_one h5 h6
  exact ⟨u, by rw [show o + i = o + i * (Ty.slice .bool).sz by simp [Ty.sz]]; exact h8, rowB_of h7⟩
theorem rep_kind {k : IntKind} {r : Res} {v : Value} {n : Int} (h : Rep r (.int k) [v] n) : v = .int k n ∧ (Lit.int k n).wf = true := by
  simp only [Rep] at h
  exact ⟨by simpa using h.1, h.2⟩
theorem wf_u16 {n : Int} (h : (Lit.int .u16 n).wf = true) : 0 ≤ n ∧ n < 65536 := by
  unfold Lit.wf at h
  simp [IntKind.min, IntKind.max, IntKind.signed, IntKind.bits] at h
  omega
theorem wf_u8 {n : Int} (h : (Lit.int .u8 n).wf = true) : 0 ≤ n ∧ n < 256 := by
  unfold Lit.wf at h
  simp [IntKind.min, IntKind.max, IntKind.signed, IntKind.bits] at h
  omega
end Go.Proofs.Ytmhmpjgkkpbnnaa
namespace Go.Proofs.Ytmhmpjgkkpbnnaa
open Go.Ck Fx Go.Hm Go.Hm.AM
attribute [local irreducible] St Cd Xt Nx DrL LsW
/-- Rows of numbers, each with a block of its own. -/
def rowsI (us : List Value) (rows : List (List Int)) : SH := (us.zip rows).map fun q => vec q.1 3 1 q.2.length (ints q.2)
theorem rowsI_snoc {us : List Value} {rows : List (List Int)} {u : Value} {l : List Int} (h : us.length = rows.length) : rowsI (us ++ [u]) (rows ++ [l]) = rowsI us rows ++ [vec u 3 1 l.length (ints l)] := by
  unfold rowsI
  rw [List.zip_append h]; simp
/-- v is a list of rows of numbers, which r holds. -/
def RowsI (r : Res) (v : Value) (rows : List (List Int)) : Prop := ∃ a cp, v = .slice a rows.length cp ∧ (rows = [] ∨ ∃ b o, a = some ⟨b, o, none⟩ ∧ ∀ i (h : i < rows.length), ∃ u, Rd r ⟨b, o + i, none⟩ u ∧ RowI r u rows[i])
theorem RowsI.row {r : Res} {v : Value} {rows : List (List Int)} (h : RowsI r v rows) {i : Nat} (hi : i < rows.length) : ∃ b o cp u, v = .slice (some ⟨b, o, none⟩) rows.length cp ∧ Rd r ⟨b, o + i, none⟩ u ∧ RowI r u rows[i] := by
  obtain ⟨a, cp, hv, hn⟩ := h
  rcases hn with e | ⟨b, o, ha, hr⟩
  · rw [e] at hi; simp at hi
  obtain ⟨u, h1, h2⟩ := hr i hi
  exact ⟨b, o, cp, u, by rw [hv, ha], h1, h2⟩
/-- What the slices of a picture look like. -/
structure PF (sv fv rv : Value) (us : List Value) (p : Pic) : Prop where
  s : VForm sv p.shapes.length (ints p.shapes)
  r : VForm rv p.roots.length (ints p.roots)
  f : VForm fv p.fields.length us
  l : us.length = p.fields.length
  u : ∀ (j : Nat) (u : Value) (l : List Int), us[j]? = some u → p.fields[j]? = some l → VForm u l.length (ints l)
def pR (sv fv rv : Value) (us : List Value) (p : Pic) : Res := Res.star [vec sv 3 1 p.shapes.length (ints p.shapes), vec rv 3 1 p.roots.length (ints p.roots), vec fv 34 1 p.fields.length us, Res.star (rowsI us p.fields)]
/-- A picture that r holds. -/
structure PicV (r : Res) (sv fv rv : Value) (p : Pic) : Prop where
  ps : RowI r sv p.shapes
  pr : RowI r rv p.roots
  pf : RowsI r fv p.fields
theorem rowI_star2 {k : SH} {r : Res} {v : Value} {l : List Int} (hm : r ∈ k) (h : RowI r v l) : RowI (Res.star k) v l := by
  obtain ⟨a, cp, h1, h2 | ⟨b, o, h3, h4⟩⟩ := h
  · exact ⟨a, cp, h1, .inl h2⟩
  · exact ⟨a, cp, h1, .inr ⟨b, o, h3, fun j hj => rd_star_mem hm (h4 j hj)⟩⟩
theorem rowI_star {k : SH} {v : Value} {l : List Int} (hm : vec v 3 1 l.length (ints l) ∈ k) (hv : VForm v l.length (ints l)) : RowI (Res.star k) v l := by
  rcases hv with ⟨h1, h2, h3⟩ | ⟨b', cp', h1⟩
  · refine ⟨none, 0, by rw [h1, h2], .inl (List.eq_nil_of_length_eq_zero h2)⟩
  · refine ⟨_, cp', h1, .inr ⟨b', 0, rfl, fun j hj => ?_⟩⟩
    rw [Nat.zero_add]
    exact rd_star_mem hm (rd_vec h1 (by simp [ints, hj]))
theorem PF.v {sv fv rv : Value} {us : List Value} {p : Pic} (h : PF sv fv rv us p) : PicV (pR sv fv rv us p) sv fv rv p := by
  have hl := h.l
  refine ⟨rowI_star (by simp) h.s, rowI_star (by simp) h.r, ?_⟩
  rcases h.f with ⟨h0, h1, h2⟩ | ⟨b, cp, h0⟩
  · exact ⟨none, 0, by rw [h0, h1], .inl (List.eq_nil_of_length_eq_zero h1)⟩
  · refine ⟨_, cp, h0, .inr ⟨b, 0, rfl, fun i hi => ⟨us[i]'(by omega), ?_, ?_⟩⟩⟩
    · rw [Nat.zero_add]
      exact rd_star_mem (r := vec fv 34 1 p.fields.length us) (by simp) (rd_vec h0 (List.getElem?_eq_getElem (by omega)))
    · refine rowI_star2 (r := Res.star (rowsI us p.fields)) (by simp) (rowI_star ?_ (h.u i _ _ (List.getElem?_eq_getElem (by omega)) (List.getElem?_eq_getElem hi)))
      have hm : vec (us[i]'(by omega)) 3 1 p.fields[i].length (ints p.fields[i]) ∈ rowsI us p.fields := by
        refine List.mem_map.2 ⟨(us[i]'(by omega), p.fields[i]), ?_, rfl⟩
        have : (us.zip p.fields)[i]'(by simp; omega) = (us[i]'(by omega), p.fields[i]) := by simp
        rw [← this]; exact List.getElem_mem _
      exact hm
theorem row_step {A : List Int} {k n : Nat} (hA : A.length = n) (hk : k < n) (x : Int) : (A.take k ++ List.replicate (n - k) 0).set k x = A.take k ++ x :: List.replicate (n - (k + 1)) 0 := by
  rw [List.set_append_right _ _ (by rw [List.length_take]; omega), List.length_take, Nat.min_eq_left (by omega), Nat.sub_self, show n - k = (n - (k + 1)) + 1 by omega, List.replicate_succ, List.set_cons_zero]
theorem row_step2 {A : List Int} {k n : Nat} (hA : A.length = n) (hk : k < n) (x y : Int) : (A.take k ++ x :: List.replicate (n - (k + 1)) 0).set k y = A.take k ++ y :: List.replicate (n - (k + 1)) 0 := by
  rw [List.set_append_right _ _ (by rw [List.length_take]; omega), List.length_take, Nat.min_eq_left (by omega), Nat.sub_self, List.set_cons_zero]
theorem row_next {A : List Int} {k n : Nat} (hA : A.length = n) (hk : k < n) {x : Int} (hx : A[k]? = some x) : A.take k ++ x :: List.replicate (n - (k + 1)) 0 = A.take (k + 1) ++ List.replicate (n - (k + 1)) 0 := by
  rw [List.getElem?_eq_getElem (by omega)] at hx
  rw [List.take_succ_eq_append_getElem (by omega), List.append_assoc]
  cases hx; rfl
theorem row_get {A : List Int} {k n : Nat} (hA : A.length = n) (hk : k < n) (x : Int) : (A.take k ++ x :: List.replicate (n - (k + 1)) 0)[k]? = some x := by
  rw [List.getElem?_append_right (by rw [List.length_take]; omega), List.length_take, Nat.min_eq_left (by omega), Nat.sub_self]; rfl
section
variable {m : AM} {S R : Res} {t k a : Int} {ly ln lf N rl rs : List Int} {sp : Int} {v : Value} {roots : List Int} {φ : Int → Option Nat} {A : Store}
/-- An object of the machine: its address is in the memory, and its shape is one of those that there are. -/
structure Ob (m : AM) (t : Int) : Prop where
  t0 : 0 ≤ t
  t1 : t < m.Y + 2 * m.H + 1
  h0 : 0 < m.head t
  h1 : m.head t ≤ m.sh.length
  h2 : t + m.size t ≤ m.Y + 2 * m.H + 1
theorem ob_y (h : Gd m ly ln lf N rl sp rs) {t : Int} (ht : t ∈ ly) : Ob m t := by
  have h1 := h.ybd ht; have h2 := h.yl; have h3 := h.sz.H0
  exact ⟨by omega, by omega, h.yhead ht, h.y.ok t ht, by omega⟩
theorem ob_n (h : Gd m ly ln lf N rl sp rs) {t : Int} (ht : t ∈ ln) : Ob m t := by
  have h1 := h.obd ht; have h2 := h.oldle; have h3 := h.sz.H0; have h4 := h.sz.Y0; have h5 := m.base_former
  exact ⟨by omega, by omega, h.ohead ht, h.o.ok t ht, by omega⟩
theorem ob_f (h : Gd m ly ln lf N rl sp rs) {t : Int} (ht : t ∈ lf) : Ob m t := by
  obtain ⟨fe, h6, h7⟩ := h.f
  have h1 := h.fbd ht; have h3 := h.sz.H0; have h4 := h.sz.Y0; have h5 := m.base_former
  exact ⟨by omega, by omega, h.fhead ht, h7.ok t ht, by omega⟩
theorem ob_cur (h : Gd m ly ln lf N rl sp rs) {t : Int} (hc : m.cur t = true) : Ob m t := by
  rcases h.cur_iff.1 hc with h1 | h1
  · exact ob_y h h1
  · exact ob_n h h1
theorem Ob.i (o : Ob m t) : (m.head t - 1).toNat < m.sh.length := by have := o.h0; have := o.h1; omega
theorem Ob.row (o : Ob m t) : m.row t = m.sh[(m.head t - 1).toNat]'o.i := by
  unfold AM.row; rw [List.getD_eq_getElem?_getD, List.getElem?_eq_getElem o.i]; rfl
theorem Ob.len (o : Ob m t) (z : Sz m) : (m.row t).length ≤ 100 := by rw [o.row]; exact z.w _ (List.getElem_mem _)
theorem ob_obj (h : Gd m ly ln lf N rl sp rs) {t : Int} (ht : AM.Obj ly ln lf t) : Ob m t := by
  rcases ht with ht | ht | ht
  · exact ob_y h ht
  · exact ob_n h ht
  · exact ob_f h ht
/-- The parts of a picture, as they grow. -/
theorem pic_parts (m : AM) (roots : List Int) : (m.pic roots).shapes = (m.gr.met m.T roots).map (fun t => m.head t - 1) ∧ (m.pic roots).fields = (m.gr.met m.T roots).map (m.gr.prow (m.gr.met m.T roots)) ∧ (m.pic roots).roots = roots.map fun r => 1 + idx (m.gr.met m.T roots) r := ⟨rfl, rfl, rfl⟩
theorem take_map_succ {α β : Type} {f : α → β} {l : List α} {i : Nat} (h : i < l.length) : (l.map f).take (i + 1) = (l.map f).take i ++ [f l[i]] := by
  rw [List.take_succ_eq_append_getElem (by simpa using h)]; simp
theorem gr_flag {k : Nat} (hk : k < (m.row t).length) : ((m.gr.fs t)[k]'(by rw [gr_len]; exact hk)) = ((m.row t)[k], if (m.row t)[k] then m.seen (m.word (t + 1 + k)) else m.word (t + 1 + k)) := by
  rw [gr_get, List.getD_eq_getElem?_getD, List.getElem?_eq_getElem hk]; rfl
theorem prow_len (m : AM) (M : List Int) (t : Int) : (m.gr.prow M t).length = (m.row t).length := by unfold Gr.prow; rw [List.length_map, gr_len]
theorem prow_get {M : List Int} {k : Nat} (hk : k < (m.row t).length) : (m.gr.prow M t)[k]? = some (if (m.row t)[k] then 1 + idx M (m.seen (m.word (t + 1 + k))) else m.word (t + 1 + k)) := by
  unfold Gr.prow
  rw [List.getElem?_map, List.getElem?_eq_getElem (by rw [gr_len]; exact hk), gr_flag hk]
  simp only [Option.map_some]
  split <;> rfl
theorem snoc_all {α β : Type} {P : α → β → Prop} {us : List α} {fs : List β} {x0 : α} {y0 : β} {i : Nat} (hul : us.length = i) (hf : ∀ (j : Nat) (u : α) (x : β), us[j]? = some u → fs[j]? = some x → P u x) (hi : fs[i]? = some y0) (h0 : P x0 y0) : ∀ (j : Nat) (u : α) (x : β), (us ++ [x0])[j]? = some u → fs[j]? = some x → P u x := fun j u x hu hx => by
  rcases Nat.lt_or_ge j us.length with hj | hj
  · exact hf j u x (by rw [List.getElem?_append_left hj] at hu; exact hu) hx
  · have hji : j = us.length := by
      have := (List.getElem?_eq_some_iff.1 hu).1
      simp at this; omega
    subst hji
    rw [List.getElem?_append_right (Nat.le_refl _)] at hu
    rw [hul, hi] at hx
    simp at hu hx
    rw [← hu, ← hx]; exact h0
theorem VForm.one {v : Value} {n : Nat} {l : List Value} (h : VForm v n l) : v.oneCell' = true := by
  rcases h with ⟨h, _⟩ | ⟨b, cp, h⟩ <;> rw [h] <;> rfl
end
end Go.Proofs.Ytmhmpjgkkpbnnaa
namespace Go.Proofs.Ytmhmpjgkkpbnnaa
open Go.Ck Fx Go.Hm Go.Hm.AM
attribute [local irreducible] St Cd Xt Nx DrL LsW
section
variable {L : MemL} {μ : Mem} {S R : Res} {m : AM} {ly ln lf : List Int} {φ : Int → Option Nat} {A : Store} {v : Value} {roots : List Int} {t : Int}
theorem seen_of (I : MI L μ S m) (h : AM.Good m ly ln lf φ A) (t : Int) : (ml μ.mv t = none → m.seen t = t) ∧ ∀ to, ml μ.mv t = some to → m.seen t = if μ.bu && μ.o.begins t then to else t := by
  have hb := I.r.bo t
  unfold AM.seen
  cases hF : m.isF t with
  | false =>
    rw [hF, Bool.false_and] at hb
    exact ⟨fun _ => rfl, fun to _ => by rw [hb, Bool.and_false]; rfl⟩
  | true =>
    rw [hF, Bool.true_and] at hb
    have hmv := I.r.mv t hF
    by_cases hm : m.moved t = 0
    · rw [if_pos hm] at hmv
      exact ⟨fun _ => by rw [hm]; rfl, fun to hto => by rw [hmv] at hto; cases hto⟩
    · rw [if_neg hm] at hmv
      have hp := h.g.mpos t hm
      have hf := h.ym t hm
      have hh := h.g.fhead hf
      have hbz : m.busy = true := by
        cases hz : m.busy with
        | true => rfl
        | false => rw [h.g.nb hz] at hf; cases hf
      refine ⟨fun hn => (by rw [hmv] at hn; cases hn), fun to hto => ?_⟩
      rw [hmv] at hto
      cases hto
      rw [hb, I.r.bu, hbz]
      simp [hp, hh]
set_option maxRecDepth 100000 in
theorem hseen_ct (I : MI L μ S m) (h : AM.Good m ly ln lf φ A) : Reads Try.prog 59 #[.pointer (some ⟨L.mb, 0, none⟩), .int .i64 t] [mb L μ, mpr L.mvb (mvv μ.mv), sb L.o μ.o, tb L.o μ.o] (.int .i64 (m.seen t)) := by
  have oo := I.r.oko h.g
  obtain ⟨q1, q2⟩ := seen_of I h t
  cases hq : ml μ.mv t with
  | none =>
    rw [q1 hq]
    refine ct_of (n := 33) Try.func59 rfl rfl (len rfl) fun hr w0 => ?_
    refine cd_seq (cd_region (st_v (v_assign rfl) (st_nil (nx_then (cd_seq (cd_seq (cd_region (st_v (v_move rfl) (st_v (v_nilCheck rfl) (st_v (v_fieldAddr rfl fa100_7 rfl) (st_v (v_ld rfl ld97) ?_)))))))))))
    refine st_v (v_move rfl) (st_v (v_lookup_ok rfl rfl mp97 inf3 (by repeat (first | exact Sel.here | apply Sel.there))) ?_)
    rw [mlook_mvv, hq]
    refine st_v (v_move rfl) (st_v (v_extract rfl rfl) (st_v (v_extract rfl rfl) (st_v (v_assign rfl) (st_v (v_assign rfl) (st_nil (nx_kp [0, 1, 4, 5, 6] rfl (nx_then (cd_seq (cd_region (st_v (v_move rfl) (st_v (v_move rfl) (st_sk rfl rfl rfl ?_))))))))))))
    refine st_sk rfl rfl rfl ?_
    refine st_sk rfl rfl rfl ?_
    refine st_sk rfl rfl rfl ?_
    refine st_v (v_pick_false rfl rfl) (st_v (v_move rfl) (st_sk rfl rfl rfl ?_))
    refine st_sk rfl rfl rfl ?_
    refine st_sk rfl rfl rfl ?_
    refine st_sk rfl rfl rfl ?_
    refine st_sk rfl rfl rfl ?_
    refine st_sk rfl rfl rfl ?_
    refine st_v (v_pick_false rfl rfl) (st_nil (nx_kp [1, 4, 5, 30] rfl (nx_then (cd_false rfl ?_))))
    refine cd_skip (xt_then (cd_seq (cd_region (st_v (v_move rfl) (st_v (v_assign rfl) (st_nil (nx_kp [4] rfl (nx_then (cd_ret ?_)))))))))
    exact xt_rt rfl ⟨rfl, rfl⟩
  | some to =>
    rw [q2 to hq]
    refine ct_of (n := 33) Try.func59 rfl rfl (len rfl) fun hr w0 => ?_
    refine cd_seq (cd_region (st_v (v_assign rfl) (st_nil (nx_then (cd_seq (cd_seq (cd_region (st_v (v_move rfl) (st_v (v_nilCheck rfl) (st_v (v_fieldAddr rfl fa100_7 rfl) (st_v (v_ld rfl ld97) ?_)))))))))))
    refine st_v (v_move rfl) (st_v (v_lookup_ok rfl rfl mp97 inf3 (by repeat (first | exact Sel.here | apply Sel.there))) ?_)
    rw [mlook_mvv, hq]
    refine st_v (v_move rfl) (st_v (v_extract rfl rfl) (st_v (v_extract rfl rfl) (st_v (v_assign rfl) (st_v (v_assign rfl) (st_nil (nx_kp [0, 1, 4, 5, 6] rfl (nx_then (cd_seq (cd_region (st_v (v_move rfl) (st_v (v_move rfl) (st_vg rfl rfl (v_move rfl) (st_vg rfl rfl (v_nilCheck rfl) (st_vg rfl rfl (v_fieldAddr rfl fa100_5 rfl) (st_vg rfl rfl (v_ld rfl ld4) ?_)))))))))))))))
    refine st_v (v_pick_true rfl rfl) (st_v (v_move rfl) (st_cut (k := 15) (d := 30) (v := .bool (μ.bu && μ.o.begins t)) (fun hcut => bool_want (b := μ.bu) true (fun hg => ?_) (fun hg => ?_)) ?_))
    · refine st_sk rfl rfl hg ?_
      refine st_sk rfl rfl hg ?_
      refine st_sk rfl rfl hg ?_
      refine st_sk rfl rfl hg ?_
      refine st_sk rfl rfl hg ?_
      refine st_sk rfl rfl hg ?_
      refine st_v (v_pick_false (bool_ev rfl hg) rfl) ?_
      exact hcut _ (ssub_head (by first | rfl | (rw [hg]; rfl) | simp_all) (ssub_skip rfl (ssub_skip rfl (ssub_skip rfl (ssub_skip rfl (ssub_skip rfl (ssub_skip rfl (ssub_refl))))))))
    · skip
      refine st_vg rfl (bool_get rfl hg) (v_move rfl) (st_vg rfl (bool_get rfl hg) (v_nilCheck rfl) (st_vg rfl (bool_get rfl hg) (v_fieldAddr rfl fa100_3 rfl) (st_vg rfl (bool_get rfl hg) (v_ld rfl ld95) ?_)))
      refine st_vg rfl (bool_get rfl hg) (v_move rfl) (st_clrg rfl (bool_get rfl hg) rfl rfl en72 rfl (begins_ct (l := L.o) (s := μ.o) oo) ?_)
      refine st_v (v_pick_true (bool_ev rfl hg) rfl) ?_
      exact hcut _ (ssub_head (by first | rfl | (rw [hg]; rfl) | simp_all) (ssub_skip rfl (ssub_skip rfl (ssub_skip rfl (ssub_skip rfl (ssub_skip rfl (ssub_skip rfl (ssub_refl))))))))
    refine st_nil (nx_kp [1, 4, 5, 30] rfl (nx_then (cd_cond rfl (fun hc => ?_) (fun hc => ?_))))
    · skip
      rw [if_pos hc]
      refine cd_seq (cd_region (st_v (v_move rfl) (st_v (v_assign rfl) (st_nil (nx_kp [1, 4] rfl (nx_then (cd_ret (xt_ret_then ?_))))))))
      exact xt_rt rfl ⟨rfl, rfl⟩
    · skip
      rw [if_neg (by rw [hc]; simp)]
      refine cd_skip (xt_then (cd_seq (cd_region (st_v (v_move rfl) (st_v (v_assign rfl) (st_nil (nx_kp [4] rfl (nx_then (cd_ret ?_)))))))))
      exact xt_rt rfl ⟨rfl, rfl⟩
/-- In which space an object lies. -/
def inP (L : MemL) (μ : Mem) (t : Int) : Option Addr := if μ.y.begins t then some ⟨L.y.sb, 0, none⟩ else if μ.n.begins t then some ⟨L.n.sb, 0, none⟩ else if μ.o.begins t then some ⟨L.o.sb, 0, none⟩ else none
set_option maxRecDepth 100000 in
theorem in1_ct {l : SpL} {s : Sp} {t : Int} {bx : Nat} (ok : s.Ok) : Reads Try.prog 106 #[.pointer (some ⟨l.sb, 0, none⟩), .pointer (some ⟨bx, 0, none⟩)] [pt bx (cl [.int .i64 t] 3), sb l s, tb l s] (.bool (s.begins t)) := by
  refine ct_of (n := 7) Try.func106 rfl rfl (len rfl) fun hr w0 => ?_
  refine cd_seq (cd_region (st_v (v_assign rfl) (st_nil (nx_then (cd_seq (cd_region (st_v (v_move rfl) (st_v (v_ld rfl ld3) ?_))))))))
  refine st_clr rfl rfl en72 rfl (begins_ct (l := l) (s := s) ok) ?_
  refine st_v (v_assign rfl) (st_nil (nx_kp [3] rfl (nx_then (cd_ret ?_))))
  exact xt_rt rfl ⟨rfl, rfl⟩
def inSH (L : MemL) (μ : Mem) : SH := [mb L μ, sb L.y μ.y, tb L.y μ.y, sb L.n μ.n, tb L.n μ.n, sb L.o μ.o, tb L.o μ.o]
theorem in1_all (I : MI L μ S m) (h : AM.Good m ly ln lf φ A) {t : Int} {b : Nat} : ∀ p ∈ [L.y.sb, L.n.sb, L.o.sb], Reads Try.prog 106 (#[.pointer (some ⟨p, 0, none⟩)] ++ #[.pointer (some ⟨b, 0, none⟩)])
    [pt b (cl [.int .i64 t] 3), sb L.y μ.y, tb L.y μ.y, sb L.n μ.n, tb L.n μ.n, sb L.o μ.o, tb L.o μ.o] (.bool (if p = L.y.sb then μ.y.begins t else if p = L.n.sb then μ.n.begins t else μ.o.begins t)) := by
  have oy := I.r.oky h.g; have on := I.r.okn h.g; have oo := I.r.oko h.g
  have h1 := I.yn; have h2 := I.yo; have h3 := I.no
  intro p hp
  simp only [List.mem_cons, List.not_mem_nil, or_false] at hp
  rcases hp with rfl | rfl | rfl
  · rw [if_pos rfl]; exact Reads.more (x := [sb L.n μ.n, tb L.n μ.n, sb L.o μ.o, tb L.o μ.o]) (in1_ct (l := L.y) oy) (by repeat (first | exact Pk.nil | (apply Pk.cons; (repeat (first | exact Sel.here | apply Sel.there)))))
  · rw [if_neg (Ne.symm h1), if_pos rfl]; exact Reads.more (x := [sb L.y μ.y, tb L.y μ.y, sb L.o μ.o, tb L.o μ.o]) (in1_ct (l := L.n) on) (by repeat (first | exact Pk.nil | (apply Pk.cons; (repeat (first | exact Sel.here | apply Sel.there)))))
  · rw [if_neg (Ne.symm h2), if_neg (Ne.symm h3)]; exact Reads.more (x := [sb L.y μ.y, tb L.y μ.y, sb L.n μ.n, tb L.n μ.n]) (in1_ct (l := L.o) oo) (by repeat (first | exact Pk.nil | (apply Pk.cons; (repeat (first | exact Sel.here | apply Sel.there)))))
set_option maxRecDepth 100000 in
theorem hin_ct (I : MI L μ S m) (h : AM.Good m ly ln lf φ A) {t : Int} : Reads Try.prog 60 #[.pointer (some ⟨L.mb, 0, none⟩), .int .i64 t] (inSH L μ) (.pointer (inP L μ t)) := by
  have h1 := I.yn; have h2 := I.yo; have h3 := I.no
  unfold inSH
  refine ct_of (n := 26) Try.func60 rfl rfl (len rfl) fun hr w0 => ?_
  refine cd_seq (cd_region (st_bx rfl rfl fun b3 => ?_))
  refine st_v (v_assign rfl) (st_nil (nx_kp [0, 3, 4] rfl (nx_then (cd_seq (cd_drawh (ork [(0, 2), (1, 2), (2, 2), (3, 2), (4, 1), (5, 2), (6, 2), (7, 2), (8, 1), (9, 2), (10, 2), (11, 2), (12, 1), (13, 0), (14, 0), (15, 2), (16, 2), (17, 2), (18, 2), (19, 2)] .nil) (fun i => !(Nat.beq i 13 || Nat.beq i 14)) mixed (by kernel_rfl) ?_)))))
  refine dp_v rfl (v_makeFunc rfl rfl) (dp_v rfl (v_move rfl) (dp_v rfl (v_nilCheck rfl) (dp_v rfl (v_fieldAddr rfl fa100_1 rfl) (dr_v rfl (v_ld rfl ld95) ?_))))
  refine dp_v rfl (v_move rfl) (dp_v rfl (v_nilCheck rfl) (dp_v rfl (v_fieldAddr rfl fa100_2 rfl) (dr_v rfl (v_ld rfl ld95) ?_)))
  refine dp_v rfl (v_move rfl) (dp_v rfl (v_nilCheck rfl) (dp_v rfl (v_fieldAddr rfl fa100_3 rfl) (dr_v rfl (v_ld rfl ld95) ?_)))
  refine dr_eff rfl (st_buildSlice (cells := [.pointer (some ⟨L.y.sb, 0, none⟩), .pointer (some ⟨L.n.sb, 0, none⟩), .pointer (some ⟨L.o.sb, 0, none⟩)]) rfl Try.underlying178 inf95 rfl rfl (by kernel_rfl) (ltn rfl) fun b21 => dr_nx ?_)
  refine dr_eff rfl (st_cl rfl rfl en105 rfl (find_ct (bs := b21) (k := 106) (cp := #[.pointer (some ⟨b3, 0, none⟩)]) (ps := [L.y.sb, L.n.sb, L.o.sb]) (hf := [pt b3 (cl [.int .i64 t] 3), sb L.y μ.y, tb L.y μ.y, sb L.n μ.n, tb L.n μ.n, sb L.o μ.o, tb L.o μ.o]) (is := fun p => if p = L.y.sb then μ.y.begins t else if p = L.n.sb then μ.n.begins t else μ.o.begins t) (by simp) en106 (in1_all I h)) ?_)
  rintro v h' ⟨rfl, rfl⟩
  have hc : ((List.find? (fun p => if p = L.y.sb then μ.y.begins t else if p = L.n.sb then μ.n.begins t else μ.o.begins t) [L.y.sb, L.n.sb, L.o.sb]).map (fun b => (⟨b, 0, none⟩ : Addr))) = inP L μ t := by
    unfold inP
    cases e1 : μ.y.begins t <;> cases e2 : μ.n.begins t <;> cases e3 : μ.o.begins t <;> simp [e1, e2, e3, List.find?_cons, Ne.symm h1, Ne.symm h2, Ne.symm h3]
  rw [hc]
  refine dr_nx ?_
  refine dp_v rfl (v_move rfl) (dp_v rfl (v_extract rfl rfl) (dp_v rfl (v_extract rfl rfl) (dp_v rfl (v_assign rfl) (dp_v rfl (v_assign rfl) (dr_nil (nx_kp [4, 5] rfl (nx_then (cd_seq (cd_region (st_v (v_move rfl) (st_v (v_assign rfl) (st_nil (nx_kp [4] rfl (nx_then (cd_ret ?_)))))))))))))))
  exact xt_rt rfl ⟨rfl, rfl⟩
/-- The numbers of what is met. -/
def nmF : Nat → List Int → List (Int × Value)
  | _, [] => []
  | j, x :: r => (x, .int .i64 ((j : Int) + 1)) :: nmF (j + 1) r
def nmv (l : List Int) : List (Int × Value) := nmF 0 l
theorem mlook_nmF (t : Int) : ∀ (l : List Int) (j : Nat), mlook (nmF j l) t = if t ∈ l then some (.int .i64 ((j : Int) + 1 + idx l t)) else none
  | [], j => rfl
  | x :: r, j => by
    have ih := mlook_nmF t r (j + 1)
    unfold mlook at ih ⊢
    unfold nmF
    simp only [List.find?_cons]
    by_cases hx : x = t
    · subst hx
      simp [idx_has (List.mem_cons_self ..)]
    · rw [show (x == t) = false by simp [hx]]
      dsimp only
      rw [ih]
      by_cases hm : t ∈ r
      · rw [if_pos hm, if_pos (List.mem_cons_of_mem _ hm), idx_has hm, idx_has (List.mem_cons_of_mem _ hm), List.idxOf_cons, show (x == t) = false by simp [hx]]
        simp only [cond_false, Option.some.injEq, Value.int.injEq, true_and]
        omega
      · rw [if_neg hm, if_neg (by simp [hm, Ne.symm hx])]
theorem mlook_nmv (t : Int) (l : List Int) : mlook (nmv l) t = if t ∈ l then some (.int .i64 (1 + idx l t)) else none := by
  unfold nmv; rw [mlook_nmF]; simp
theorem mupd_nmF {t : Int} : ∀ {l : List Int} {j : Nat}, t ∉ l → mupd (nmF j l) t (.int .i64 ((j : Int) + l.length + 1)) = nmF j (l ++ [t])
  | [], j, _ => by simp [nmF, mupd]
  | x :: r, j, h => by
    have h1 : x ≠ t := fun e => h (by simp [e])
    have h2 : t ∉ r := fun e => h (by simp [e])
    have ih := mupd_nmF (j := j + 1) h2
    unfold nmF mupd
    rw [if_neg h1, List.cons_append]
    dsimp only
    rw [← ih]
    congr 3
    simp; omega
theorem mupd_nmv {t : Int} {l : List Int} (h : t ∉ l) : mupd (nmv l) t (.int .i64 ((l.length : Int) + 1)) = nmv (l ++ [t]) := by
  have := mupd_nmF (j := 0) h
  unfold nmv; rw [← this]; simp
def pcSH (L : MemL) (μ : Mem) (b1 b2 b3 mp : Nat) (lv : Value) (l : List Int) : SH :=
  [pt b1 (cl [.pointer (some ⟨L.mb, 0, none⟩)] 27), pt b2 (cl [.map (some mp)] 97), pt b3 (cl [lv] 34), mpr mp (nmv l), vec lv 3 1 l.length (ints l), mb L μ, mpr L.mvb (mvv μ.mv), sb L.o μ.o, tb L.o μ.o]
theorem seen_ne (h : AM.Good m ly ln lf φ A) {t : Int} (ht : AM.Obj ly ln lf t) : m.seen t ≠ 0 := by
  have h1 := (h.g.obj_bd ht).1
  unfold AM.seen
  split
  · rename_i hc; simp only [Bool.and_eq_true, decide_eq_true_eq] at hc; omega
  · omega
theorem seen_zero (h : AM.Good m ly ln lf φ A) : m.seen 0 = 0 := by
  have hb := m.base_former; have := h.g.sz.Y0; have := h.g.sz.H0
  unfold AM.seen
  rw [if_neg]
  simp only [Bool.and_eq_true, isF_iff]
  omega
set_option maxRecDepth 100000 in
theorem hpmeet_ct (I : MI L μ S m) (h : AM.Good m ly ln lf φ A) {b1 b2 b3 mp : Nat} {lv : Value} {l : List Int} {t : Int} (hl : PM (AM.Obj ly ln lf) l) (ht : t = 0 ∨ AM.Obj ly ln lf t) :
    Ct Try.prog 58 #[.int .i64 t, .pointer (some ⟨b1, 0, none⟩), .pointer (some ⟨b2, 0, none⟩), .pointer (some ⟨b3, 0, none⟩)] (pcSH L μ b1 b2 b3 mp lv l)
      fun v h' => v = .int .i64 (1 + idx (pmeet l (m.seen t)) (m.seen t)) ∧ ∃ lv', h' = pcSH L μ b1 b2 b3 mp lv' (pmeet l (m.seen t)) := by
  have hll := h.g.pm_len hl; have hT := h.g.T_le
  unfold pcSH
  refine ct_of (n := 32) Try.func58 rfl rfl (len rfl) fun hr w0 => ?_
  refine cd_seq (cd_region (st_v (v_assign rfl) (st_nil (nx_then (cd_seq (cd_seq (cd_region (st_v (v_move rfl) (st_v (v_eql rfl rfl) (st_nil (nx_kp [0, 1, 2, 3, 5, 9] rfl (nx_then (cd_cond rfl (fun hc => ?_) (fun hc => ?_))))))))))))))
  · skip
    have h0 : t = 0 := by simpa using hc
    have hn0 : (0 : Int) ∉ l := fun hm => by have := (h.g.obj_bd (hl.s 0 hm)).1; omega
    have hres : (1 : Int) + idx (pmeet l (m.seen t)) (m.seen t) = 0 := by rw [h0, seen_zero h, pmeet_zero, idx_no hn0]; rfl
    have hpm : pmeet l (m.seen t) = l := by rw [h0, seen_zero h, pmeet_zero]
    rw [hres, hpm]
    refine cd_seq (cd_region (st_v (v_assign rfl) (st_nil (nx_kp [0, 1, 2, 3, 5] rfl (nx_then (cd_ret (xt_ret_then ?_)))))))
    exact xt_rt rfl ⟨rfl, lv, rfl⟩
  · skip
    have h0 : t ≠ 0 := by simpa using hc
    have hne := seen_ne h (ht.resolve_left h0)
    refine cd_vecshape (v := lv) (E := 3) (sz := 1) (n := l.length) (l := ints l) (by repeat (first | exact Sel.here | apply Sel.there)) fun la lcp hlv hla => ?_
    refine cd_skip (xt_then (cd_seq (cd_region (st_v (v_ld rfl ld27) ?_))))
    refine st_v (v_move rfl) (st_clr rfl rfl en59 rfl (hseen_ct I h) ?_)
    refine st_v (v_assign rfl) (st_nil (nx_kp [0, 2, 3, 5] rfl (nx_then (cd_seq (cd_seq (cd_region (st_v (v_ld rfl ld97) ?_)))))))
    refine st_v (v_move rfl) (st_v (v_lookup_ok rfl rfl mp97 inf3 (by repeat (first | exact Sel.here | apply Sel.there))) ?_)
    rw [mlook_nmv]
    by_cases hm : m.seen t ∈ l
    · rw [if_pos hm, pmeet_old hm]
      refine st_v (v_move rfl) (st_v (v_extract rfl rfl) (st_v (v_extract rfl rfl) (st_v (v_assign rfl) (st_v (v_assign rfl) (st_nil (nx_kp [0, 2, 3, 5, 7] rfl (nx_then (cd_seq (cd_region (st_v (v_move rfl) (st_v (v_not rfl) (st_nil (nx_kp [0, 2, 3, 5, 20] rfl (nx_then (cd_false rfl ?_)))))))))))))))
      refine cd_skip (xt_then (cd_seq (cd_region (st_v (v_ld rfl ld97) ?_))))
      refine st_v (v_move rfl) (st_v (v_lookup rfl rfl mp97 inf3 (by repeat (first | exact Sel.here | apply Sel.there))) ?_)
      rw [mlook_nmv, if_pos hm]
      refine st_v (v_assign rfl) (st_nil (nx_kp [5] rfl (nx_then (cd_ret ?_))))
      exact xt_rt rfl ⟨rfl, lv, rfl⟩
    · rw [if_neg hm, pmeet_new hne hm, idx_new hm]
      refine st_v (v_move rfl) (st_v (v_extract rfl rfl) (st_v (v_extract rfl rfl) (st_v (v_assign rfl) (st_v (v_assign rfl) (st_nil (nx_kp [0, 2, 3, 5, 7] rfl (nx_then (cd_seq (cd_region (st_v (v_move rfl) (st_v (v_not rfl) (st_nil (nx_kp [0, 2, 3, 5, 20] rfl (nx_then (cd_true rfl ?_)))))))))))))))
      refine cd_seq (cd_region (st_v (v_ld rfl ld34) ?_))
      refine st_v (v_move rfl) (st_buildSlice (cells := [.int .i64 (m.seen t)]) rfl Try.underlying34 inf3 rfl rfl (by kernel_rfl) (ltn rfl) fun b23 => ?_)
      refine st_append (news := [.int .i64 (m.seen t)]) rfl rfl Try.underlying34 inf3 rfl (ltn rfl) (by repeat (first | exact Sel.here | apply Sel.there)) rfl (fun j u hu => by repeat (first | exact at_here (rd_cl (by simpa using hu)) | apply at_there)) (ones rfl) (by omega) (by omega) (ltn rfl) fun lv' hlv' hv1 => ?_
      refine st_vecshape (v := lv') (E := 3) (sz := 1) (n := l.length + 1) (l := ints l ++ [.int .i64 (m.seen t)]) (by repeat (first | exact Sel.here | apply Sel.there)) fun la' lcp' hlv2 hla' => ?_
      refine st_sto rfl rfl sz34 ?_
      refine st_nil (nx_kp [0, 2, 3, 5] rfl (nx_then (cd_region (st_v (v_ld rfl ld97) ?_))))
      refine st_v (v_move rfl) (st_v (v_ld rfl ld34) ?_)
      refine st_v (v_len (congrArg some hlv2) Try.underlying34) (st_mapUpdate rfl rfl rfl mp97 (by repeat (first | exact Sel.here | apply Sel.there)) ?_)
      rw [show ((l.length + 1 : Nat) : Int) = (l.length : Int) + 1 by omega, mupd_nmv hm]
      refine st_nil (nx_kp [0, 2, 5] rfl (nx_then (cd_seq (cd_region (st_v (v_ld rfl ld97) ?_)))))
      refine st_v (v_move rfl) (st_v (v_lookup rfl rfl mp97 inf3 (by repeat (first | exact Sel.here | apply Sel.there))) ?_)
      rw [mlook_nmv, if_pos (by simp), idx_new hm]
      refine st_v (v_assign rfl) (st_nil (nx_kp [5] rfl (nx_then (cd_ret ?_))))
      rw [show ints l ++ [.int .i64 (m.seen t)] = ints (l ++ [m.seen t]) by simp [ints], show l.length + 1 = (l ++ [m.seen t]).length by simp]
      exact xt_rt rfl ⟨rfl, lv', rfl⟩
end
end Go.Proofs.Ytmhmpjgkkpbnnaa
