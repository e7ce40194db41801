/-
  What the arguments of the laws read as: systems of classes, names. No condition.
  HeirReaches: for every input the law answers true, and the input reads as it did. No condition.
-/
import Derived.Test.YtjgiaohieadeiaaM5
import Derived.Test.YtjgiaohieadeiaaM4
import Derived.JoinedCond
import Derived.Test.YtjgiaohieadeiaaRows
import Derived.Test.YtjgiaohieadeiaaM9
set_option linter.unusedVariables false
set_option linter.unusedSimpArgs false
namespace Go.Ck
open Go Go.RowKit Go.ChangeShapes Go.WideShapes
theorem cells_one {v : Value} (h : v.oneCell' = true) : v.cells.toList = [v] := by
  cases v <;> first | rfl | (simp [Value.oneCell'] at h)
/-- An argument of one cell. -/
theorem arg_one {H : Type} {enc : TypeId × Value → H} {P : Program} {W : World} {ty : Ty} {t : TypeId} {v : Value} {d : DataW H} {ps : List MemPlace} {b : Nat} (hf : fitB P ty t = true)
    (hs : (match P.underlying t with | some (.struct _) | some (.array _ _) => false | some _ => true | none => false) = true) (hv : Value.okWide P W .any b t v) (h : DataW.Trod enc P W 0 (fun _ => true) true t v d ps) : ∃ y, Rep (old W) ty [v] y := by
  have := arg_rep hf h
  rwa [cells_one (okWide_one hs hv)] at this
theorem rep_kind {k : IntKind} {r : Res} {v : Value} {n : Int} (h : Rep r (.int k) [v] n) : v = .int k n ∧ (Lit.int k n).wf = true := by
  simp only [Rep] at h
  exact ⟨by simpa using h.1, h.2⟩
theorem wf_I64 {n : Int} (h : (Lit.int .i64 n).wf = true) : I64 n := by
  unfold Lit.wf at h
  simp [IntKind.min, IntKind.max, IntKind.signed, IntKind.bits] at h
  unfold I64; omega
theorem wf_u8 {n : Int} (h : (Lit.int .u8 n).wf = true) : 0 ≤ n ∧ n < 256 := by
  unfold Lit.wf at h
  simp [IntKind.min, IntKind.max, IntKind.signed, IntKind.bits] at h
  omega
/-- A slice is a row. -/
theorem row_of {α : Type} {r : Res} {t : Ty} {v : Value} (f : t.D → α) (X : List Value → α → Prop) (hX : ∀ us x, Rep r t us x → X us (f x)) {y : (Ty.slice t).D} (h : Rep r (.slice t) [v] y) : Row r t.sz X v ((show List t.D from y).map f) := by
  unfold Rep at h
  obtain ⟨a, cap, h1, hl, hm, hn, h2⟩ := h
  refine ⟨a, cap, by rw [List.length_map]; exact (List.cons.inj h1).1, by rw [List.length_map]; exact hl, hm, hn, fun i x hi => ?_⟩
  rw [List.getElem?_map] at hi
  cases hy : (show List t.D from y)[i]? with
  | none => rw [hy] at hi; cases hi
  | some z =>
    rw [hy] at hi
    obtain rfl := Option.some.inj hi
    rcases h2 with h0 | ⟨b, o, h3, h4⟩
    · rw [show (show List t.D from y) = [] from h0] at hy; simp at hy
    · obtain ⟨us, h5, h6, h7⟩ := h4 i z hy
      exact ⟨b, o, us, h3, h5, h6, hX _ _ h7⟩
theorem row_all {r : Res} {t : Ty} {v : Value} {φ : t.D → Prop} (hX : ∀ us x, Rep r t us x → φ x) {y : (Ty.slice t).D} (h : Rep r (.slice t) [v] y) : ∀ x ∈ (show List t.D from y), φ x := fun x hx => by
  unfold Rep at h
  obtain ⟨a, cap, h1, hl, hm, hn, h2⟩ := h
  obtain ⟨i, hi⟩ := List.getElem?_of_mem hx
  rcases h2 with h0 | ⟨b, o, h3, h4⟩
  · rw [show (show List t.D from y) = [] from h0] at hi; simp at hi
  · obtain ⟨us, h5, h6, h7⟩ := h4 i x hi
    exact hX _ _ h7
theorem one_cell {us : List Value} (h : us.length = 1) : ∃ u, us = [u] := by
  match us, h with
  | [u], _ => exact ⟨u, rfl⟩
end Go.Ck
namespace Go.Hr
open Go Go.RowKit Go.ChangeShapes Go.WideShapes Go.Ck
/-- The types that the parts that nobody looks at are made of. -/
def partL : List TypeId := [3, 4, 9, 25, 59, 62, 185, 186, 188, 189, 191, 192, 194, 196, 198, 201, 203]
def parTy : Ty := .struct [.str, .slice (.any 5 partL), .slice (.any 2 partL), .slice .str, .slice .str, .slice .str]
def clsTy : Ty := .struct [.str, .bool, .slice (.any 2 partL), .slice parTy, .slice .str, .slice (.any 15 partL), .slice (.any 5 partL)]
def nmOf (s : ByteArray) : Nm := s.data.toList
def parOf (x : parTy.D) : Nm := nmOf (show ByteArray from x.1)
def clsOf (x : clsTy.D) : Cls := ⟨nmOf (show ByteArray from x.1), (show List parTy.D from x.2.2.2.1).map parOf, (show List Unit from x.2.2.2.2.2.1).length⟩
def sysOf (y : (Ty.slice clsTy).D) : Sys := (show List clsTy.D from y).map clsOf
theorem slice_val {r : Res} {t : Ty} {a : Value} {y : List t.D} (h : ∃ (ad : Option Addr) (cap : Nat), [a] = [Value.slice ad (List.length y) cap] ∧ List.length y ≤ cap ∧ cap ≤ maxLen ∧ (ad = none → cap = 0) ∧
      (y = ([] : List t.D) ∨ ∃ b o, ad = some ⟨b, o, none⟩ ∧ ∀ (i : Nat) (x : t.D), @getElem? (List t.D) Nat t.D _ _ y i = some x → ∃ us : List Value, us.length = t.sz ∧ Rds r b (o + i * t.sz) us ∧ Rep r t us x)) : ∃ (ad : Option Addr) (cap : Nat), a = Value.slice ad (List.length y) cap := by
  obtain ⟨ad, cap, h1, _⟩ := h
  exact ⟨ad, cap, (List.cons.inj h1).1⟩
theorem str_val {r : Res} {us : List Value} {x : ByteArray} (h : us = [Value.string x] ∧ x.size ≤ maxLen) : us = [sv (nmOf x)] := h.1
theorem parC_of {r : Res} {us : List Value} {x : parTy.D} (h : Rep r parTy us x) : parC us (parOf x) := by
  obtain ⟨x1, x2, x3, x4, x5, x6, x7⟩ := x
  simp only [parTy, Rep, Reps] at h
  obtain ⟨u1, us1, e1, l1, r1, h⟩ := h
  obtain ⟨u2, us2, e2, l2, r2, h⟩ := h
  obtain ⟨u3, us3, e3, l3, r3, h⟩ := h
  obtain ⟨u4, us4, e4, l4, r4, h⟩ := h
  obtain ⟨u5, us5, e5, l5, r5, h⟩ := h
  obtain ⟨u6, us6, e6, l6, r6, h⟩ := h
  have r1 := r1.1
  obtain ⟨a2, c2, g2, _⟩ := r2
  obtain ⟨a3, c3, g3, _⟩ := r3
  obtain ⟨a4, c4, g4, _⟩ := r4
  obtain ⟨a5, c5, g5, _⟩ := r5
  obtain ⟨a6, c6, g6, _⟩ := r6
  subst h r1 g2 g3 g4 g5 g6 e6 e5 e4 e3 e2
  exact ⟨_, _, _, _, _, e1, rfl⟩
theorem cls_of {r : Res} {us : List Value} {x : clsTy.D} (h : Rep r clsTy us x) : clsC r us (clsOf x) := by
  obtain ⟨x1, x2, x3, x4, x5, x6, x7, x8⟩ := x
  simp only [clsTy, Rep, Reps] at h
  obtain ⟨u1, us1, e1, l1, r1, h⟩ := h
  obtain ⟨u2, us2, e2, l2, r2, h⟩ := h
  obtain ⟨u3, us3, e3, l3, r3, h⟩ := h
  obtain ⟨u4, us4, e4, l4, r4, h⟩ := h
  obtain ⟨u5, us5, e5, l5, r5, h⟩ := h
  obtain ⟨u6, us6, e6, l6, r6, h⟩ := h
  obtain ⟨u7, us7, e7, l7, r7, h⟩ := h
  obtain ⟨p4, rfl⟩ := one_cell l4
  have s4 : Rep r (.slice parTy) [p4] x4 := by simp only [Rep]; exact r4
  have r1 := r1.1
  obtain ⟨a3, c3, g3, _⟩ := r3
  obtain ⟨a4, c4, g4, _⟩ := r4
  obtain ⟨a5, c5, g5, _⟩ := r5
  obtain ⟨a6, c6, g6, _⟩ := r6
  obtain ⟨a7, c7, g7, _⟩ := r7
  have g4 := (List.cons.inj g4).1
  subst h r1 r2 g3 g4 g5 g6 g7 e7 e6 e5 e4 e3 e2
  exact ⟨_, _, _, _, _, _, _, e1, rfl, row_of parOf parC (fun _ _ h => parC_of h) s4⟩
theorem sys_of {r : Res} {v : Value} {y : (Ty.slice clsTy).D} (h : Rep r (.slice clsTy) [v] y) : sysR r v (sysOf y) := row_of clsOf (clsC r) (fun _ _ h => cls_of h) h
def nmsOf (y : (Ty.slice .str).D) : List Nm := (show List ByteArray from y).map nmOf
theorem names_of {r : Res} {v : Value} {y : (Ty.slice .str).D} (h : Rep r (.slice .str) [v] y) : nmsR r v (nmsOf y) := row_of (t := .str) nmOf strC (fun us x h => by
  simp only [Rep] at h
  exact h.1) h
theorem str_of {r : Res} {v : Value} {y : Ty.str.D} (h : Rep r .str [v] y) : v = sv (nmOf y) := by
  simp only [Rep] at h
  exact (List.cons.inj h.1).1
end Go.Hr
namespace Go.Proofs.Ytjgiaohieadeiaa
open Go Go.RowKit Go.ChangeShapes Go.WideShapes Go.Ck Go.Hr
set_option maxRecDepth 100000 in
theorem heirReaches_lifted (os : Os) (started : os.Started) (H : Type) (enc : TypeId × Value → H) :
    ReturnsInHanded {} Try.checked os 9 .any (Rows.heirReachesSpec.pre6 enc Try.prog Try.f9 Rows.heirReachesRow.domain false) (Rows.heirReachesSpec.post enc Try.prog Try.f9 false true false false) := by
  refine returnsInHanded_of_change (C := Try.checked) (show ownKnob Try.prog.godebug = none by kernel_rfl) started (by kernel_rfl) Try.func9
    (ChangeSpec.witness6 (enc := enc) (C := Try.checked) false ⟨#[], #[.slice none 0 0, .int .u8 0, .slice none 0 0], []⟩ 8 (by kernel_rfl) (by kernel_rfl) (by kernel_rfl) (by kernel_rfl)) ?_
  intro W base args ds gs before hval0 hW hcnd _
  have hval : ∀ (j : Nat) t v, Try.f9.params[j]? = some t → args[j]? = some v → Value.okWide Try.prog W .any base t v := hval0
  have hW' := hW
  obtain ⟨p, q, hA0, hV, rfl, hfz, hnd⟩ := hW
  have hA : DataW.TrodAll enc Try.prog W 0 (fun _ => true) true Try.f9.params.toList args.toList ds p := hA0
  rw [Try.params9] at hA hval
  obtain ⟨v0, vs0, d0, ds0, p0, q0, hargs, rfl, rfl, h0, r0⟩ := trodAll_cons hA
  obtain ⟨v1, vs1, d1, ds1, p1, q1, rfl, rfl, rfl, h1, r1⟩ := trodAll_cons r0
  obtain ⟨v2, vs2, d2, ds2, p2, q2, rfl, rfl, rfl, h2, r2⟩ := trodAll_cons r1
  obtain ⟨rfl, rfl, rfl⟩ := trodAll_nil r2
  obtain rfl : args = #[v0, v1, v2] := by cases args; simp_all
  obtain ⟨rfl, rfl⟩ := trodVars_none hV
  obtain ⟨y0, e0⟩ := arg_one (ty := .slice clsTy) (by kernel_rfl) (by kernel_rfl) (hval 0 22 v0 rfl rfl) h0
  obtain ⟨y1, e1⟩ := arg_one (ty := .int .u8) (by kernel_rfl) (by kernel_rfl) (hval 1 5 v1 rfl rfl) h1
  obtain ⟨y2, e2⟩ := arg_one (ty := .slice .str) (by kernel_rfl) (by kernel_rfl) (hval 2 25 v2 rfl rfl) h2
  have s0 := sys_of e0
  obtain ⟨rfl, w1⟩ := rep_kind e1
  obtain ⟨m1, rfl⟩ := Int.eq_ofNat_of_zero_le (wf_u8 w1).1
  have b1 : m1 ≤ 255 := by have := (wf_u8 w1).2; omega
  have s2 := names_of e2
  refine (ct_calls (heirReaches_ct s0 b1 s2) fun v h' h => ⟨h.1, by rw [h.2]; exact .refl _⟩).mono fun e W' ⟨he, hk⟩ => ⟨_, he, ?_⟩
  exact law_post (tys := [.slice clsTy, .int .u8, .slice .str]) hW' rfl (by kernel_rfl) Try.underlying4 (by rw [Try.params9]; kernel_rfl) rfl hk
theorem heirReaches_holds : Rows.HeirReachesSaid :=
  OpenClaim.holds_of_wide 9 Try.f9 rfl rfl rfl rfl rfl rfl rfl ⟨rfl, rfl, rfl, rfl, rfl⟩ rfl rfl rfl rfl rfl (by kernel_rfl) Try.func9 (by kernel_rfl)
    (of_decide_eq_true (by kernel_rfl)) (by unfold Func.isWrapper; first | (rw [if_pos (by decide +kernel)]; kernel_rfl) | (rw [if_neg (by decide +kernel)]; exact ⟨rfl, rfl⟩))
    (fun os started H enc _ => heirReaches_lifted os started H enc)
end Go.Proofs.Ytjgiaohieadeiaa
