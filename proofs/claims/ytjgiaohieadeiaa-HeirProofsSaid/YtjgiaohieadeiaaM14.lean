/-
  How many parents a system that is handed can have at most, by the form's own sizes. No condition.
  HeirProofs: for every input the law answers true, and the input reads as it did. No condition.
-/
import Derived.Test.YtjgiaohieadeiaaM13
import Derived.SizedLaws
import Derived.Test.YtjgiaohieadeiaaRows
set_option linter.unusedVariables false
set_option linter.unusedSimpArgs false
namespace Go.Ck
open Go Go.RowKit Go.ChangeShapes Go.WideShapes
theorem weights_mem_all {H : Type} {P : Program} {e : TypeId} : ∀ {ds : List (DataW H)} {d : DataW H}, d ∈ ds → ∀ n ∈ d.weights P e, n ∈ DataW.weightsAll P e ds
  | d0 :: ds, d, hd, n, hn => by
    simp only [DataW.weightsAll, List.mem_append]
    rcases List.mem_cons.1 hd with rfl | hd
    · exact .inl hn
    · exact .inr (weights_mem_all hd n hn)
end Go.Ck
namespace Go.Hr
open Go Go.RowKit Go.ChangeShapes Go.WideShapes Go.Ck Go.Proofs Go.Proofs.Ytjgiaohieadeiaa
set_option maxRecDepth 100000 in
theorem par_sized {H : Type} {enc : TypeId × Value → H} {W : World} {v : Value} {d : DataW H} {ps : List MemPlace} {l : Sys} (h : DataW.Trod enc Try.prog W 0 (fun _ => true) true 22 v d ps) (hs : sysR (old W) v l) (hz : ∀ n ∈ d.weights Try.prog 22, n ≤ reachBytes) : ∀ x ∈ l, x.parents.length ≤ 1099511627776 := by
  intro x hx
  obtain ⟨i, hi⟩ := List.getElem?_of_mem hx
  obtain ⟨b, o, cap, dd, f, pa, pc, c, fa, fc, j, hv, hrd, hP, hone⟩ := sys_at hs hi
  subst hv
  obtain ⟨fuel, h⟩ := h
  have h : DataW.trod enc Try.prog W 0 (fun _ => true) true fuel 22 [.slice (some ⟨b, o, none⟩) l.length cap] = some (d, ps) := h
  have c61 : Try.prog.cellsOf 61 = 7 := by kernel_rfl
  have c57 : Try.prog.cellsOf 57 = 1 := by kernel_rfl
  have b65 : Try.prog.bytesOf 65 = 136 := by kernel_rfl
  rcases DataW.trod_slice Try.underlying22 h with ⟨h0, _⟩ | ⟨a, len, cap', elems, rest, m, _, h1, hx', _, _, _, hlen, hel, _⟩
  · cases h0
  · cases h1
    have hd : d = .slice (elems.map (·.1)) (rest.map (·.1)) := congrArg Prod.fst hx'
    have hil : i < l.length := (List.getElem?_eq_some_iff.1 hi).1
    have h2 := hel i hil
    rw [List.getElem?_eq_getElem (by omega), c61, Option.bind_eq_some_iff] at h2
    obtain ⟨us, h3, h4⟩ := h2
    obtain ⟨h5, h6⟩ := cells?_at h3
    have hc3 := hrd 3 (by simp) W (fun _ _ => rfl)
    have h63 := h6 3 (by omega)
    rw [Addr.add_lit, Addr.add_lit] at h63
    rw [h63] at hc3
    have hu3 : us[3]'(by omega) = .slice pa x.parents.length pc := Option.some.inj hc3
    obtain ⟨xs, m2, _, hx2, hcl, hxl, hfe⟩ := DataW.trod_struct Try.underlying61 h4
    have hfe3 : DataW.trod enc Try.prog W 0 (fun _ => true) true m2 57 ((us.drop 3).take (Try.prog.cellsOf 57)) = xs[3]? := hfe 3 _ rfl
    rw [c57] at hfe3
    have hxl : xs.length = 7 := hxl
    have hdt : (us.drop 3).take 1 = [.slice pa x.parents.length pc] := by
      rw [List.drop_eq_getElem_cons (by omega), List.take_succ_cons, List.take_zero, hu3]
    rw [hdt, List.getElem?_eq_getElem (by omega)] at hfe3
    rcases DataW.trod_slice Try.underlying57 hfe3 with ⟨h0, _⟩ | ⟨a2, len2, cap2, pe, pr, m3, _, h1, hx3, _, _, _, hlen2, _⟩
    · have : x.parents.length = 0 := by
        have := List.cons.inj h0
        have := this.1
        injection this
      omega
    · have hlp : len2 = x.parents.length := by
        have := (List.cons.inj h1).1
        injection this with _ e2 _
        exact e2.symm
      have hq : (xs[3]'(by omega)).1 = .slice (pe.map (·.1)) (pr.map (·.1)) := congrArg Prod.fst hx3
      have hw1 : (pe.length + pr.length) * Try.prog.bytesOf 65 ∈ (xs[3]'(by omega)).1.weights Try.prog 57 := by
        rw [hq]; simp [DataW.weights, Try.underlying57]
      have he1 : (elems[i]'(by omega)).1 = .agg (xs.map (·.1)) := congrArg Prod.fst hx2
      have hw2 : (pe.length + pr.length) * Try.prog.bytesOf 65 ∈ (elems[i]'(by omega)).1.weights Try.prog 61 := by
        rw [he1]
        simp only [DataW.weights, Try.underlying61]
        exact DataW.weights_mem_each (j := 3) rfl (by rw [List.getElem?_map, List.getElem?_eq_getElem (by omega)]; rfl) _ hw1
      have hw3 : (pe.length + pr.length) * Try.prog.bytesOf 65 ∈ d.weights Try.prog 22 := by
        rw [hd]
        simp only [DataW.weights, Try.underlying22]
        exact List.mem_cons_of_mem _ (List.mem_append_left _ (weights_mem_all (List.mem_map.2 ⟨_, List.getElem_mem (by omega), rfl⟩) _ hw2))
      have := hz _ hw3
      rw [b65] at this
      have h47 : reachBytes = 140737488351232 := rfl
      omega
end Go.Hr
namespace Go.Proofs.Ytjgiaohieadeiaa
open Go Go.RowKit Go.ChangeShapes Go.WideShapes Go.Ck Go.Hr
set_option maxRecDepth 100000 in
theorem heirProofs_lifted (os : Os) (started : os.Started) (H : Type) (enc : TypeId × Value → H) :
    ReturnsInHanded {} Try.checked os 13 .any (Rows.heirProofsSpec.pre6 enc Try.prog Try.f13 Rows.heirProofsRow.domain false) (Rows.heirProofsSpec.post enc Try.prog Try.f13 false true false false) := by
  refine returnsInHanded_of_change_sized (C := Try.checked) (show ownKnob Try.prog.godebug = none by kernel_rfl) started (by kernel_rfl) Try.func13
    (ChangeSpec.witness6 (enc := enc) (C := Try.checked) false ⟨#[], #[.slice none 0 0, .int .u8 0, .int .u8 0, .slice none 0 0], []⟩ 8 (by kernel_rfl) (by kernel_rfl) (by kernel_rfl) (by kernel_rfl)) ?_
  intro W base args ds gs before hval0 hW hcnd hsz _
  have hval : ∀ (j : Nat) t v, Try.f13.params[j]? = some t → args[j]? = some v → Value.okWide Try.prog W .any base t v := hval0
  have hW' := hW
  obtain ⟨p, q, hA0, hV, rfl, hfz, hnd⟩ := hW
  have hA : DataW.TrodAll enc Try.prog W 0 (fun _ => true) true Try.f13.params.toList args.toList ds p := hA0
  rw [Try.params13] at hA hval
  obtain ⟨v0, vs0, d0, ds0, p0, q0, hargs, rfl, rfl, h0, r0⟩ := trodAll_cons hA
  obtain ⟨v1, vs1, d1, ds1, p1, q1, rfl, rfl, rfl, h1, r1⟩ := trodAll_cons r0
  obtain ⟨v2, vs2, d2, ds2, p2, q2, rfl, rfl, rfl, h2, r2⟩ := trodAll_cons r1
  obtain ⟨v3, vs3, d3, ds3, p3, q3, rfl, rfl, rfl, h3, r3⟩ := trodAll_cons r2
  obtain ⟨rfl, rfl, rfl⟩ := trodAll_nil r3
  obtain rfl : args = #[v0, v1, v2, v3] := by cases args; simp_all
  obtain ⟨rfl, rfl⟩ := trodVars_none hV
  obtain ⟨y0, e0⟩ := arg_one (ty := .slice clsTy) (by kernel_rfl) (by kernel_rfl) (hval 0 22 v0 rfl rfl) h0
  obtain ⟨y1, e1⟩ := arg_one (ty := .int .u8) (by kernel_rfl) (by kernel_rfl) (hval 1 5 v1 rfl rfl) h1
  obtain ⟨y2, e2⟩ := arg_one (ty := .int .u8) (by kernel_rfl) (by kernel_rfl) (hval 2 5 v2 rfl rfl) h2
  obtain ⟨y3, e3⟩ := arg_one (ty := .slice .str) (by kernel_rfl) (by kernel_rfl) (hval 3 25 v3 rfl rfl) h3
  have s0 := sys_of e0
  have hz : ∀ n ∈ d0.weights Try.prog 22, n ≤ reachBytes := fun n hn => by
    have := List.all_eq_true.1 hsz n (DataW.weights_mem_each (j := 0) (t := 22) (by rw [Try.params13]; rfl) rfl n hn)
    exact of_decide_eq_true this
  have hp := par_sized h0 s0 hz
  obtain ⟨rfl, w1⟩ := rep_kind e1
  obtain ⟨m1, rfl⟩ := Int.eq_ofNat_of_zero_le (wf_u8 w1).1
  have b1 : m1 ≤ 255 := by have := (wf_u8 w1).2; omega
  obtain ⟨rfl, w2⟩ := rep_kind e2
  obtain ⟨m2, rfl⟩ := Int.eq_ofNat_of_zero_le (wf_u8 w2).1
  have b2 : m2 ≤ 255 := by have := (wf_u8 w2).2; omega
  have s3 := names_of e3
  refine (ct_calls (heirProofs_ct s0 hp b1 b2 s3) fun v h' h => ⟨h.1, by rw [h.2]; exact .refl _⟩).mono fun e W' ⟨he, hk⟩ => ⟨_, he, ?_⟩
  exact law_post (tys := [.slice clsTy, .int .u8, .int .u8, .slice .str]) hW' rfl (by kernel_rfl) Try.underlying4 (by rw [Try.params13]; kernel_rfl) rfl hk
theorem heirProofs_holds : Rows.HeirProofsSaid :=
  OpenClaim.holds_of_wide 13 Try.f13 rfl rfl rfl rfl rfl rfl rfl ⟨rfl, rfl, rfl, rfl, rfl⟩ rfl rfl rfl rfl rfl (by kernel_rfl) Try.func13 (by kernel_rfl)
    (of_decide_eq_true (by kernel_rfl)) (by unfold Func.isWrapper; first | (rw [if_pos (by decide +kernel)]; kernel_rfl) | (rw [if_neg (by decide +kernel)]; exact ⟨rfl, rfl⟩))
    (fun os started H enc _ => heirProofs_lifted os started H enc)
end Go.Proofs.Ytjgiaohieadeiaa
