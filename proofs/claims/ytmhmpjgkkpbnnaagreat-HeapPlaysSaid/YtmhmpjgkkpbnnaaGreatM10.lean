/-
  Pictures of package heap: Picture, joined. Conditions: what the heap holds, that the machine is in order.
  Pictures of package heap: Picture, whole. Conditions: what the heap holds, that the machine is in order.
  Two pictures held against each other. Conditions: what the heap holds, that sizes are small.
  The player of package heap: refers, keep, drop, copied, set, put, get, look. Conditions: what the heap holds, that the machine is in order.
  The player of package heap: copied, set, put, get, clear, flip, look. Conditions: what the heap holds, that the machine is in order.
  The player of package heap: get, clear, flip, look. Conditions: what the heap holds, that the machine is in order.
  The player of package heap: fresh. Conditions: what the heap holds, that the machine is in order.
-/
import Derived.Test.YtmhmpjgkkpbnnaaGreatM9
import Derived.Test.YtmhmpjgkkpbnnaaGreatM4
import Derived.Test.YtmhmpjgkkpbnnaaGreatM2
namespace Go.Proofs.YtmhmpjgkkpbnnaaGreat
open Go.Ck Fx Go.Hm Go.Hm.AM
attribute [local irreducible] St Cd Xt Nx DrL LsW
section
variable {L : MemL} {μ : Mem} {S R : Res} {m : AM} {ly ln lf : List Int} {φ : Int → Option Nat} {A : Store} {v u : Value} {roots l : List Int} {t : Int} {w0 : World} {hr : SH} {Q : Exit → Act → World → Prop} {b2 b4 b7 b8 b10 mp : Nat} {lv : Value}
theorem inP_y (I : MI L μ S m) (h : AM.Good m ly ln lf φ A) (ht : t ∈ ly) : inP L μ t = some ⟨L.y.sb, 0, none⟩ := by
  have hh := h.g.yhead ht
  have hy := (h.g.isY_iff hh).2 ht
  unfold inP
  rw [I.r.by_ h.g, hy, show decide (0 < m.head t) = true by simpa using hh]; rfl
theorem inP_n (I : MI L μ S m) (h : AM.Good m ly ln lf φ A) (ht : t ∈ ln) : inP L μ t = some ⟨L.n.sb, 0, none⟩ := by
  have hh := h.g.ohead ht
  have hb := h.g.obd ht; have ho := h.g.oldle
  have hO : m.isO t = true := isO_iff.2 ⟨by omega, by omega⟩
  unfold inP
  rw [I.r.by_ h.g, h.g.isYn (.inr (.inl ht)), I.r.bn h.g, hO, show decide (0 < m.head t) = true by simpa using hh]; rfl
theorem inP_o (I : MI L μ S m) (h : AM.Good m ly ln lf φ A) (ht : t ∈ lf) : inP L μ t = some ⟨L.o.sb, 0, none⟩ := by
  have hh := h.g.fhead ht
  have hb := h.g.fbd ht; have hbf := m.base_former; have h0 := h.g.sz.H0
  have hF : m.isF t = true := isF_iff.2 ⟨by omega, by omega⟩
  have hO : m.isO t = false := by
    cases hq : m.isO t with
    | false => rfl
    | true => have := isO_iff.1 hq; omega
  unfold inP
  rw [I.r.by_ h.g, h.g.isYn (.inr (.inr ht)), I.r.bn h.g, hO, I.r.bo, hF, show decide (0 < m.head t) = true by simpa using hh]; rfl
theorem seen_root (h : AM.Good m ly ln lf φ A) (ht : t = 0 ∨ t ∈ ly ∨ t ∈ ln) : m.seen t = t := by
  unfold AM.seen; rw [h.g.isFn ht]; rfl
theorem met_pm (h : AM.Good m ly ln lf φ A) (hl : PM (AM.Obj ly ln lf) (roots.foldl pmeet [])) : PM (AM.Obj ly ln lf) (m.gr.met m.T roots) ∧ ∃ k, m.gr.met m.T roots = roots.foldl pmeet [] ++ k :=
  ⟨(Gr.close_spec m.gr (T := m.T) (fun l hl => h.g.pm_len hl) (fun x hx => h.g.succ_obj hx) m.T 0 _ (by omega) hl (Nat.zero_le _) (fun j hj hj0 => by omega)).1, Gr.close_pre _ _ _ _⟩
theorem obj_ne (h : AM.Good m ly ln lf φ A) {l' : List Int} (hp : PM (AM.Obj ly ln lf) l') : (0 : Int) ∉ l' := fun hm => by have := (h.g.obj_bd (hp.s 0 hm)).1; omega
set_option maxHeartbeats 4000000 in
set_option maxRecDepth 100000 in
theorem hobjs_c (I : MI L μ S m) (h : AM.Good m ly ln lf φ A) (hl0 : PM (AM.Obj ly ln lf) (roots.foldl pmeet [])) {rv : Value}
    (hend : ∀ us sv fv lv, us.length = (m.gr.met m.T roots).length → (∀ (j : Nat) (u : Value) (x : List Int), us[j]? = some u → (m.pic roots).fields[j]? = some x → VForm u x.length (ints x)) → Xt ⟨Tryz.prog, none, 114, [], w0⟩ .normal Q [(2, .pointer (some ⟨b2, 0, none⟩)), (4, .pointer (some ⟨b4, 0, none⟩)), (8, .pointer (some ⟨b8, 0, none⟩)), (9, .func (.func 32) #[] #[.pointer (some ⟨b2, 0, none⟩), .pointer (some ⟨b7, 0, none⟩), .pointer (some ⟨b8, 0, none⟩)]), (10, .pointer (some ⟨b10, 0, none⟩))] (pt b10 (cl [sv, fv, rv] 38) :: vec sv 3 1 (m.gr.met m.T roots).length (ints (m.pic roots).shapes) :: vec fv 27 1 (m.gr.met m.T roots).length us :: Res.star (rowsI us (m.pic roots).fields) :: (pcSH L μ b2 b7 b8 mp lv (m.gr.met m.T roots) ++ ([sb L.y μ.y, wb L.y μ.y, tb L.y μ.y, sb L.n μ.n, wb L.n μ.n, tb L.n μ.n, wb L.o μ.o, S] ++ hr)))) :
    Cd ⟨Tryz.prog, none, 114, [], w0⟩ (cdr (cdl (cdr (cdr (cdr (cdr (cdr (cdr (cdr (fbody Tryz.f8)))))))))) Q [(2, .pointer (some ⟨b2, 0, none⟩)), (4, .pointer (some ⟨b4, 0, none⟩)), (8, .pointer (some ⟨b8, 0, none⟩)), (9, .func (.func 32) #[] #[.pointer (some ⟨b2, 0, none⟩), .pointer (some ⟨b7, 0, none⟩), .pointer (some ⟨b8, 0, none⟩)]), (10, .pointer (some ⟨b10, 0, none⟩)), (13, .int .i64 0)] (pt b10 (cl [.slice none 0 0, .slice none 0 0, rv] 38) :: (pcSH L μ b2 b7 b8 mp lv (roots.foldl pmeet []) ++ ([sb L.y μ.y, wb L.y μ.y, tb L.y μ.y, sb L.n μ.n, wb L.n μ.n, tb L.n μ.n, wb L.o μ.o, S] ++ hr))) := by
  have z := h.g.sz
  have h1 := z.Y0; have h2 := z.Y1; have h3 := z.H0; have h4 := z.H1; have h5 := m.base_former
  have hT := h.g.T_le
  have hM00 : m.gr.met m.T roots = m.gr.close m.T 0 (roots.foldl pmeet []) := rfl
  have hMp := (met_pm h hl0).1
  have hM0 := obj_ne h hMp
  have hMl := h.g.pm_len hMp
  obtain ⟨p1, p2, p3⟩ := pic_parts m roots
  obtain ⟨M, hM⟩ : ∃ M, M = m.gr.met m.T roots := ⟨_, rfl⟩
  rw [← hM] at p1 p2 p3 hM00 hMp hM0 hend hMl
  refine cd_vecnil 3 1 ?_
  refine cd_vecnil 27 1 ?_
  refine cd_star0 (cd_block (cd_loop (σ := Nat × List Int × Value × List Value × Value × Value) (fun q => [(2, .pointer (some ⟨b2, 0, none⟩)), (4, .pointer (some ⟨b4, 0, none⟩)), (8, .pointer (some ⟨b8, 0, none⟩)), (9, .func (.func 32) #[] #[.pointer (some ⟨b2, 0, none⟩), .pointer (some ⟨b7, 0, none⟩), .pointer (some ⟨b8, 0, none⟩)]), (10, .pointer (some ⟨b10, 0, none⟩)), (13, .int .i64 (q.1 : Nat))]) (fun q => pt b10 (cl [q.2.2.2.2.1, q.2.2.2.2.2, rv] 38) :: vec q.2.2.2.2.1 3 1 q.1 (ints ((m.pic roots).shapes.take q.1)) :: vec q.2.2.2.2.2 27 1 q.1 q.2.2.2.1 :: Res.star (rowsI q.2.2.2.1 ((m.pic roots).fields.take q.1)) :: (pcSH L μ b2 b7 b8 mp q.2.2.1 q.2.1 ++ ([sb L.y μ.y, wb L.y μ.y, tb L.y μ.y, sb L.n μ.n, wb L.n μ.n, tb L.n μ.n, wb L.o μ.o, S] ++ hr))) (fun q => q.1 ≤ q.2.1.length ∧ PM (AM.Obj ly ln lf) q.2.1 ∧ m.gr.close (m.T - q.1) q.1 q.2.1 = M ∧ q.2.2.2.1.length = q.1 ∧ ∀ (j : Nat) (u : Value) (x : List Int), q.2.2.2.1[j]? = some u → (m.pic roots).fields[j]? = some x → VForm u x.length (ints x)) (fun q => m.T - q.1) (0, roots.foldl pmeet [], lv, [], .slice none 0 0, .slice none 0 0) ⟨Nat.zero_le _, hl0, hM00.symm, rfl, fun j u x hx _ => absurd hx (by show ¬ ([] : List Value)[j]? = some u; simp)⟩ ⟨rfl, rfl, rfl, rfl, rfl, rfl, trivial⟩ (by unfold pcSH; simp only [List.cons_append, List.nil_append]; exact (by repeat (first | exact Sub.refl _ | exact Sub.nil _ | refine Sub.sel (by repeat (first | exact Sel.here | apply Sel.there)) ?_ | apply Sub.cons))) ?_))
  rintro ⟨i, l, lv, us, sv, fv⟩ ⟨hi, hmet, hcl, hul, hform⟩
  dsimp only at hi hmet hcl hul hform ⊢
  have hml := h.g.pm_len hmet
  unfold pcSH
  simp only [List.cons_append, List.nil_append]
  refine cd_vecshape (v := lv) (E := 3) (sz := 1) (n := l.length) (l := ints l) (by repeat (first | exact Sel.here | apply Sel.there)) fun la lcp hlv hla => ?_
  refine cS (cS (cR (sV (vM rfl) (sV (vL rfl ld27) ?_))))
  refine sV (v_len (congrArg some hlv) Tryz.underlying27) (sV (v_lss rfl rfl) (sN (nK [2, 4, 8, 9, 10, 13, 47] rfl (nT (cC rfl (fun hc3 => ?_) (fun hc3 => ?_))))))
  · skip
    have hlt : i < l.length := by simpa using hc3
    obtain ⟨lb, rfl⟩ := hla (by omega)
    have hob : AM.Obj ly ln lf l[i] := hmet.s _ (List.getElem_mem hlt)
    have ob := ob_obj h.g hob
    have g1 := ob.t0; have g2 := ob.h2; have hlen := ob.len z; have g3 := ob.h0; have g4 := ob.h1; have g5 := z.n
    have hsz : m.size l[i] = 1 + (m.row l[i]).length := rfl
    have hrd : Rd (vec lv 3 1 l.length (ints l)) ⟨lb, i, none⟩ (.int .i64 l[i]) := rd_vec hlv (by simp [ints, hlt])
    obtain ⟨sb_, so_, scp_, u, hsv, hsrd, hu⟩ := I.shp.row ob.i
    rw [← ob.row] at hu
    obtain ⟨ua, ucp, hue, _⟩ := id hu
    have hf : m.T - i = (m.T - (i + 1)) + 1 := by omega
    have hcl2 : m.gr.close (m.T - (i + 1)) (i + 1) ((m.gr.succ l[i]).foldl pmeet l) = M := by
      rw [← hcl, hf]; conv => rhs; unfold Gr.close
      rw [dif_pos hlt]
    have hMpre : ∃ k, M = (m.gr.succ l[i]).foldl pmeet l ++ k := by rw [← hcl2]; exact Gr.close_pre _ _ _ _
    obtain ⟨ex, hex⟩ := pmeets_pre (m.gr.succ l[i]) l
    have hmet2 : PM (AM.Obj ly ln lf) ((m.gr.succ l[i]).foldl pmeet l) := PM.meets _ hmet fun x hx => h.g.succ_obj hob x hx
    have hiM : M[i]? = some l[i] := by
      obtain ⟨k, hk⟩ := hMpre
      rw [hk, hex, List.append_assoc, List.getElem?_append_left hlt, List.getElem?_eq_getElem hlt]
    have hiM1 : i < M.length := (List.getElem?_eq_some_iff.1 hiM).1
    have hiM2 : M[i] = l[i] := (List.getElem?_eq_some_iff.1 hiM).2
    have hs1 : (m.pic roots).shapes.take (i + 1) = (m.pic roots).shapes.take i ++ [m.head l[i] - 1] := by rw [p1, take_map_succ hiM1, hiM2]
    have hf1 : (m.pic roots).fields.take (i + 1) = (m.pic roots).fields.take i ++ [m.gr.prow M l[i]] := by rw [p2, take_map_succ hiM1, hiM2]
    have hfl : (m.pic roots).fields.length = M.length := by rw [p2, List.length_map]
    have hfi : (m.pic roots).fields[i]? = some (m.gr.prow M l[i]) := by rw [p2, List.getElem?_map, hiM]; rfl
    have hAl : (m.gr.prow M l[i]).length = (m.row l[i]).length := prow_len _ _ _
    rcases id hob with ht | ht | ht
    · skip
      have hbd := h.g.ybd ht; have e1 := I.r.y.fr; have e2 := I.r.y.ln; have e3 := h.g.yl; have ok := I.r.oky h.g; have hwd := I.r.wdy h.g ht
      have k1 := ok.us; have k2 := ok.fr; have k3 := ok.ws
      have hin : Reads Tryz.prog 34 #[.pointer (some ⟨L.mb, 0, none⟩), .int .i64 l[i]] (inSH L μ) (.pointer (some ⟨L.y.sb, 0, none⟩)) := by rw [← inP_y I h ht]; exact hin_ct I h
      unfold inSH at hin
      have hrdw : Rd (wb L.y μ.y) ⟨L.y.wb, (l[i] - μ.y.fr).toNat, none⟩ (.int .i64 (m.head l[i] - 1)) := by rw [← hwd]; exact rd_ints (by omega)
      refine cK (xT (cS (cd_block (cS (cd_drawh (ork [(0, 1), (1, 1), (2, 2), (3, 2), (4, 1), (5, 1), (6, 2)] .nil) (fun _ => true) mixed (by kernel_rfl) ?_)))))
      refine dr_v rfl (vL rfl ld26) ?_
      refine dr_v rfl (vL rfl ld27) ?_
      refine dV rfl (vM rfl) (dV rfl (v_idx i (congrArg some hlv) rfl sl27 rfl hlt) (dr_v rfl (vL rfl ld3) ?_))
      refine dr_clr rfl rfl rfl en34 rfl (hin) ?_
      refine dV rfl (vA rfl) (dr_nil (nK [2, 4, 8, 9, 10, 13, 14] rfl (nT (cS (cd_drawh (ork [(0, 2), (1, 2), (2, 2), (3, 1), (4, 2), (5, 2), (6, 1), (7, 1), (8, 2), (9, 1), (10, 2)] .nil) (fun _ => true) mixed (by kernel_rfl) ?_)))))
      refine dV rfl (vM rfl) (dV rfl (vN rfl) (dV rfl (vF rfl fa87_0 rfl) (dr_v rfl (vL rfl ld27) ?_)))
      refine dV rfl (vM rfl) (dV rfl (v_idx i (congrArg some hlv) rfl sl27 rfl hlt) (dr_v rfl (vL rfl ld3) ?_))
      refine dr_clr rfl rfl rfl en35 rfl (word_ct (l := L.y) (s := μ.y) ok (by omega) (by omega)) ?_
      refine dV rfl (vN rfl) (dr_v rfl (vL rfl ld3) ?_)
      refine dV rfl (vA rfl) (dr_nil (nK [2, 4, 8, 9, 10, 13, 14, 15] rfl (nT (cS (cR (sV (vA rfl) (sN (nT (cS (cS (cR (sV (vL rfl ld26) ?_))))))))))))
      refine sV (vN rfl) (sV (vF rfl fa90_0 rfl) (sV (vL rfl ld22) ?_))
      refine sV (vM rfl) (sV (v_ixo (m.head l[i] - 1).toNat (congrArg some hsv) rfl sl22 (by omega) ob.i) (sV (vL rfl ld55) ?_))
      refine sV (v_len (congrArg some hue) Tryz.underlying55) (sV (vM rfl) (sN (nK [2, 4, 8, 9, 10, 13, 14, 15, 16, 72, 73, 74] rfl (nT (cd_use (hrow_y_c (L := L) (μ := μ) (S := S) (m := m) (b2 := b2) (b4 := b4) (b7 := b7) (b8 := b8) (b10 := b10) (mp := mp) (w0 := w0) (lv := lv) (M := M) (hr := pt b10 (cl [sv, fv, rv] 38) :: vec sv 3 1 i (ints ((m.pic roots).shapes.take i)) :: vec fv 27 1 i us :: Res.star (rowsI us ((m.pic roots).fields.take i)) :: hr) I h hlt ht hmet hu hMpre hM0 (.int .i64 (m.head l[i] - 1)) fun lv' rv' => ?_) (by repeat (first | exact trivial | refine ⟨rfl, ?_⟩ | refine ⟨congrArg some (congrArg (fun x => Value.slice x.1 x.2 x.3) rfl), ?_⟩)) (by unfold pcSH; simp only [List.cons_append, List.nil_append]; exact (by repeat (first | exact Sub.refl _ | exact Sub.nil _ | refine Sub.sel (by repeat (first | exact Sel.here | apply Sel.there)) ?_ | apply Sub.cons))))))))
      unfold pcSH
      simp only [List.cons_append, List.nil_append]
      refine xt_vform (v := rv') (n := (m.row l[i]).length) (l := ints (m.gr.prow M l[i])) (by repeat (first | exact Sel.here | apply Sel.there)) fun hvf => ?_
      have hone := VForm.one hvf
      refine xT (cd_draw (ork [(0, 2), (1, 1), (2, 2), (5, 2), (6, 1), (7, 2)] (.two 3 (.two 4 (ork [(10, 2), (8, 0), (9, 0), (11, 0), (12, 2), (13, 0)] .nil) 8 (ork [(4, 0), (10, 2), (9, 0), (11, 0), (12, 2), (13, 0)] .nil)) 8 (ork [(3, 0), (4, 0), (10, 2), (9, 0), (11, 0), (12, 2), (13, 0)] .nil))) (fun i => !(Nat.beq i 9 || Nat.beq i 11 || Nat.beq i 13)) [pt b10 (cl [sv, fv, rv] 38)] mixed (by kernel_rfl) ?_)
      refine dV rfl (vF rfl fa38_0 rfl) (dr_v rfl (vL rfl ld27) ?_)
      refine dV rfl (vM rfl) (dV rfl (vF rfl fa38_1 rfl) (dr_v rfl (vL rfl ld36) ?_))
      refine dV rfl (vM rfl) (dr_cutK (α := Value × Value) (fun x => [(2, .pointer (some ⟨b2, 0, none⟩)), (4, .pointer (some ⟨b4, 0, none⟩)), (8, .pointer (some ⟨b8, 0, none⟩)), (9, .func (.func 32) #[] #[.pointer (some ⟨b2, 0, none⟩), .pointer (some ⟨b7, 0, none⟩), .pointer (some ⟨b8, 0, none⟩)]), (10, .pointer (some ⟨b10, 0, none⟩)), (13, .int .i64 (i : Nat))]) (fun x => pt b10 (cl [x.1, x.2, rv] 38) :: vec x.1 3 1 (i + 1) (ints ((m.pic roots).shapes.take i) ++ [.int .i64 (m.head l[i] - 1)]) :: vec x.2 27 1 (i + 1) (us ++ [rv']) :: vec rv' 3 1 (m.row l[i]).length (ints (m.gr.prow M l[i])) :: Res.star (rowsI us ((m.pic roots).fields.take i)) :: (pcSH L μ b2 b7 b8 mp lv' ((m.gr.succ l[i]).foldl pmeet l) ++ ([sb L.y μ.y, wb L.y μ.y, tb L.y μ.y, sb L.n μ.n, wb L.n μ.n, tb L.n μ.n, wb L.o μ.o, S] ++ hr))) (fun x => ?_) (fun hcont => ?_))
      · skip
        refine nx_xt ?_
        obtain ⟨sv', fv'⟩ := x
        dsimp only
        unfold pcSH
        simp only [List.cons_append, List.nil_append]
        refine xB (xT (cR (sV (vM rfl) (sV (v_add rfl rfl (by unfold I64 at *; omega)) (sV (vA rfl) (sN (nK [2, 4, 8, 9, 10, 13] rfl (nx_xt (xt_restar (k' := rowsI (us ++ [rv']) ((m.pic roots).fields.take (i + 1))) (r := vec rv' 3 1 (m.row l[i]).length (ints (m.gr.prow M l[i]))) (k := rowsI us ((m.pic roots).fields.take i)) (by repeat (first | exact Sel.here | apply Sel.there)) (by repeat (first | exact Sel.here | apply Sel.there)) (by rw [hf1, rowsI_snoc (by rw [List.length_take]; omega), hAl]; exact (List.perm_append_singleton _ _).symm) ?_)))))))))
        rw [show ints ((m.pic roots).shapes.take i) ++ [.int .i64 (m.head l[i] - 1)] = ints ((m.pic roots).shapes.take (i + 1)) by rw [hs1]; simp [ints]]
        refine xt_ag (i + 1, (m.gr.succ l[i]).foldl pmeet l, lv', us ++ [rv'], sv', fv') ⟨by show i + 1 ≤ _; rw [hex, List.length_append]; omega, hmet2, hcl2, by simp [hul], snoc_all (P := fun (u : Value) (x : List Int) => VForm u x.length (ints x)) hul hform hfi (by rw [hAl]; exact hvf)⟩ (by show _ - _ < _ - _; omega) (by repeat (first | exact trivial | refine ⟨rfl, ?_⟩)) (by dsimp only; (try unfold pcSH); (try simp only [List.cons_append, List.nil_append]); exact (by repeat (first | exact Sub.refl _ | exact Sub.nil _ | refine Sub.sel (by repeat (first | exact Sel.here | apply Sel.there)) ?_ | apply Sub.cons)))
      · skip
        unfold pcSH at hcont
        simp only [List.cons_append, List.nil_append] at hcont
        refine dr_two rfl rfl ?_ ?_
        · skip
          refine st_buildSlice (cells := [.int .i64 (m.head l[i] - 1)]) rfl Tryz.underlying27 inf3 rfl rfl (by kernel_rfl) (ltn rfl) fun b104 => dr_nx ?_
          refine dr_two rfl rfl ?_ ?_
          · skip
            refine st_append (news := [.int .i64 (m.head l[i] - 1)]) rfl rfl Tryz.underlying27 inf3 rfl (ltn rfl) (by repeat (first | exact Sel.here | apply Sel.there)) rfl (fun j u hu => by repeat (first | exact at_here (rd_cl (by simpa using hu)) | apply at_there)) (ones rfl) (by omega) (by omega) (ltn rfl) fun sv' hsv' hv1 => dr_nx ?_
            refine dV rfl (vF rfl fa38_0 rfl) (dr_eff rfl (st_buildSlice (cells := [rv']) rfl Tryz.underlying36 inf27 rfl rfl (fill_one hone _ (by simp)) (ltn rfl) fun b109 => dr_nx ?_))
            refine dr_eff rfl (st_append (news := [rv']) rfl rfl Tryz.underlying36 inf27 rfl (ltn rfl) (by repeat (first | exact Sel.here | apply Sel.there)) rfl (fun j u hu => by repeat (first | exact at_here (rd_cl (by simpa using hu)) | apply at_there)) (fun x hx => by simp at hx; subst hx; exact hone) (by omega) (by omega) (ltn rfl) fun fv' hfv' hv2 => dr_nx ?_)
            refine dr_eff rfl (st_sto rfl rfl sz27 (dr_nx ?_))
            refine dV rfl (vF rfl fa38_1 rfl) (dr_eff rfl (st_sto rfl rfl sz36 (dr_nx ?_)))
            exact dr_nil (hcont (sv', fv') _ _ ⟨rfl, rfl, rfl, rfl, rfl, rfl, trivial⟩ (by repeat (first | exact Sub.refl _ | exact Sub.nil _ | refine Sub.sel (by repeat (first | exact Sel.here | apply Sel.there)) ?_ | apply Sub.cons)))
          · skip
            refine st_buildSlice (cells := [rv']) rfl Tryz.underlying36 inf27 rfl rfl (fill_one hone _ (by simp)) (ltn rfl) fun b109 => dr_nx ?_
            refine dr_eff rfl (st_append (news := [.int .i64 (m.head l[i] - 1)]) rfl rfl Tryz.underlying27 inf3 rfl (ltn rfl) (by repeat (first | exact Sel.here | apply Sel.there)) rfl (fun j u hu => by repeat (first | exact at_here (rd_cl (by simpa using hu)) | apply at_there)) (ones rfl) (by omega) (by omega) (ltn rfl) fun sv' hsv' hv1 => dr_nx ?_)
            refine dV rfl (vF rfl fa38_0 rfl) (dr_eff rfl (st_append (news := [rv']) rfl rfl Tryz.underlying36 inf27 rfl (ltn rfl) (by repeat (first | exact Sel.here | apply Sel.there)) rfl (fun j u hu => by repeat (first | exact at_here (rd_cl (by simpa using hu)) | apply at_there)) (fun x hx => by simp at hx; subst hx; exact hone) (by omega) (by omega) (ltn rfl) fun fv' hfv' hv2 => dr_nx ?_))
            refine dr_eff rfl (st_sto rfl rfl sz27 (dr_nx ?_))
            refine dV rfl (vF rfl fa38_1 rfl) (dr_eff rfl (st_sto rfl rfl sz36 (dr_nx ?_)))
            exact dr_nil (hcont (sv', fv') _ _ ⟨rfl, rfl, rfl, rfl, rfl, rfl, trivial⟩ (by repeat (first | exact Sub.refl _ | exact Sub.nil _ | refine Sub.sel (by repeat (first | exact Sel.here | apply Sel.there)) ?_ | apply Sub.cons)))
        · skip
          refine st_buildSlice (cells := [rv']) rfl Tryz.underlying36 inf27 rfl rfl (fill_one hone _ (by simp)) (ltn rfl) fun b109 => dr_nx ?_
          refine dr_eff rfl (st_buildSlice (cells := [.int .i64 (m.head l[i] - 1)]) rfl Tryz.underlying27 inf3 rfl rfl (by kernel_rfl) (ltn rfl) fun b104 => dr_nx ?_)
          refine dr_eff rfl (st_append (news := [.int .i64 (m.head l[i] - 1)]) rfl rfl Tryz.underlying27 inf3 rfl (ltn rfl) (by repeat (first | exact Sel.here | apply Sel.there)) rfl (fun j u hu => by repeat (first | exact at_here (rd_cl (by simpa using hu)) | apply at_there)) (ones rfl) (by omega) (by omega) (ltn rfl) fun sv' hsv' hv1 => dr_nx ?_)
          refine dV rfl (vF rfl fa38_0 rfl) (dr_eff rfl (st_append (news := [rv']) rfl rfl Tryz.underlying36 inf27 rfl (ltn rfl) (by repeat (first | exact Sel.here | apply Sel.there)) rfl (fun j u hu => by repeat (first | exact at_here (rd_cl (by simpa using hu)) | apply at_there)) (fun x hx => by simp at hx; subst hx; exact hone) (by omega) (by omega) (ltn rfl) fun fv' hfv' hv2 => dr_nx ?_))
          refine dr_eff rfl (st_sto rfl rfl sz27 (dr_nx ?_))
          refine dV rfl (vF rfl fa38_1 rfl) (dr_eff rfl (st_sto rfl rfl sz36 (dr_nx ?_)))
          exact dr_nil (hcont (sv', fv') _ _ ⟨rfl, rfl, rfl, rfl, rfl, rfl, trivial⟩ (by repeat (first | exact Sub.refl _ | exact Sub.nil _ | refine Sub.sel (by repeat (first | exact Sel.here | apply Sel.there)) ?_ | apply Sub.cons)))
    · skip
      have hbd := h.g.obd ht; have e1 := I.r.n.fr; have e2 := I.r.n.ln; have e3 := h.g.oldle; have ok := I.r.okn h.g; have hwd := I.r.wdn h.g ht
      have k1 := ok.us; have k2 := ok.fr; have k3 := ok.ws
      have hin : Reads Tryz.prog 34 #[.pointer (some ⟨L.mb, 0, none⟩), .int .i64 l[i]] (inSH L μ) (.pointer (some ⟨L.n.sb, 0, none⟩)) := by rw [← inP_n I h ht]; exact hin_ct I h
      unfold inSH at hin
      have hrdw : Rd (wb L.n μ.n) ⟨L.n.wb, (l[i] - μ.n.fr).toNat, none⟩ (.int .i64 (m.head l[i] - 1)) := by rw [← hwd]; exact rd_ints (by omega)
      refine cK (xT (cS (cd_block (cS (cd_drawh (ork [(0, 1), (1, 1), (2, 2), (3, 2), (4, 1), (5, 1), (6, 2)] .nil) (fun _ => true) mixed (by kernel_rfl) ?_)))))
      refine dr_v rfl (vL rfl ld26) ?_
      refine dr_v rfl (vL rfl ld27) ?_
      refine dV rfl (vM rfl) (dV rfl (v_idx i (congrArg some hlv) rfl sl27 rfl hlt) (dr_v rfl (vL rfl ld3) ?_))
      refine dr_clr rfl rfl rfl en34 rfl (hin) ?_
      refine dV rfl (vA rfl) (dr_nil (nK [2, 4, 8, 9, 10, 13, 14] rfl (nT (cS (cd_drawh (ork [(0, 2), (1, 2), (2, 2), (3, 1), (4, 2), (5, 2), (6, 1), (7, 1), (8, 2), (9, 1), (10, 2)] .nil) (fun _ => true) mixed (by kernel_rfl) ?_)))))
      refine dV rfl (vM rfl) (dV rfl (vN rfl) (dV rfl (vF rfl fa87_0 rfl) (dr_v rfl (vL rfl ld27) ?_)))
      refine dV rfl (vM rfl) (dV rfl (v_idx i (congrArg some hlv) rfl sl27 rfl hlt) (dr_v rfl (vL rfl ld3) ?_))
      refine dr_clr rfl rfl rfl en35 rfl (word_ct (l := L.n) (s := μ.n) ok (by omega) (by omega)) ?_
      refine dV rfl (vN rfl) (dr_v rfl (vL rfl ld3) ?_)
      refine dV rfl (vA rfl) (dr_nil (nK [2, 4, 8, 9, 10, 13, 14, 15] rfl (nT (cS (cR (sV (vA rfl) (sN (nT (cS (cS (cR (sV (vL rfl ld26) ?_))))))))))))
      refine sV (vN rfl) (sV (vF rfl fa90_0 rfl) (sV (vL rfl ld22) ?_))
      refine sV (vM rfl) (sV (v_ixo (m.head l[i] - 1).toNat (congrArg some hsv) rfl sl22 (by omega) ob.i) (sV (vL rfl ld55) ?_))
      refine sV (v_len (congrArg some hue) Tryz.underlying55) (sV (vM rfl) (sN (nK [2, 4, 8, 9, 10, 13, 14, 15, 16, 72, 73, 74] rfl (nT (cd_use (hrow_n_c (L := L) (μ := μ) (S := S) (m := m) (b2 := b2) (b4 := b4) (b7 := b7) (b8 := b8) (b10 := b10) (mp := mp) (w0 := w0) (lv := lv) (M := M) (hr := pt b10 (cl [sv, fv, rv] 38) :: vec sv 3 1 i (ints ((m.pic roots).shapes.take i)) :: vec fv 27 1 i us :: Res.star (rowsI us ((m.pic roots).fields.take i)) :: hr) I h hlt ht hmet hu hMpre hM0 (.int .i64 (m.head l[i] - 1)) fun lv' rv' => ?_) (by repeat (first | exact trivial | refine ⟨rfl, ?_⟩ | refine ⟨congrArg some (congrArg (fun x => Value.slice x.1 x.2 x.3) rfl), ?_⟩)) (by unfold pcSH; simp only [List.cons_append, List.nil_append]; exact (by repeat (first | exact Sub.refl _ | exact Sub.nil _ | refine Sub.sel (by repeat (first | exact Sel.here | apply Sel.there)) ?_ | apply Sub.cons))))))))
      unfold pcSH
      simp only [List.cons_append, List.nil_append]
      refine xt_vform (v := rv') (n := (m.row l[i]).length) (l := ints (m.gr.prow M l[i])) (by repeat (first | exact Sel.here | apply Sel.there)) fun hvf => ?_
      have hone := VForm.one hvf
      refine xT (cd_draw (ork [(0, 2), (1, 1), (2, 2), (5, 2), (6, 1), (7, 2)] (.two 3 (.two 4 (ork [(10, 2), (8, 0), (9, 0), (11, 0), (12, 2), (13, 0)] .nil) 8 (ork [(4, 0), (10, 2), (9, 0), (11, 0), (12, 2), (13, 0)] .nil)) 8 (ork [(3, 0), (4, 0), (10, 2), (9, 0), (11, 0), (12, 2), (13, 0)] .nil))) (fun i => !(Nat.beq i 9 || Nat.beq i 11 || Nat.beq i 13)) [pt b10 (cl [sv, fv, rv] 38)] mixed (by kernel_rfl) ?_)
      refine dV rfl (vF rfl fa38_0 rfl) (dr_v rfl (vL rfl ld27) ?_)
      refine dV rfl (vM rfl) (dV rfl (vF rfl fa38_1 rfl) (dr_v rfl (vL rfl ld36) ?_))
      refine dV rfl (vM rfl) (dr_cutK (α := Value × Value) (fun x => [(2, .pointer (some ⟨b2, 0, none⟩)), (4, .pointer (some ⟨b4, 0, none⟩)), (8, .pointer (some ⟨b8, 0, none⟩)), (9, .func (.func 32) #[] #[.pointer (some ⟨b2, 0, none⟩), .pointer (some ⟨b7, 0, none⟩), .pointer (some ⟨b8, 0, none⟩)]), (10, .pointer (some ⟨b10, 0, none⟩)), (13, .int .i64 (i : Nat))]) (fun x => pt b10 (cl [x.1, x.2, rv] 38) :: vec x.1 3 1 (i + 1) (ints ((m.pic roots).shapes.take i) ++ [.int .i64 (m.head l[i] - 1)]) :: vec x.2 27 1 (i + 1) (us ++ [rv']) :: vec rv' 3 1 (m.row l[i]).length (ints (m.gr.prow M l[i])) :: Res.star (rowsI us ((m.pic roots).fields.take i)) :: (pcSH L μ b2 b7 b8 mp lv' ((m.gr.succ l[i]).foldl pmeet l) ++ ([sb L.y μ.y, wb L.y μ.y, tb L.y μ.y, sb L.n μ.n, wb L.n μ.n, tb L.n μ.n, wb L.o μ.o, S] ++ hr))) (fun x => ?_) (fun hcont => ?_))
      · skip
        refine nx_xt ?_
        obtain ⟨sv', fv'⟩ := x
        dsimp only
        unfold pcSH
        simp only [List.cons_append, List.nil_append]
        refine xB (xT (cR (sV (vM rfl) (sV (v_add rfl rfl (by unfold I64 at *; omega)) (sV (vA rfl) (sN (nK [2, 4, 8, 9, 10, 13] rfl (nx_xt (xt_restar (k' := rowsI (us ++ [rv']) ((m.pic roots).fields.take (i + 1))) (r := vec rv' 3 1 (m.row l[i]).length (ints (m.gr.prow M l[i]))) (k := rowsI us ((m.pic roots).fields.take i)) (by repeat (first | exact Sel.here | apply Sel.there)) (by repeat (first | exact Sel.here | apply Sel.there)) (by rw [hf1, rowsI_snoc (by rw [List.length_take]; omega), hAl]; exact (List.perm_append_singleton _ _).symm) ?_)))))))))
        rw [show ints ((m.pic roots).shapes.take i) ++ [.int .i64 (m.head l[i] - 1)] = ints ((m.pic roots).shapes.take (i + 1)) by rw [hs1]; simp [ints]]
        refine xt_ag (i + 1, (m.gr.succ l[i]).foldl pmeet l, lv', us ++ [rv'], sv', fv') ⟨by show i + 1 ≤ _; rw [hex, List.length_append]; omega, hmet2, hcl2, by simp [hul], snoc_all (P := fun (u : Value) (x : List Int) => VForm u x.length (ints x)) hul hform hfi (by rw [hAl]; exact hvf)⟩ (by show _ - _ < _ - _; omega) (by repeat (first | exact trivial | refine ⟨rfl, ?_⟩)) (by dsimp only; (try unfold pcSH); (try simp only [List.cons_append, List.nil_append]); exact (by repeat (first | exact Sub.refl _ | exact Sub.nil _ | refine Sub.sel (by repeat (first | exact Sel.here | apply Sel.there)) ?_ | apply Sub.cons)))
      · skip
        unfold pcSH at hcont
        simp only [List.cons_append, List.nil_append] at hcont
        refine dr_two rfl rfl ?_ ?_
        · skip
          refine st_buildSlice (cells := [.int .i64 (m.head l[i] - 1)]) rfl Tryz.underlying27 inf3 rfl rfl (by kernel_rfl) (ltn rfl) fun b104 => dr_nx ?_
          refine dr_two rfl rfl ?_ ?_
          · skip
            refine st_append (news := [.int .i64 (m.head l[i] - 1)]) rfl rfl Tryz.underlying27 inf3 rfl (ltn rfl) (by repeat (first | exact Sel.here | apply Sel.there)) rfl (fun j u hu => by repeat (first | exact at_here (rd_cl (by simpa using hu)) | apply at_there)) (ones rfl) (by omega) (by omega) (ltn rfl) fun sv' hsv' hv1 => dr_nx ?_
            refine dV rfl (vF rfl fa38_0 rfl) (dr_eff rfl (st_buildSlice (cells := [rv']) rfl Tryz.underlying36 inf27 rfl rfl (fill_one hone _ (by simp)) (ltn rfl) fun b109 => dr_nx ?_))
            refine dr_eff rfl (st_append (news := [rv']) rfl rfl Tryz.underlying36 inf27 rfl (ltn rfl) (by repeat (first | exact Sel.here | apply Sel.there)) rfl (fun j u hu => by repeat (first | exact at_here (rd_cl (by simpa using hu)) | apply at_there)) (fun x hx => by simp at hx; subst hx; exact hone) (by omega) (by omega) (ltn rfl) fun fv' hfv' hv2 => dr_nx ?_)
            refine dr_eff rfl (st_sto rfl rfl sz27 (dr_nx ?_))
            refine dV rfl (vF rfl fa38_1 rfl) (dr_eff rfl (st_sto rfl rfl sz36 (dr_nx ?_)))
            exact dr_nil (hcont (sv', fv') _ _ ⟨rfl, rfl, rfl, rfl, rfl, rfl, trivial⟩ (by repeat (first | exact Sub.refl _ | exact Sub.nil _ | refine Sub.sel (by repeat (first | exact Sel.here | apply Sel.there)) ?_ | apply Sub.cons)))
          · skip
            refine st_buildSlice (cells := [rv']) rfl Tryz.underlying36 inf27 rfl rfl (fill_one hone _ (by simp)) (ltn rfl) fun b109 => dr_nx ?_
            refine dr_eff rfl (st_append (news := [.int .i64 (m.head l[i] - 1)]) rfl rfl Tryz.underlying27 inf3 rfl (ltn rfl) (by repeat (first | exact Sel.here | apply Sel.there)) rfl (fun j u hu => by repeat (first | exact at_here (rd_cl (by simpa using hu)) | apply at_there)) (ones rfl) (by omega) (by omega) (ltn rfl) fun sv' hsv' hv1 => dr_nx ?_)
            refine dV rfl (vF rfl fa38_0 rfl) (dr_eff rfl (st_append (news := [rv']) rfl rfl Tryz.underlying36 inf27 rfl (ltn rfl) (by repeat (first | exact Sel.here | apply Sel.there)) rfl (fun j u hu => by repeat (first | exact at_here (rd_cl (by simpa using hu)) | apply at_there)) (fun x hx => by simp at hx; subst hx; exact hone) (by omega) (by omega) (ltn rfl) fun fv' hfv' hv2 => dr_nx ?_))
            refine dr_eff rfl (st_sto rfl rfl sz27 (dr_nx ?_))
            refine dV rfl (vF rfl fa38_1 rfl) (dr_eff rfl (st_sto rfl rfl sz36 (dr_nx ?_)))
            exact dr_nil (hcont (sv', fv') _ _ ⟨rfl, rfl, rfl, rfl, rfl, rfl, trivial⟩ (by repeat (first | exact Sub.refl _ | exact Sub.nil _ | refine Sub.sel (by repeat (first | exact Sel.here | apply Sel.there)) ?_ | apply Sub.cons)))
        · skip
          refine st_buildSlice (cells := [rv']) rfl Tryz.underlying36 inf27 rfl rfl (fill_one hone _ (by simp)) (ltn rfl) fun b109 => dr_nx ?_
          refine dr_eff rfl (st_buildSlice (cells := [.int .i64 (m.head l[i] - 1)]) rfl Tryz.underlying27 inf3 rfl rfl (by kernel_rfl) (ltn rfl) fun b104 => dr_nx ?_)
          refine dr_eff rfl (st_append (news := [.int .i64 (m.head l[i] - 1)]) rfl rfl Tryz.underlying27 inf3 rfl (ltn rfl) (by repeat (first | exact Sel.here | apply Sel.there)) rfl (fun j u hu => by repeat (first | exact at_here (rd_cl (by simpa using hu)) | apply at_there)) (ones rfl) (by omega) (by omega) (ltn rfl) fun sv' hsv' hv1 => dr_nx ?_)
          refine dV rfl (vF rfl fa38_0 rfl) (dr_eff rfl (st_append (news := [rv']) rfl rfl Tryz.underlying36 inf27 rfl (ltn rfl) (by repeat (first | exact Sel.here | apply Sel.there)) rfl (fun j u hu => by repeat (first | exact at_here (rd_cl (by simpa using hu)) | apply at_there)) (fun x hx => by simp at hx; subst hx; exact hone) (by omega) (by omega) (ltn rfl) fun fv' hfv' hv2 => dr_nx ?_))
          refine dr_eff rfl (st_sto rfl rfl sz27 (dr_nx ?_))
          refine dV rfl (vF rfl fa38_1 rfl) (dr_eff rfl (st_sto rfl rfl sz36 (dr_nx ?_)))
          exact dr_nil (hcont (sv', fv') _ _ ⟨rfl, rfl, rfl, rfl, rfl, rfl, trivial⟩ (by repeat (first | exact Sub.refl _ | exact Sub.nil _ | refine Sub.sel (by repeat (first | exact Sel.here | apply Sel.there)) ?_ | apply Sub.cons)))
    · skip
      have hbd := h.g.fbd ht; obtain ⟨uo, o1, o2⟩ := I.r.o; have e1 := o1.fr; have e2 := o1.ln; have ok := I.r.oko h.g; have hwd := I.r.wdo h.g ht
      have k1 := ok.us; have k2 := ok.fr; have k3 := ok.ws
      have hin : Reads Tryz.prog 34 #[.pointer (some ⟨L.mb, 0, none⟩), .int .i64 l[i]] (inSH L μ) (.pointer (some ⟨L.o.sb, 0, none⟩)) := by rw [← inP_o I h ht]; exact hin_ct I h
      unfold inSH at hin
      have hrdw : Rd (wb L.o μ.o) ⟨L.o.wb, (l[i] - μ.o.fr).toNat, none⟩ (.int .i64 (m.head l[i] - 1)) := by rw [← hwd]; exact rd_ints (by omega)
      refine cK (xT (cS (cd_block (cS (cd_drawh (ork [(0, 1), (1, 1), (2, 2), (3, 2), (4, 1), (5, 1), (6, 2)] .nil) (fun _ => true) mixed (by kernel_rfl) ?_)))))
      refine dr_v rfl (vL rfl ld26) ?_
      refine dr_v rfl (vL rfl ld27) ?_
      refine dV rfl (vM rfl) (dV rfl (v_idx i (congrArg some hlv) rfl sl27 rfl hlt) (dr_v rfl (vL rfl ld3) ?_))
      refine dr_clr rfl rfl rfl en34 rfl (hin) ?_
      refine dV rfl (vA rfl) (dr_nil (nK [2, 4, 8, 9, 10, 13, 14] rfl (nT (cS (cd_drawh (ork [(0, 2), (1, 2), (2, 2), (3, 1), (4, 2), (5, 2), (6, 1), (7, 1), (8, 2), (9, 1), (10, 2)] .nil) (fun _ => true) mixed (by kernel_rfl) ?_)))))
      refine dV rfl (vM rfl) (dV rfl (vN rfl) (dV rfl (vF rfl fa87_0 rfl) (dr_v rfl (vL rfl ld27) ?_)))
      refine dV rfl (vM rfl) (dV rfl (v_idx i (congrArg some hlv) rfl sl27 rfl hlt) (dr_v rfl (vL rfl ld3) ?_))
      refine dr_clr rfl rfl rfl en35 rfl (word_ct (l := L.o) (s := μ.o) ok (by omega) (by omega)) ?_
      refine dV rfl (vN rfl) (dr_v rfl (vL rfl ld3) ?_)
      refine dV rfl (vA rfl) (dr_nil (nK [2, 4, 8, 9, 10, 13, 14, 15] rfl (nT (cS (cR (sV (vA rfl) (sN (nT (cS (cS (cR (sV (vL rfl ld26) ?_))))))))))))
      refine sV (vN rfl) (sV (vF rfl fa90_0 rfl) (sV (vL rfl ld22) ?_))
      refine sV (vM rfl) (sV (v_ixo (m.head l[i] - 1).toNat (congrArg some hsv) rfl sl22 (by omega) ob.i) (sV (vL rfl ld55) ?_))
      refine sV (v_len (congrArg some hue) Tryz.underlying55) (sV (vM rfl) (sN (nK [2, 4, 8, 9, 10, 13, 14, 15, 16, 72, 73, 74] rfl (nT (cd_use (hrow_o_c (L := L) (μ := μ) (S := S) (m := m) (b2 := b2) (b4 := b4) (b7 := b7) (b8 := b8) (b10 := b10) (mp := mp) (w0 := w0) (lv := lv) (M := M) (hr := pt b10 (cl [sv, fv, rv] 38) :: vec sv 3 1 i (ints ((m.pic roots).shapes.take i)) :: vec fv 27 1 i us :: Res.star (rowsI us ((m.pic roots).fields.take i)) :: hr) I h hlt ht hmet hu hMpre hM0 (.int .i64 (m.head l[i] - 1)) fun lv' rv' => ?_) (by repeat (first | exact trivial | refine ⟨rfl, ?_⟩ | refine ⟨congrArg some (congrArg (fun x => Value.slice x.1 x.2 x.3) rfl), ?_⟩)) (by unfold pcSH; simp only [List.cons_append, List.nil_append]; exact (by repeat (first | exact Sub.refl _ | exact Sub.nil _ | refine Sub.sel (by repeat (first | exact Sel.here | apply Sel.there)) ?_ | apply Sub.cons))))))))
      unfold pcSH
      simp only [List.cons_append, List.nil_append]
      refine xt_vform (v := rv') (n := (m.row l[i]).length) (l := ints (m.gr.prow M l[i])) (by repeat (first | exact Sel.here | apply Sel.there)) fun hvf => ?_
      have hone := VForm.one hvf
      refine xT (cd_draw (ork [(0, 2), (1, 1), (2, 2), (5, 2), (6, 1), (7, 2)] (.two 3 (.two 4 (ork [(10, 2), (8, 0), (9, 0), (11, 0), (12, 2), (13, 0)] .nil) 8 (ork [(4, 0), (10, 2), (9, 0), (11, 0), (12, 2), (13, 0)] .nil)) 8 (ork [(3, 0), (4, 0), (10, 2), (9, 0), (11, 0), (12, 2), (13, 0)] .nil))) (fun i => !(Nat.beq i 9 || Nat.beq i 11 || Nat.beq i 13)) [pt b10 (cl [sv, fv, rv] 38)] mixed (by kernel_rfl) ?_)
      refine dV rfl (vF rfl fa38_0 rfl) (dr_v rfl (vL rfl ld27) ?_)
      refine dV rfl (vM rfl) (dV rfl (vF rfl fa38_1 rfl) (dr_v rfl (vL rfl ld36) ?_))
      refine dV rfl (vM rfl) (dr_cutK (α := Value × Value) (fun x => [(2, .pointer (some ⟨b2, 0, none⟩)), (4, .pointer (some ⟨b4, 0, none⟩)), (8, .pointer (some ⟨b8, 0, none⟩)), (9, .func (.func 32) #[] #[.pointer (some ⟨b2, 0, none⟩), .pointer (some ⟨b7, 0, none⟩), .pointer (some ⟨b8, 0, none⟩)]), (10, .pointer (some ⟨b10, 0, none⟩)), (13, .int .i64 (i : Nat))]) (fun x => pt b10 (cl [x.1, x.2, rv] 38) :: vec x.1 3 1 (i + 1) (ints ((m.pic roots).shapes.take i) ++ [.int .i64 (m.head l[i] - 1)]) :: vec x.2 27 1 (i + 1) (us ++ [rv']) :: vec rv' 3 1 (m.row l[i]).length (ints (m.gr.prow M l[i])) :: Res.star (rowsI us ((m.pic roots).fields.take i)) :: (pcSH L μ b2 b7 b8 mp lv' ((m.gr.succ l[i]).foldl pmeet l) ++ ([sb L.y μ.y, wb L.y μ.y, tb L.y μ.y, sb L.n μ.n, wb L.n μ.n, tb L.n μ.n, wb L.o μ.o, S] ++ hr))) (fun x => ?_) (fun hcont => ?_))
      · skip
        refine nx_xt ?_
        obtain ⟨sv', fv'⟩ := x
        dsimp only
        unfold pcSH
        simp only [List.cons_append, List.nil_append]
        refine xB (xT (cR (sV (vM rfl) (sV (v_add rfl rfl (by unfold I64 at *; omega)) (sV (vA rfl) (sN (nK [2, 4, 8, 9, 10, 13] rfl (nx_xt (xt_restar (k' := rowsI (us ++ [rv']) ((m.pic roots).fields.take (i + 1))) (r := vec rv' 3 1 (m.row l[i]).length (ints (m.gr.prow M l[i]))) (k := rowsI us ((m.pic roots).fields.take i)) (by repeat (first | exact Sel.here | apply Sel.there)) (by repeat (first | exact Sel.here | apply Sel.there)) (by rw [hf1, rowsI_snoc (by rw [List.length_take]; omega), hAl]; exact (List.perm_append_singleton _ _).symm) ?_)))))))))
        rw [show ints ((m.pic roots).shapes.take i) ++ [.int .i64 (m.head l[i] - 1)] = ints ((m.pic roots).shapes.take (i + 1)) by rw [hs1]; simp [ints]]
        refine xt_ag (i + 1, (m.gr.succ l[i]).foldl pmeet l, lv', us ++ [rv'], sv', fv') ⟨by show i + 1 ≤ _; rw [hex, List.length_append]; omega, hmet2, hcl2, by simp [hul], snoc_all (P := fun (u : Value) (x : List Int) => VForm u x.length (ints x)) hul hform hfi (by rw [hAl]; exact hvf)⟩ (by show _ - _ < _ - _; omega) (by repeat (first | exact trivial | refine ⟨rfl, ?_⟩)) (by dsimp only; (try unfold pcSH); (try simp only [List.cons_append, List.nil_append]); exact (by repeat (first | exact Sub.refl _ | exact Sub.nil _ | refine Sub.sel (by repeat (first | exact Sel.here | apply Sel.there)) ?_ | apply Sub.cons)))
      · skip
        unfold pcSH at hcont
        simp only [List.cons_append, List.nil_append] at hcont
        refine dr_two rfl rfl ?_ ?_
        · skip
          refine st_buildSlice (cells := [.int .i64 (m.head l[i] - 1)]) rfl Tryz.underlying27 inf3 rfl rfl (by kernel_rfl) (ltn rfl) fun b104 => dr_nx ?_
          refine dr_two rfl rfl ?_ ?_
          · skip
            refine st_append (news := [.int .i64 (m.head l[i] - 1)]) rfl rfl Tryz.underlying27 inf3 rfl (ltn rfl) (by repeat (first | exact Sel.here | apply Sel.there)) rfl (fun j u hu => by repeat (first | exact at_here (rd_cl (by simpa using hu)) | apply at_there)) (ones rfl) (by omega) (by omega) (ltn rfl) fun sv' hsv' hv1 => dr_nx ?_
            refine dV rfl (vF rfl fa38_0 rfl) (dr_eff rfl (st_buildSlice (cells := [rv']) rfl Tryz.underlying36 inf27 rfl rfl (fill_one hone _ (by simp)) (ltn rfl) fun b109 => dr_nx ?_))
            refine dr_eff rfl (st_append (news := [rv']) rfl rfl Tryz.underlying36 inf27 rfl (ltn rfl) (by repeat (first | exact Sel.here | apply Sel.there)) rfl (fun j u hu => by repeat (first | exact at_here (rd_cl (by simpa using hu)) | apply at_there)) (fun x hx => by simp at hx; subst hx; exact hone) (by omega) (by omega) (ltn rfl) fun fv' hfv' hv2 => dr_nx ?_)
            refine dr_eff rfl (st_sto rfl rfl sz27 (dr_nx ?_))
            refine dV rfl (vF rfl fa38_1 rfl) (dr_eff rfl (st_sto rfl rfl sz36 (dr_nx ?_)))
            exact dr_nil (hcont (sv', fv') _ _ ⟨rfl, rfl, rfl, rfl, rfl, rfl, trivial⟩ (by repeat (first | exact Sub.refl _ | exact Sub.nil _ | refine Sub.sel (by repeat (first | exact Sel.here | apply Sel.there)) ?_ | apply Sub.cons)))
          · skip
            refine st_buildSlice (cells := [rv']) rfl Tryz.underlying36 inf27 rfl rfl (fill_one hone _ (by simp)) (ltn rfl) fun b109 => dr_nx ?_
            refine dr_eff rfl (st_append (news := [.int .i64 (m.head l[i] - 1)]) rfl rfl Tryz.underlying27 inf3 rfl (ltn rfl) (by repeat (first | exact Sel.here | apply Sel.there)) rfl (fun j u hu => by repeat (first | exact at_here (rd_cl (by simpa using hu)) | apply at_there)) (ones rfl) (by omega) (by omega) (ltn rfl) fun sv' hsv' hv1 => dr_nx ?_)
            refine dV rfl (vF rfl fa38_0 rfl) (dr_eff rfl (st_append (news := [rv']) rfl rfl Tryz.underlying36 inf27 rfl (ltn rfl) (by repeat (first | exact Sel.here | apply Sel.there)) rfl (fun j u hu => by repeat (first | exact at_here (rd_cl (by simpa using hu)) | apply at_there)) (fun x hx => by simp at hx; subst hx; exact hone) (by omega) (by omega) (ltn rfl) fun fv' hfv' hv2 => dr_nx ?_))
            refine dr_eff rfl (st_sto rfl rfl sz27 (dr_nx ?_))
            refine dV rfl (vF rfl fa38_1 rfl) (dr_eff rfl (st_sto rfl rfl sz36 (dr_nx ?_)))
            exact dr_nil (hcont (sv', fv') _ _ ⟨rfl, rfl, rfl, rfl, rfl, rfl, trivial⟩ (by repeat (first | exact Sub.refl _ | exact Sub.nil _ | refine Sub.sel (by repeat (first | exact Sel.here | apply Sel.there)) ?_ | apply Sub.cons)))
        · skip
          refine st_buildSlice (cells := [rv']) rfl Tryz.underlying36 inf27 rfl rfl (fill_one hone _ (by simp)) (ltn rfl) fun b109 => dr_nx ?_
          refine dr_eff rfl (st_buildSlice (cells := [.int .i64 (m.head l[i] - 1)]) rfl Tryz.underlying27 inf3 rfl rfl (by kernel_rfl) (ltn rfl) fun b104 => dr_nx ?_)
          refine dr_eff rfl (st_append (news := [.int .i64 (m.head l[i] - 1)]) rfl rfl Tryz.underlying27 inf3 rfl (ltn rfl) (by repeat (first | exact Sel.here | apply Sel.there)) rfl (fun j u hu => by repeat (first | exact at_here (rd_cl (by simpa using hu)) | apply at_there)) (ones rfl) (by omega) (by omega) (ltn rfl) fun sv' hsv' hv1 => dr_nx ?_)
          refine dV rfl (vF rfl fa38_0 rfl) (dr_eff rfl (st_append (news := [rv']) rfl rfl Tryz.underlying36 inf27 rfl (ltn rfl) (by repeat (first | exact Sel.here | apply Sel.there)) rfl (fun j u hu => by repeat (first | exact at_here (rd_cl (by simpa using hu)) | apply at_there)) (fun x hx => by simp at hx; subst hx; exact hone) (by omega) (by omega) (ltn rfl) fun fv' hfv' hv2 => dr_nx ?_))
          refine dr_eff rfl (st_sto rfl rfl sz27 (dr_nx ?_))
          refine dV rfl (vF rfl fa38_1 rfl) (dr_eff rfl (st_sto rfl rfl sz36 (dr_nx ?_)))
          exact dr_nil (hcont (sv', fv') _ _ ⟨rfl, rfl, rfl, rfl, rfl, rfl, trivial⟩ (by repeat (first | exact Sub.refl _ | exact Sub.nil _ | refine Sub.sel (by repeat (first | exact Sel.here | apply Sel.there)) ?_ | apply Sub.cons)))
  · skip
    have hge2 : ¬ i < l.length := by simpa using hc3
    have hlM : l = M := by rw [← hcl]; exact (Gr.close_end _ (by omega)).symm
    have hge : i = l.length := by omega
    have e1 : (m.pic roots).shapes.take i = (m.pic roots).shapes := List.take_of_length_le (by rw [p1, List.length_map, ← hlM]; omega)
    have e2 : (m.pic roots).fields.take i = (m.pic roots).fields := List.take_of_length_le (by rw [p2, List.length_map, ← hlM]; omega)
    rw [e1, e2, hge]
    have hc := hend us sv fv lv (by rw [← hlM]; omega) hform
    unfold pcSH at hc
    simp only [List.cons_append, List.nil_append] at hc
    rw [← hlM] at hc
    refine cd_exit (xE (xE (xt_exit_block ?_)))
    exact xt_use hc
end
end Go.Proofs.YtmhmpjgkkpbnnaaGreat
namespace Go.Proofs.YtmhmpjgkkpbnnaaGreat
open Go.Ck Fx Go.Hm Go.Hm.AM
attribute [local irreducible] St Cd Xt Nx DrL LsW
section
variable {L : MemL} {μ : Mem} {S R : Res} {m : AM} {ly ln lf : List Int} {φ : Int → Option Nat} {A : Store} {v u : Value} {roots l : List Int} {t : Int} {w0 : World} {hr : SH} {Q : Exit → Act → World → Prop} {b2 b4 b7 b8 b10 mp : Nat} {lv : Value}
set_option maxHeartbeats 2000000 in
set_option maxRecDepth 100000 in
theorem hroots_c (I : MI L μ S m) (h : AM.Good m ly ln lf φ A) (hv : RowI R v roots) (hrl : roots.length ≤ 1000000) (hro : ∀ r ∈ roots, r = 0 ∨ r ∈ ly ∨ r ∈ ln)
    (hend : ∀ lv rv, Xt ⟨Tryz.prog, none, 114, [], w0⟩ .normal Q [(2, .pointer (some ⟨b2, 0, none⟩)), (4, .pointer (some ⟨b4, 0, none⟩)), (8, .pointer (some ⟨b8, 0, none⟩)), (9, .func (.func 32) #[] #[.pointer (some ⟨b2, 0, none⟩), .pointer (some ⟨b7, 0, none⟩), .pointer (some ⟨b8, 0, none⟩)]), (10, .pointer (some ⟨b10, 0, none⟩))] (pt b10 (cl [.slice none 0 0, .slice none 0 0, rv] 38) :: vec rv 3 1 roots.length (ints (roots.map fun r => 1 + idx (m.gr.met m.T roots) r)) :: (pcSH L μ b2 b7 b8 mp lv (roots.foldl pmeet []) ++ ([sb L.y μ.y, wb L.y μ.y, tb L.y μ.y, sb L.n μ.n, wb L.n μ.n, tb L.n μ.n, wb L.o μ.o, S] ++ R :: hr)))) :
    Cd ⟨Tryz.prog, none, 114, [], w0⟩ (cdr (cdl (cdr (cdr (cdr (cdr (cdr (cdr (fbody Tryz.f8))))))))) Q [(2, .pointer (some ⟨b2, 0, none⟩)), (4, .pointer (some ⟨b4, 0, none⟩)), (8, .pointer (some ⟨b8, 0, none⟩)), (9, .func (.func 32) #[] #[.pointer (some ⟨b2, 0, none⟩), .pointer (some ⟨b7, 0, none⟩), .pointer (some ⟨b8, 0, none⟩)]), (10, .pointer (some ⟨b10, 0, none⟩)), (29, v), (30, .int .i64 roots.length), (31, .int .i64 0)] (pt b10 (cl [.slice none 0 0, .slice none 0 0, .slice none 0 0] 38) :: (pcSH L μ b2 b7 b8 mp (.slice none 0 0) [] ++ ([sb L.y μ.y, wb L.y μ.y, tb L.y μ.y, sb L.n μ.n, wb L.n μ.n, tb L.n μ.n, wb L.o μ.o, S] ++ R :: hr))) := by
  have hT := h.g.T_le
  have hobj : ∀ r ∈ roots, r = 0 ∨ AM.Obj ly ln lf r := fun r hr' => (hro r hr').imp id fun g => g.imp id .inl
  have hp : ∀ i, PM (AM.Obj ly ln lf) ((roots.take i).foldl pmeet []) := fun i => PM.meets _ PM.nil fun x hx => hobj x (List.mem_of_mem_take hx)
  have hpa : PM (AM.Obj ly ln lf) (roots.foldl pmeet []) := PM.meets _ PM.nil hobj
  obtain ⟨hMp, hMk⟩ := met_pm h hpa
  have hM0 := obj_ne h hMp
  refine cd_vecnil 3 1 ?_
  obtain ⟨ra, rcp, hv1, _⟩ := id hv
  refine cd_block (cd_loop (σ := Nat × Value × Value) (fun q => [(2, .pointer (some ⟨b2, 0, none⟩)), (4, .pointer (some ⟨b4, 0, none⟩)), (8, .pointer (some ⟨b8, 0, none⟩)), (9, .func (.func 32) #[] #[.pointer (some ⟨b2, 0, none⟩), .pointer (some ⟨b7, 0, none⟩), .pointer (some ⟨b8, 0, none⟩)]), (10, .pointer (some ⟨b10, 0, none⟩)), (29, v), (30, .int .i64 roots.length), (31, .int .i64 (q.1 : Nat))]) (fun q => pt b10 (cl [.slice none 0 0, .slice none 0 0, q.2.2] 38) :: vec q.2.2 3 1 q.1 (ints ((roots.map fun r => 1 + idx (m.gr.met m.T roots) r).take q.1)) :: (pcSH L μ b2 b7 b8 mp q.2.1 ((roots.take q.1).foldl pmeet []) ++ ([sb L.y μ.y, wb L.y μ.y, tb L.y μ.y, sb L.n μ.n, wb L.n μ.n, tb L.n μ.n, wb L.o μ.o, S] ++ R :: hr))) (fun q => q.1 ≤ roots.length) (fun q => roots.length - q.1) (0, .slice none 0 0, .slice none 0 0) (Nat.zero_le _) ⟨rfl, rfl, rfl, rfl, rfl, rfl, rfl, rfl, trivial⟩ (by unfold pcSH; simp only [List.cons_append, List.nil_append]; exact (by repeat (first | exact Sub.refl _ | exact Sub.nil _ | refine Sub.sel (by repeat (first | exact Sel.here | apply Sel.there)) ?_ | apply Sub.cons))) ?_)
  rintro ⟨i, lv, rv⟩ hi
  dsimp only at hi ⊢
  have hml := h.g.pm_len (hp i)
  unfold pcSH
  simp only [List.cons_append, List.nil_append]
  refine cS (cR (sV (v_lss rfl rfl) (sN (nT (cS (cC rfl (fun hc => ?_) (fun hc => ?_)))))))
  · skip
    have hlt : i < roots.length := by simpa using hc
    obtain ⟨b, o, cp', hv2, hrd⟩ := hv.at hlt
    have hri := hro _ (List.getElem_mem hlt)
    have hse := seen_root h hri
    have htk : (roots.take (i + 1)).foldl pmeet [] = pmeet ((roots.take i).foldl pmeet []) roots[i] := by rw [List.take_succ_eq_append_getElem hlt, pmeets_snoc]
    have hpre : ∃ k, roots.foldl pmeet [] = (roots.take (i + 1)).foldl pmeet [] ++ k := by
      conv => enter [1, k]; lhs; rw [← List.take_append_drop (i + 1) roots, List.foldl_append]
      exact pmeets_pre _ _
    have hidx : idx (pmeet ((roots.take i).foldl pmeet []) roots[i]) roots[i] = idx (m.gr.met m.T roots) roots[i] := idx_pre (pre_trans (by rw [← htk]; exact hpre) hMk) pmeet_has hM0
    have hix := idx_lt (l := m.gr.met m.T roots) (t := roots[i])
    have hta : (roots.map fun r => 1 + idx (m.gr.met m.T roots) r).take (i + 1) = (roots.map fun r => 1 + idx (m.gr.met m.T roots) r).take i ++ [1 + idx (m.gr.met m.T roots) roots[i]] := take_map_succ hlt
    have hMl := h.g.pm_len hMp
    refine cK (xT (cS (cd_block (cS (cR (sV (v_ixo i (congrArg some hv2) rfl sl27 rfl hlt) (sV (vL rfl ld3) ?_)))))))
    refine sV (vA rfl) (sN (nK [2, 4, 8, 9, 10, 12, 29, 30, 31] rfl (nT (cd_draw (ork [(0, 2), (1, 1), (2, 2), (3, 2), (4, 0), (5, 0), (6, 0), (7, 2), (8, 0)] .nil) (fun i => !(Nat.beq i 6 || Nat.beq i 8)) [pt b10 (cl [.slice none 0 0, .slice none 0 0, rv] 38)] mixed (by kernel_rfl) ?_))))
    refine dV rfl (vF rfl fa38_2 rfl) (dr_v rfl (vL rfl ld27) ?_)
    refine dV rfl (vM rfl) (dV rfl (vM rfl) (dr_eff rfl (st_cl rfl rfl en32 rfl (hpmeet_ct (b1 := b2) (b2 := b7) (b3 := b8) (mp := mp) (lv := lv) I h (hp i) (hobj _ (List.getElem_mem hlt))) ?_)))
    rintro v' h' ⟨rfl, lv', rfl⟩
    rw [hse, hidx]
    unfold pcSH
    simp only [List.cons_append, List.nil_append]
    refine dr_nx ?_
    refine dr_eff rfl (st_buildSlice (cells := [.int .i64 (1 + idx (m.gr.met m.T roots) roots[i])]) rfl Tryz.underlying27 inf3 rfl rfl (by kernel_rfl) (ltn rfl) fun b40 => dr_nx ?_)
    refine dr_eff rfl (st_append (news := [.int .i64 (1 + idx (m.gr.met m.T roots) roots[i])]) rfl rfl Tryz.underlying27 inf3 rfl (ltn rfl) (by repeat (first | exact Sel.here | apply Sel.there)) rfl (fun j u hu => by repeat (first | exact at_here (rd_cl (by simpa using hu)) | apply at_there)) (ones rfl) (by omega) (by omega) (ltn rfl) fun rv' hrv' hv1' => dr_nx ?_)
    refine dV rfl (vF rfl fa38_2 rfl) (dr_eff rfl (st_sto rfl rfl sz27 (dr_nx ?_)))
    refine dr_nil (nK [2, 4, 8, 9, 10, 29, 30, 31] rfl (nx_xt (xB (xT (cR (sV (v_add rfl rfl (by unfold I64 at *; omega)) (sV (vM rfl) (sN (nK [2, 4, 8, 9, 10, 29, 30, 31] rfl (nx_xt ?_))))))))))
    rw [show ints ((roots.map fun r => 1 + idx (m.gr.met m.T roots) r).take i) ++ [.int .i64 (1 + idx (m.gr.met m.T roots) roots[i])] = ints ((roots.map fun r => 1 + idx (m.gr.met m.T roots) r).take (i + 1)) by rw [hta]; simp [ints], ← htk]
    refine xt_ag (i + 1, lv', rv') hlt (by show _ - _ < _ - _; omega)
  · skip
    have hge : i = roots.length := by
      have : roots.length ≤ i := by simpa using hc
      omega
    have e2 : (roots.take i).foldl pmeet [] = roots.foldl pmeet [] := by rw [List.take_of_length_le (by omega)]
    rw [e2, hge, List.take_of_length_le (by simp)]
    have hc := hend lv rv
    unfold pcSH at hc
    simp only [List.cons_append, List.nil_append] at hc
    refine cd_exit (xE (xE (xt_exit_block ?_)))
    exact xt_use hc
set_option maxHeartbeats 2000000 in
set_option maxRecDepth 100000 in
theorem hpicture_ct (I : MI L μ S m) (h : AM.Good m ly ln lf φ A) (hv : RowI R v roots) (hrl : roots.length ≤ 1000000) :
    Ct Tryz.prog 8 #[.pointer (some ⟨L.mb, 0, none⟩), v] (memSH L μ S ++ [R]) fun u h' => ∃ sv fv rv us, u = .tuple #[.agg #[sv, fv, rv], .int .i64 (m.pictured roots).2] ∧ PF sv fv rv us (m.pictured roots).1 ∧ h' = pR sv fv rv us (m.pictured roots).1 :: (memSH L μ S ++ [R]) := by
  have hT := h.g.T_le
  obtain ⟨ra, rcp, hv1, _⟩ := id hv
  have hrt := I.r.rooted h.g roots
  unfold AM.pictured memSH
  refine ct_of (n := 114) Tryz.func8 rfl rfl (len rfl) fun hr w0 => ?_
  simp only [List.cons_append, List.nil_append]
  refine cS (cR (st_bx rfl rfl fun b2 => ?_))
  refine st_alc al38 fun b4 => ?_
  refine sV (vA rfl) (sN (nK [1, 2, 4, 5] rfl (nT (cS (cS (cR (sV (vL rfl ld26) ?_)))))))
  refine sV (vM rfl) (st_clr rfl rfl en31 rfl (rooted_ct (L := L) (μ := μ) (I.r.oky h.g) (I.r.okn h.g) I.yn hv hrl) ?_)
  rw [hrt]
  refine sV (vA rfl) (sN (nK [1, 2, 4, 5, 6] rfl (nT (cS (cR (sV (vM rfl) (sV (v_neq rfl rfl) (sN (nK [1, 2, 4, 5, 6, 24] rfl (nT (cC rfl (fun hc => ?_) (fun hc => ?_))))))))))))
  · skip
    rw [if_pos (show m.rooted roots ≠ 0 by simpa using hc)]
    refine cd_vecnil 3 1 ?_
    refine cd_vecnil 3 1 ?_
    refine cd_vecnil 27 1 ?_
    refine cd_star0 (cd_pack [vec (.slice none 0 0) 3 1 0 [], vec (.slice none 0 0) 3 1 0 [], vec (.slice none 0 0) 27 1 0 [], Res.star (rowsI [] [])] ?_)
    refine cS (cR (sV (v_build (cells := [.slice none 0 0, .slice none 0 0, .slice none 0 0]) rfl (fun _ => by kernel_rfl)) ?_))
    refine sV (vM rfl) (st_stoW rfl rfl sz38 rfl rfl ?_)
    refine sV (vA rfl) (sN (nK [1, 2, 4, 5] rfl (nT (cT (xR ?_)))))
    exact xt_retV (.cellN rfl ld38 rfl (by repeat (first | exact Sel.here | apply Sel.there)) (.tmp rfl .nil)) ⟨.slice none 0 0, .slice none 0 0, .slice none 0 0, [], rfl, ⟨.inl ⟨rfl, rfl, rfl⟩, .inl ⟨rfl, rfl, rfl⟩, .inl ⟨rfl, rfl, rfl⟩, rfl, fun j u l hu => by simp at hu⟩, rfl⟩ (by repeat (first | exact Sub.refl _ | exact Sub.nil _ | refine Sub.sel (by repeat (first | exact Sel.here | apply Sel.there)) ?_ | apply Sub.cons))
  · skip
    have hro : m.rooted roots = 0 := by simpa using hc
    rw [if_neg (show ¬ m.rooted roots ≠ 0 by rw [hro]; simp)]
    refine cK (xT (cS (cR ?_)))
    have hrr := h.rooted hro
    have hpa : PM (AM.Obj ly ln lf) (roots.foldl pmeet []) := PM.meets _ PM.nil (h.root_obj hro)
    refine st_makeMap (ltn rfl) fun mp => ?_
    refine st_alc al77 fun b7 => ?_
    refine st_sto rfl rfl sz77 ?_
    refine sN (nK [1, 2, 4, 5, 7] rfl (nT (cS (cR (st_alc al27 fun b8 => ?_)))))
    refine sN (nT (cS (cR (sV (v_makeFunc rfl rfl) (sV (vA rfl) (sN (nK [1, 2, 4, 5, 8, 9] rfl (nT (cS (cR (st_alc al38 fun b10 => ?_)))))))))))
    refine sN (nT (cS (cS (cR (sV (vM rfl) (sV (v_len (congrArg some hv1) Tryz.underlying27) (sV (vM rfl) (sN (nK [2, 4, 5, 8, 9, 10, 29, 30, 31] rfl (nT (cd_vecnil 3 1 ?_)))))))))))
    refine cd_use (hroots_c (L := L) (μ := μ) (S := S) (m := m) (R := R) (v := v) (b2 := b2) (b4 := b4) (b7 := b7) (b8 := b8) (b10 := b10) (mp := mp) (w0 := w0) (roots := roots) (hr := pt b4 (cl [.slice none 0 0, .slice none 0 0, .slice none 0 0] 38) :: knR L μ :: hr) I h hv hrl hrr fun lv rv => ?_) (by repeat (first | exact trivial | refine ⟨rfl, ?_⟩)) (by unfold pcSH; simp only [List.cons_append, List.nil_append]; exact (by repeat (first | exact Sub.refl _ | exact Sub.nil _ | refine Sub.sel (by repeat (first | exact Sel.here | apply Sel.there)) ?_ | apply Sub.cons)))
    unfold pcSH
    simp only [List.cons_append, List.nil_append]
    refine xT (cS (cS (cR (sV (vA rfl) (sN (nT (cd_use (hobjs_c (L := L) (μ := μ) (S := S) (m := m) (b2 := b2) (b4 := b4) (b7 := b7) (b8 := b8) (b10 := b10) (mp := mp) (w0 := w0) (roots := roots) (lv := lv) (rv := rv) (hr := vec rv 3 1 roots.length (ints (roots.map fun r => 1 + idx (m.gr.met m.T roots) r)) :: pt b4 (cl [.slice none 0 0, .slice none 0 0, .slice none 0 0] 38) :: knR L μ :: R :: hr) I h hpa fun us sv fv lw hul hform => ?_) (by repeat (first | exact trivial | refine ⟨rfl, ?_⟩)) (by unfold pcSH; simp only [List.cons_append, List.nil_append]; exact (by repeat (first | exact Sub.refl _ | exact Sub.nil _ | refine Sub.sel (by repeat (first | exact Sel.here | apply Sel.there)) ?_ | apply Sub.cons))))))))))
    unfold pcSH
    simp only [List.cons_append, List.nil_append]
    obtain ⟨p1, p2, p3⟩ := pic_parts m roots
    have e1 : (m.pic roots).shapes.length = (m.gr.met m.T roots).length := by rw [p1, List.length_map]
    have e2 : (m.pic roots).fields.length = (m.gr.met m.T roots).length := by rw [p2, List.length_map]
    have e3 : (m.pic roots).roots.length = roots.length := by rw [p3, List.length_map]
    refine xt_vform (v := sv) (n := (m.gr.met m.T roots).length) (l := ints (m.pic roots).shapes) (by repeat (first | exact Sel.here | apply Sel.there)) fun f1 => ?_
    refine xt_vform (v := fv) (n := (m.gr.met m.T roots).length) (l := us) (by repeat (first | exact Sel.here | apply Sel.there)) fun f2 => ?_
    refine xt_vform (v := rv) (n := roots.length) (l := ints (roots.map fun r => 1 + idx (m.gr.met m.T roots) r)) (by repeat (first | exact Sel.here | apply Sel.there)) fun f3 => ?_
    refine xT (cS (cR (sV (v_loadW rfl ld38 rfl (by repeat (first | exact Sel.here | apply Sel.there))) ?_)))
    have o1 := VForm.one f1; have o2 := VForm.one f2; have o3 := VForm.one f3
    refine st_stoW rfl rfl sz38 rfl (by simp only [List.all_cons, List.all_nil, o1, o2, o3]; rfl) ?_
    refine sV (vA rfl) (sN (nK [4, 5] rfl (nT (cT (xt_pack [vec sv 3 1 (m.pic roots).shapes.length (ints (m.pic roots).shapes), vec rv 3 1 (m.pic roots).roots.length (ints (m.pic roots).roots), vec fv 27 1 (m.pic roots).fields.length us, Res.star (rowsI us (m.pic roots).fields)] ?_ (by rw [e1, e2, e3, p3]; repeat (first | exact Pk.nil | (apply Pk.cons; (repeat (first | exact Sel.here | apply Sel.there))))))))))
    exact xt_retV (.cellN rfl ld38 rfl (by repeat (first | exact Sel.here | apply Sel.there)) (.tmp rfl .nil)) ⟨sv, fv, rv, us, rfl, ⟨by rw [e1]; exact f1, by rw [e3, p3]; exact f3, by rw [e2]; exact f2, by rw [e2]; exact hul, hform⟩, rfl⟩ (by repeat (first | exact Sub.refl _ | exact Sub.nil _ | refine Sub.sel (by repeat (first | exact Sel.here | apply Sel.there)) ?_ | apply Sub.cons))
end
end Go.Proofs.YtmhmpjgkkpbnnaaGreat
namespace Go.Proofs.YtmhmpjgkkpbnnaaGreat
open Go.Ck Fx Go.Hm Go.Hm.AM
attribute [local irreducible] St Cd Xt Nx DrL LsW
section
variable {R : Res} {s1 f1 r1 s2 f2 r2 : Value} {p q : Pic}
def samePic (p q : Pic) : Bool := (p.shapes == q.shapes && p.roots == q.roots) && p.fields == q.fields
structure PicSz (p : Pic) : Prop where
  zs : p.shapes.length ≤ 1000000
  zr : p.roots.length ≤ 1000000
  zf : p.fields.length ≤ 1000000
  zx : ∀ x ∈ p.fields, x.length ≤ 1000000
theorem RowsI.shape {r : Res} {v : Value} {rows : List (List Int)} (h : RowsI r v rows) : ∃ a cp, v = .slice a rows.length cp := let ⟨a, cp, h, _⟩ := h; ⟨a, cp, h⟩
set_option maxHeartbeats 2000000 in
set_option maxRecDepth 100000 in
theorem samePictures_ct (h1 : PicV R s1 f1 r1 p) (h2 : PicV R s2 f2 r2 q) (zp : PicSz p) : Reads Tryz.prog 10 #[.agg #[s1, f1, r1], .agg #[s2, f2, r2]] [R] (.bool (samePic p q)) := by
  have z1 := zp.zs; have z2 := zp.zr; have z3 := zp.zf
  obtain ⟨fa1, fc1, hf1⟩ := h1.pf.shape
  obtain ⟨fa2, fc2, hf2⟩ := h2.pf.shape
  unfold samePic
  refine ct_of (n := 54) Tryz.func10 rfl rfl (len rfl) fun hr w0 => ?_
  simp only [List.cons_append, List.nil_append]
  refine cS (cR (st_bx rfl rfl fun b2 => ?_))
  refine st_bx rfl rfl fun b3 => ?_
  refine sV (vA rfl) (sN (nK [2, 3, 4] rfl (nT (cS (cR (sV (vF rfl fa38_0 rfl) (sV (vL rfl ld27) ?_)))))))
  refine sV (vF rfl fa38_0 rfl) (sV (vL rfl ld27) ?_)
  refine st_clr rfl rfl en11 rfl (sameInts_ct h1.ps h2.ps z1) ?_
  refine sV (vA rfl) (sN (nK [2, 3, 4, 5] rfl (nT (cS (cR (sV (vF rfl fa38_2 rfl) (sV (vL rfl ld27) ?_)))))))
  refine sV (vF rfl fa38_2 rfl) (sV (vL rfl ld27) ?_)
  refine st_clr rfl rfl en11 rfl (sameInts_ct h1.pr h2.pr z2) ?_
  refine sV (vA rfl) (sN (nK [2, 3, 4, 5, 6] rfl (nT (cS (cS (cR (sV (vM rfl) (sV (v_not rfl) (sV (vM rfl) (st_cut (k := 6) (d := 24) (v := .bool (!(p.shapes == q.shapes) || !(p.roots == q.roots))) (fun hcut => bool_want (b := !(p.shapes == q.shapes)) false (fun hg => ?_) (fun hg => ?_)) ?_))))))))))
  · refine st_sk rfl rfl hg ?_
    refine st_sk rfl rfl hg ?_
    refine sV (v_pick_true (bool_ev rfl hg) rfl) ?_
    exact hcut _ (ssub_head (by first | rfl | (rw [hg]; rfl) | simp_all) (uS rfl (uS rfl (ssub_refl))))
  · skip
    refine st_vg rfl (bG rfl hg) (vM rfl) (st_vg rfl (bG rfl hg) (v_not rfl) (sV (vP (bool_ev rfl hg) rfl) ?_))
    exact hcut _ (ssub_head (by first | rfl | (rw [hg]; rfl) | simp_all) (uS rfl (uS rfl (ssub_refl))))
  refine sV (vM rfl) (st_cut (k := 15) (d := 33) (v := .bool ((!(p.shapes == q.shapes) || !(p.roots == q.roots)) || ((p.fields.length : Int) != q.fields.length))) (fun hcut => bool_want (b := !(p.shapes == q.shapes) || !(p.roots == q.roots)) false (fun hg => ?_) (fun hg => ?_)) ?_)
  · refine st_sk rfl rfl hg ?_
    refine st_sk rfl rfl hg ?_
    refine st_sk rfl rfl hg ?_
    refine st_sk rfl rfl hg ?_
    refine st_sk rfl rfl hg ?_
    refine st_sk rfl rfl hg ?_
    refine st_sk rfl rfl hg ?_
    refine sV (v_pick_true (bool_ev rfl hg) rfl) ?_
    exact hcut _ (ssub_head (by first | rfl | (rw [hg]; rfl) | simp_all) (uS rfl (uS rfl (uS rfl (uS rfl (uS rfl (uS rfl (uS rfl (ssub_refl)))))))))
  · skip
    refine st_vg rfl (bG rfl hg) (vF rfl fa38_1 rfl) (st_vg rfl (bG rfl hg) (vL rfl ld36) ?_)
    refine st_vg rfl (bG rfl hg) (v_len (congrArg some hf1) Tryz.underlying36) (st_vg rfl (bG rfl hg) (vF rfl fa38_1 rfl) (st_vg rfl (bG rfl hg) (vL rfl ld36) ?_))
    refine st_vg rfl (bG rfl hg) (v_len (congrArg some hf2) Tryz.underlying36) (st_vg rfl (bG rfl hg) (v_neq rfl rfl) (sV (vP (bool_ev rfl hg) rfl) ?_))
    exact hcut _ (ssub_head (by first | rfl | (rw [hg]; rfl) | simp_all) (uS rfl (uS rfl (uS rfl (uS rfl (uS rfl (uS rfl (uS rfl (ssub_refl)))))))))
  refine sN (nK [2, 3, 4, 33] rfl (nT (cC rfl (fun hc => ?_) (fun hc => ?_))))
  · skip
    have hres : ((p.shapes == q.shapes && p.roots == q.roots) && p.fields == q.fields) = false := by
      cases ha : p.shapes == q.shapes
      · rfl
      · cases hb : p.roots == q.roots
        · rfl
        · rw [ha, hb] at hc
          simp only [Bool.not_true, Bool.or_self, Bool.false_or, bne_iff_ne, ne_eq] at hc
          have : p.fields ≠ q.fields := fun e => hc (by rw [e])
          simp [this]
    rw [hres]
    refine cS (cR (sV (vA rfl) (sN (nK [2, 3, 4] rfl (nT (cT (xR ?_)))))))
    exact xt_rt rfl ⟨rfl, rfl⟩
  · skip
    simp only [Bool.or_eq_false_iff, Bool.not_eq_false'] at hc
    obtain ⟨⟨ha, hb⟩, hlen⟩ := hc
    have hlen : p.fields.length = q.fields.length := by simp at hlen; omega
    rw [ha, hb, Bool.and_self, Bool.true_and]
    refine cK (xT (cS (cS (cR (sV (vA rfl) (sN (nK [2, 3, 4, 7] rfl (nT (cd_block (cd_loop (σ := Nat) (fun i => [(2, .pointer (some ⟨b2, 0, none⟩)), (3, .pointer (some ⟨b3, 0, none⟩)), (7, .int .i64 (i : Nat))]) (fun _ => pt b2 (cl [s1, f1, r1] 38) :: pt b3 (cl [s2, f2, r2] 38) :: R :: hr) (fun i => i ≤ p.fields.length ∧ p.fields.take i = q.fields.take i) (fun i => p.fields.length - i) 0 ⟨Nat.zero_le _, rfl⟩ ⟨rfl, rfl, rfl, trivial⟩ (by repeat (first | exact Sub.refl _ | exact Sub.nil _ | refine Sub.sel (by repeat (first | exact Sel.here | apply Sel.there)) ?_ | apply Sub.cons)) ?_))))))))))
    rintro i ⟨hi, heq⟩
    refine cS (cS (cR (sV (vM rfl) (sV (vF rfl fa38_1 rfl) (sV (vL rfl ld36) ?_)))))
    refine sV (v_len (congrArg some hf1) Tryz.underlying36) (sV (v_lss rfl rfl) (sN (nK [2, 3, 7, 38] rfl (nT (cC rfl (fun hd => ?_) (fun hd => ?_))))))
    · skip
      have hlt : i < p.fields.length := by simpa using hd
      have hlt2 : i < q.fields.length := by omega
      obtain ⟨ba, oa, ca, ua, hva, hra, hwa⟩ := h1.pf.row hlt
      obtain ⟨bb, ob, cb, ub, hvb, hrb, hwb⟩ := h2.pf.row hlt2
      obtain ⟨xa, ya, hxa, _⟩ := id hwa
      obtain ⟨xb, yb, hxb, _⟩ := id hwb
      subst hxa hxb
      refine cK (xT (cS (cd_block (cS (cd_drawh (ork [(0, 2), (1, 1), (2, 2), (3, 2), (4, 1), (5, 2), (6, 1), (7, 2), (8, 2), (9, 1), (10, 1), (11, 2)] .nil) (fun _ => true) mixed (by kernel_rfl) ?_)))))
      refine dV rfl (vF rfl fa38_1 rfl) (dr_v rfl (vL rfl ld36) ?_)
      refine dV rfl (vM rfl) (dV rfl (v_ixo i (congrArg some hva) rfl sl36 rfl hlt) (dr_v rfl (vL rfl ld27) ?_))
      refine dV rfl (vF rfl fa38_1 rfl) (dr_v rfl (vL rfl ld36) ?_)
      refine dV rfl (vM rfl) (dV rfl (v_ixo i (congrArg some hvb) rfl sl36 rfl hlt2) (dr_v rfl (vL rfl ld27) ?_))
      refine dr_clr rfl rfl rfl en11 rfl (sameInts_ct hwa hwb (zp.zx _ (List.getElem_mem hlt))) ?_
      refine dV rfl (vA rfl) (dr_nil (nK [2, 3, 7, 8] rfl (nT (cS (cR (sV (vM rfl) (sV (v_not rfl) (sN (nK [2, 3, 7, 53] rfl (nT (cC rfl (fun he => ?_) (fun he => ?_))))))))))))
      · skip
        have hne : p.fields[i] ≠ q.fields[i] := by simpa using he
        have hres : (p.fields == q.fields) = false := by
          have : p.fields ≠ q.fields := fun e => hne (by simp [e])
          simp [this]
        rw [hres]
        refine cS (cR (sV (vA rfl) (sN (nK [2, 3, 4, 7] rfl (nT (cT (xt_ret_block (xR (xR (xt_ret_block (xR ?_)))))))))))
        exact xt_rt rfl ⟨rfl, rfl⟩
      · skip
        have he2 : p.fields[i] = q.fields[i] := by simpa using he
        refine cK (xB (xT (cR (sV (vM rfl) (sV (v_add rfl rfl (by unfold I64 at *; omega)) (sV (vA rfl) (sN (nK [2, 3, 7] rfl (nx_xt ?_)))))))))
        refine xt_ag (i + 1) ⟨hlt, by rw [List.take_succ_eq_append_getElem hlt, List.take_succ_eq_append_getElem hlt2, heq, he2]⟩ (by omega)
    · skip
      have hge : p.fields.length ≤ i := by simpa using hd
      have hres : (p.fields == q.fields) = true := by
        rw [List.take_of_length_le hge, List.take_of_length_le (by omega)] at heq
        simp [heq]
      rw [hres]
      refine cd_exit (xE (xE (xt_exit_block (xT (cS (cR (sV (vA rfl) (sN (nK [4] rfl (nT (cT ?_)))))))))))
      exact xt_rt rfl ⟨rfl, rfl⟩
end
end Go.Proofs.YtmhmpjgkkpbnnaaGreat
namespace Go.Proofs.YtmhmpjgkkpbnnaaGreat
open Go.Ck Fx Go.Hm Go.Hm.AM
attribute [local irreducible] St Cd Xt Nx DrL LsW
section
variable {L : MemL} {μ : Mem} {S : Res} {m : AM} {ly ln lf : List Int} {φ : Int → Option Nat} {A : Store} {r : List Int} {rv : Value} {pb : Nat} {en : Bool}
set_option maxRecDepth 100000 in
theorem field_c (I : MI L μ S m) (h : AM.Good m ly ln lf φ A) (t k : Int) : ∃ p, Reads Tryz.prog 48 #[.pointer (some ⟨L.mb, 0, none⟩), .int .i64 t, .int .i64 k] (fldSH L μ S) (.tuple #[.pointer p, .bool (if m.fe t k = 0 then m.ref t k else false), .int .i64 (m.fe t k)]) := by
  obtain ⟨p, b, e, hF⟩ := fld_total L μ t k
  have hct := field_ct hF (I.r.oky h.g) (I.r.okn h.g) I.yn I.shp' (I.r.shl h.g) (I.r.spy h.g) (I.r.spn h.g)
  refine ⟨p, ?_⟩
  have hcur := I.r.cur h.g t
  unfold Mem.cur at hcur
  have rowy : μ.y.begins t = true → shAt μ.sh (μ.y.wd t) = m.row t := fun hb => by
    rw [I.r.by_ h.g, Bool.and_eq_true, decide_eq_true_eq] at hb
    rw [I.r.wdy h.g ((h.g.isY_iff hb.2).1 hb.1), shAt_row I.r]
  have rown : μ.n.begins t = true → shAt μ.sh (μ.n.wd t) = m.row t := fun hb => by
    rw [I.r.bn h.g, Bool.and_eq_true, decide_eq_true_eq, isO_iff] at hb
    rw [I.r.wdn h.g ((h.g.o.hd t hb.1.1 hb.1.2).1 hb.2), shAt_row I.r]
  have key : e = m.fe t k ∧ b = (if m.fe t k = 0 then m.ref t k else false) := by
    unfold AM.fe AM.ref
    cases hF with
    | none h1 h2 => rw [h1, h2] at hcur; rw [← hcur]; exact ⟨rfl, rfl⟩
    | argy h1 h2 => rw [h1] at hcur; rw [rowy h1] at h2; rw [← hcur, Bool.true_or, if_neg (by simp), if_pos h2]; exact ⟨rfl, rfl⟩
    | argn h1 h2 h3 => rw [h1, h2] at hcur; rw [rown h2] at h3; rw [← hcur, Bool.false_or, if_neg (by simp), if_pos h3]; exact ⟨rfl, rfl⟩
    | y h1 h2 => rw [h1] at hcur; rw [rowy h1] at h2 ⊢; rw [← hcur, Bool.true_or, if_neg (by simp), if_neg (by rw [h2]; simp)]; exact ⟨rfl, rfl⟩
    | n h1 h2 h3 => rw [h1, h2] at hcur; rw [rown h2] at h3 ⊢; rw [← hcur, Bool.false_or, if_neg (by simp), if_neg (by rw [h3]; simp)]; exact ⟨rfl, rfl⟩
  rw [← key.2, ← key.1]
  exact hct
def plR (pb mb : Nat) (rv : Value) (en : Bool) : Res := pt pb (cl [.pointer (some ⟨mb, 0, none⟩), rv, .bool en] 69)
def playSH (L : MemL) (μ : Mem) (S : Res) (pb : Nat) (rv : Value) (r : List Int) (en : Bool) : SH := memSH L μ S ++ [plR pb L.mb rv en, vec rv 3 1 r.length (ints r)]
theorem rdx_eq {x : Int} (h : oob x r = false) : ∃ j : Nat, x = j ∧ ∃ hj : j < r.length, rdx r x = r[j] := by
  unfold oob at h
  simp only [Bool.or_eq_false_iff, decide_eq_false_iff_not, Int.not_lt, Int.not_le] at h
  refine ⟨x.toNat, by omega, by omega, ?_⟩
  unfold rdx; rw [List.getD_eq_getElem?_getD, List.getElem?_eq_getElem (by omega)]; rfl
set_option maxRecDepth 100000 in
theorem refers_c (I : MI L μ S m) (h : AM.Good m ly ln lf φ A) {x k : Int} {want : Bool} (hx : oob x r = false) :
    Reads Tryz.prog 108 #[.pointer (some ⟨pb, 0, none⟩), .int .i64 x, .int .i64 k, .bool want] (playSH L μ S pb rv r en) (.int .i64 (m.kinded (rdx r x) k want)) := by
  obtain ⟨j, rfl, hj, hrd⟩ := rdx_eq hx
  rw [hrd]
  obtain ⟨p, hf⟩ := field_c I h r[j] k
  unfold fldSH at hf
  unfold playSH memSH plR AM.kinded
  refine ct_of (n := 37) Tryz.func108 rfl rfl (len rfl) fun hr w0 => ?_
  refine cd_vecshape (v := rv) (E := 3) (sz := 1) (n := r.length) (l := ints r) (by repeat (first | exact Sel.here | apply Sel.there)) fun ra rcp hrv hra => ?_
  obtain ⟨rb, rfl⟩ := hra (by omega)
  have hrd : Rd (vec rv 3 1 r.length (ints r)) ⟨rb, j, none⟩ (.int .i64 r[j]) := rd_vec hrv (by simp [ints, hj])
  simp only [List.cons_append, List.nil_append]
  refine cS (cR (sV (vA rfl) (sN (nT (cS (cd_drawh (ork [(0, 2), (1, 2), (2, 2), (3, 1), (4, 2), (5, 2), (6, 2), (7, 1), (8, 2), (9, 2), (10, 1), (11, 2), (12, 1), (13, 2), (14, 2), (15, 2), (16, 2), (17, 2), (18, 2), (19, 2)] .nil) (fun _ => true) mixed (by kernel_rfl) ?_))))))
  refine dV rfl (vM rfl) (dV rfl (vN rfl) (dV rfl (vF rfl fa69_0 rfl) (dr_v rfl (vL rfl ld26) ?_)))
  refine dV rfl (vM rfl) (dV rfl (vN rfl) (dV rfl (vF rfl fa69_1 rfl) (dr_v rfl (vL rfl ld27) ?_)))
  refine dV rfl (vM rfl) (dV rfl (v_idx j (congrArg some hrv) rfl sl27 rfl hj) (dr_v rfl (vL rfl ld3) ?_))
  refine dV rfl (vM rfl) (dr_clr rfl rfl rfl en48 rfl (hf) ?_)
  refine dV rfl (vM rfl) (dV rfl (v_extract rfl rfl) (dV rfl (v_extract rfl rfl) (dV rfl (v_extract rfl rfl) (dV rfl (vA rfl) (dV rfl (vA rfl) (dV rfl (vA rfl) (dr_nil (nK [3, 8, 10, 11] rfl (nT (cS (cS (cR (sV (vM rfl) (sV (v_eql rfl rfl) (sV (vM rfl) ?_)))))))))))))))
  refine st_cut (k := 7) (d := 35) (v := .bool ((m.fe r[j] k == 0) && !(m.ref r[j] k == want))) (fun hcut => bool_want (b := m.fe r[j] k == 0) true (fun hg => ?_) (fun hg => ?_)) ?_
  · refine st_sk rfl rfl hg ?_
    refine st_sk rfl rfl hg ?_
    refine st_sk rfl rfl hg ?_
    refine sV (vP (bool_ev rfl hg) rfl) ?_
    exact hcut _ (ssub_head (by first | rfl | (rw [hg]; rfl) | simp_all) (uS rfl (uS rfl (uS rfl (ssub_refl)))))
  · skip
    refine st_vg rfl (bG rfl hg) (vM rfl) (st_vg rfl (bG rfl hg) (vM rfl) (st_vg rfl (bG rfl hg) (v_neq_bool Tryz.underlying4 rfl rfl) (sV (v_pick_true (bool_ev rfl hg) rfl) ?_)))
    exact hcut _ (ssub_head (by first | rfl | (rw [hg]; rfl) | simp_all) (uS rfl (uS rfl (uS rfl (ssub_refl)))))
  refine sN (nK [8, 11, 35] rfl (nT (cC rfl (fun hc => ?_) (fun hc => ?_))))
  · skip
    rw [Bool.and_eq_true, beq_iff_eq] at hc
    rw [if_pos hc.1, if_pos (show (m.ref r[j] k != want) = true from hc.2)]
    refine cS (cR (sV (vA rfl) (sN (nK [8, 11] rfl (nT (cT (xR ?_)))))))
    exact xt_rt rfl ⟨rfl, rfl⟩
  · skip
    have hk : (if m.fe r[j] k = 0 then (if m.ref r[j] k != want then (1 : Int) else 0) else m.fe r[j] k) = m.fe r[j] k := by
      by_cases he : m.fe r[j] k = 0
      · rw [he] at hc ⊢
        simp only [beq_self_eq_true, Bool.true_and] at hc
        rw [if_pos rfl, if_neg (by rw [show (m.ref r[j] k != want) = false from hc]; simp)]
      · rw [if_neg he]
    rw [hk]
    refine cK (xT (cS (cR (sV (vM rfl) (sV (vA rfl) (sN (nK [8] rfl (nT (cT ?_)))))))))
    exact xt_rt rfl ⟨rfl, rfl⟩
def Acted (L : MemL) (S : Res) (pb : Nat) (en : Bool) (q : Int × AM × List Int) (u : Value) (h' : SH) : Prop := ∃ L' μ' rv', u = .int .i64 q.1 ∧ MI L' μ' S q.2.1 ∧ L'.mb = L.mb ∧ h' = playSH L' μ' S pb rv' q.2.2 en
set_option maxRecDepth 100000 in
theorem keep_c {mb : Nat} {l : List Int} {sl : Value} {e : Int} : Ct Tryz.prog 109 #[.pointer (some ⟨pb, 0, none⟩), sl, .int .i64 e] [plR pb mb rv en, vec rv 3 1 r.length (ints r), vec sl 3 1 l.length (ints l)] fun u h' => ∃ rv', u = .int .i64 e ∧ h' = [plR pb mb rv' en, vec rv' 3 1 (if e = 0 then l else r).length (ints (if e = 0 then l else r))] := by
  unfold plR
  refine ct_of (n := 14) Tryz.func109 rfl rfl (len rfl) fun hr w0 => ?_
  refine cd_vecshape (v := sl) (E := 3) (sz := 1) (n := l.length) (l := ints l) (by repeat (first | exact Sel.here | apply Sel.there)) fun sa scp hsv hsa => ?_
  have hone : sl.oneCell' = true := by rw [hsv]; rfl
  simp only [List.cons_append, List.nil_append]
  refine cS (cR (sV (vA rfl) (sN (nT (cS (cS (cR (sV (vM rfl) (sV (v_eql rfl rfl) (sN (nK [0, 1, 2, 6, 8] rfl (nT (cC rfl (fun hc => ?_) (fun hc => ?_))))))))))))))
  · skip
    have he : e = 0 := by simpa using hc
    rw [if_pos he]
    refine cR (sV (vM rfl) (sV (vM rfl) (sV (vN rfl) (sV (vF rfl fa69_1 rfl) (st_sto rfl rfl sz27 ?_)))))
    refine sN (nK [2, 6] rfl (nT (cS (cR (sV (vM rfl) (sV (vA rfl) (sN (nK [6] rfl (nT (cT ?_))))))))))
    exact xt_rt rfl ⟨sl, rfl, rfl⟩
  · skip
    have he : ¬ e = 0 := by simpa using hc
    rw [if_neg he]
    refine cK (xT (cS (cR (sV (vM rfl) (sV (vA rfl) (sN (nK [6] rfl (nT (cT ?_)))))))))
    exact xt_rt rfl ⟨rv, rfl, rfl⟩
theorem cd_row {c : Cx} {x : Code} {Q : Exit → Act → World → Prop} {e : Env} {h h' : SH} {v : Value} {n : Nat} {l : List Value} (hn : 0 < n) (s : Sel h (vec v 3 1 n l) h') (h1 : ∀ b cp j, v = .slice (some ⟨b, 0, none⟩) n cp → OpenRow v 1 n l b cp j → Cd c x Q e (pt b (cl (l ++ j) 3) :: h')) : Cd c x Q e h :=
  cd_open s (fun h0 hn0 _ => by omega) fun b cp j ho => h1 b cp j ho.1 ho
set_option maxRecDepth 100000 in
theorem drop_c (I : MI L μ S m) {a b c k : Int} (ha : oob a r = false) : Ct Tryz.prog 90 #[.pointer (some ⟨pb, 0, none⟩), .agg #[.int .i64 k, .int .i64 a, .int .i64 b, .int .i64 c]] (playSH L μ S pb rv r en) (Acted L S pb en (0, m, r.set a.toNat 0)) := by
  obtain ⟨j, rfl, hj, _⟩ := rdx_eq ha
  unfold playSH memSH plR
  refine ct_of (n := 12) Tryz.func90 rfl rfl (len rfl) fun hr w0 => ?_
  refine cd_row (v := rv) (n := r.length) (l := ints r) (by omega) (by repeat (first | exact Sel.here | apply Sel.there)) fun b3 cp3 j3 hrv ho => ?_
  have hlen : j < (ints r ++ j3).length := by rw [List.length_append, ints_length]; omega
  refine cS (cR (st_bx rfl rfl fun b3 => ?_))
  refine sV (vA rfl) (sN (nK [0, 3, 4] rfl (nT (cS (cd_drawh (ork [(0, 2), (1, 2), (2, 2), (3, 1), (4, 2), (5, 1), (6, 2), (7, 0)] .nil) (fun i => !(Nat.beq i 7)) mixed (by kernel_rfl) ?_)))))
  refine dV rfl (vM rfl) (dV rfl (vN rfl) (dV rfl (vF rfl fa69_1 rfl) (dr_v rfl (vL rfl ld27) ?_)))
  refine dV rfl (vF rfl fa71_1 rfl) (dr_v rfl (vL rfl ld3) ?_)
  refine dV rfl (v_idx j (congrArg some hrv) rfl sl27 rfl hj) (dr_eff rfl (st_sto rfl rfl sz3 (dr_nx ?_)))
  refine dr_nil (nK [4] rfl (nT (cS (cR (sV (vA rfl) (sN (nT (cT ?_))))))))
  rw [set_ints hj]
  refine xt_shut (E := 3) (l' := ints (r.set j 0)) ho (by simp [ints]) (by repeat (first | exact Sel.here | apply Sel.there)) ?_
  refine xt_rt rfl ⟨L, μ, rv, rfl, I, rfl, rfl⟩ ?_
  unfold playSH memSH plR
  rw [List.length_set, Int.toNat_natCast]
  simp only [List.cons_append, List.nil_append]
  exact (by repeat (first | exact Sub.refl _ | exact Sub.nil _ | refine Sub.sel (by repeat (first | exact Sel.here | apply Sel.there)) ?_ | apply Sub.cons))
end
end Go.Proofs.YtmhmpjgkkpbnnaaGreat
namespace Go.Proofs.YtmhmpjgkkpbnnaaGreat
open Go.Ck Fx Go.Hm Go.Hm.AM
attribute [local irreducible] St Cd Xt Nx DrL LsW
section
variable {L : MemL} {μ : Mem} {S : Res} {m : AM} {ly ln lf : List Int} {φ : Int → Option Nat} {A : Store} {r : List Int} {rv : Value} {pb : Nat} {en : Bool} {k a b c : Int}
set_option maxRecDepth 100000 in
theorem copied_c (I : MI L μ S m) (ha : oob a r = false) (hb : oob b r = false) : Ct Tryz.prog 91 #[.pointer (some ⟨pb, 0, none⟩), .agg #[.int .i64 k, .int .i64 a, .int .i64 b, .int .i64 c]] (playSH L μ S pb rv r en) (Acted L S pb en (0, m, r.set a.toNat (rdx r b))) := by
  obtain ⟨j, rfl, hj, _⟩ := rdx_eq ha
  obtain ⟨i, rfl, hi, hri⟩ := rdx_eq hb
  rw [hri]
  unfold playSH memSH plR
  refine ct_of (n := 20) Tryz.func91 rfl rfl (len rfl) fun hr w0 => ?_
  refine cd_row (v := rv) (n := r.length) (l := ints r) (by omega) (by repeat (first | exact Sel.here | apply Sel.there)) fun b3 cp3 j3 hrv ho => ?_
  have hlen : j < (ints r ++ j3).length := by rw [List.length_append, ints_length]; omega
  have hrd : Rd (pt b3 (cl (ints r ++ j3) 3)) ⟨b3, i, none⟩ (.int .i64 r[i]) := by rw [← getD_lt (d := 0) hi]; exact rd_ints hi
  refine cS (cR (st_bx rfl rfl fun b3 => ?_))
  refine sV (vA rfl) (sN (nK [0, 3, 4] rfl (nT (cS (cd_drawh (ork [(0, 2), (1, 2), (2, 2), (3, 1), (4, 2), (5, 1), (6, 2), (7, 2), (8, 2), (9, 1), (10, 2), (11, 1), (12, 2), (13, 1), (14, 2), (15, 0)] .nil) (fun i => !(Nat.beq i 15)) mixed (by kernel_rfl) ?_)))))
  refine dV rfl (vM rfl) (dV rfl (vN rfl) (dV rfl (vF rfl fa69_1 rfl) (dr_v rfl (vL rfl ld27) ?_)))
  refine dV rfl (vF rfl fa71_1 rfl) (dr_v rfl (vL rfl ld3) ?_)
  refine dV rfl (vM rfl) (dV rfl (vN rfl) (dV rfl (vF rfl fa69_1 rfl) (dr_v rfl (vL rfl ld27) ?_)))
  refine dV rfl (vF rfl fa71_2 rfl) (dr_v rfl (vL rfl ld3) ?_)
  refine dV rfl (v_idx i (congrArg some hrv) rfl sl27 rfl hi) (dr_v rfl (vL rfl ld3) ?_)
  refine dV rfl (v_idx j (congrArg some hrv) rfl sl27 rfl hj) (dr_eff rfl (st_sto rfl rfl sz3 (dr_nx ?_)))
  refine dr_nil (nK [4] rfl (nT (cS (cR (sV (vA rfl) (sN (nT (cT ?_))))))))
  rw [set_ints hj]
  refine xt_shut (E := 3) (l' := ints (r.set j r[i])) ho (by simp [ints]) (by repeat (first | exact Sel.here | apply Sel.there)) ?_
  refine xt_rt rfl ⟨L, μ, rv, rfl, I, rfl, rfl⟩ ?_
  unfold playSH memSH plR
  rw [List.length_set, Int.toNat_natCast]
  simp only [List.cons_append, List.nil_append]
  exact (by repeat (first | exact Sub.refl _ | exact Sub.nil _ | refine Sub.sel (by repeat (first | exact Sel.here | apply Sel.there)) ?_ | apply Sub.cons))
set_option maxHeartbeats 2000000 in
set_option maxRecDepth 100000 in
theorem pset_c (I : MI L μ S m) (h : AM.Good m ly ln lf φ A) (ha : oob a r = false) (hb : oob b r = false) : Ct Tryz.prog 88 #[.pointer (some ⟨pb, 0, none⟩), .agg #[.int .i64 k, .int .i64 a, .int .i64 b, .int .i64 c]] (playSH L μ S pb rv r en) (Acted L S pb en (AM.setA m r ⟨k, a, b, c⟩)) := by
  have hrf := refers_c (pb := pb) (rv := rv) (en := en) (k := c) (want := true) I h ha
  obtain ⟨j, rfl, hj, hrj⟩ := rdx_eq ha
  unfold playSH memSH plR at hrf
  unfold AM.setA
  dsimp only
  rw [hrj] at hrf ⊢
  unfold playSH memSH plR
  refine ct_of (n := 38) Tryz.func88 rfl rfl (len rfl) fun hr w0 => ?_
  refine cd_vecshape (v := rv) (E := 3) (sz := 1) (n := r.length) (l := ints r) (by repeat (first | exact Sel.here | apply Sel.there)) fun ra rcp hrv hra => ?_
  obtain ⟨rb, rfl⟩ := hra (by omega)
  have hrd : Rd (vec rv 3 1 r.length (ints r)) ⟨rb, j, none⟩ (.int .i64 r[j]) := rd_vec hrv (by simp [ints, hj])
  simp only [List.cons_append, List.nil_append] at hrf ⊢
  refine cS (cR (st_bx rfl rfl fun b3 => ?_))
  refine sV (vA rfl) (sN (nK [0, 3, 4] rfl (nT (cS (cS (cR (sV (vM rfl) (sV (vF rfl fa71_1 rfl) (sV (vL rfl ld3) ?_)))))))))
  refine sV (vF rfl fa71_3 rfl) (sV (vL rfl ld3) ?_)
  refine st_clr rfl rfl en108 rfl (hrf) ?_
  refine sV (vA rfl) (sN (nK [0, 3, 4, 5] rfl (nT (cS (cR (sV (vM rfl) (sV (v_neq rfl rfl) (sN (nK [0, 3, 4, 5, 13] rfl (nT (cC rfl (fun hc => ?_) (fun hc => ?_))))))))))))
  · skip
    rw [if_pos (show m.kinded r[j] c true ≠ 0 by simpa using hc)]
    refine cS (cR (sV (vM rfl) (sV (vA rfl) (sN (nK [0, 3, 4] rfl (nT (cT (xR (xt_rt rfl ⟨L, μ, rv, rfl, I, rfl, rfl⟩ ?_)))))))))
    unfold playSH memSH plR
    simp only [List.cons_append, List.nil_append]
    exact (by repeat (first | exact Sub.refl _ | exact Sub.nil _ | refine Sub.sel (by repeat (first | exact Sel.here | apply Sel.there)) ?_ | apply Sub.cons))
  · skip
    rw [if_neg (show ¬ m.kinded r[j] c true ≠ 0 by simpa using hc)]
    obtain ⟨i, rfl, hi, hri⟩ := rdx_eq hb
    rw [hri]
    have hrd2 : Rd (vec rv 3 1 r.length (ints r)) ⟨rb, i, none⟩ (.int .i64 r[i]) := rd_vec hrv (by simp [ints, hi])
    have hst := set_c I h r[j] c r[i]
    unfold memSH at hst
    refine cK (xT (cS (cd_drawh (ork [(0, 2), (1, 2), (2, 2), (3, 1), (4, 2), (5, 2), (6, 2), (7, 1), (8, 2), (9, 1), (10, 2), (11, 1), (12, 2), (13, 1), (14, 2), (15, 2), (16, 2), (17, 1), (18, 2), (19, 1), (20, 2), (21, 1), (22, 0), (23, 2)] .nil) (fun i => !(Nat.beq i 22)) mixed (by kernel_rfl) ?_)))
    refine dV rfl (vM rfl) (dV rfl (vN rfl) (dV rfl (vF rfl fa69_0 rfl) (dr_v rfl (vL rfl ld26) ?_)))
    refine dV rfl (vM rfl) (dV rfl (vN rfl) (dV rfl (vF rfl fa69_1 rfl) (dr_v rfl (vL rfl ld27) ?_)))
    refine dV rfl (vF rfl fa71_1 rfl) (dr_v rfl (vL rfl ld3) ?_)
    refine dV rfl (v_idx j (congrArg some hrv) rfl sl27 rfl hj) (dr_v rfl (vL rfl ld3) ?_)
    refine dV rfl (vF rfl fa71_3 rfl) (dr_v rfl (vL rfl ld3) ?_)
    refine dV rfl (vM rfl) (dV rfl (vN rfl) (dV rfl (vF rfl fa69_1 rfl) (dr_v rfl (vL rfl ld27) ?_)))
    refine dV rfl (vF rfl fa71_2 rfl) (dr_v rfl (vL rfl ld3) ?_)
    refine dV rfl (v_idx i (congrArg some hrv) rfl sl27 rfl hi) (dr_v rfl (vL rfl ld3) ?_)
    refine dr_eff rfl (st_cl rfl rfl en19 rfl (hst) ?_)
    rintro v' h' ⟨L', μ', rfl, I', hL, rfl⟩
    simp only [List.cons_append, List.nil_append]
    refine dr_nx ?_
    refine dV rfl (vA rfl) (dr_nil (nK [4] rfl (nT (cT (xt_rt rfl ⟨L', μ', rv, rfl, I', hL, rfl⟩ ?_)))))
    unfold playSH memSH plR
    rw [hL]
    simp only [List.cons_append, List.nil_append]
    exact (by repeat (first | exact Sub.refl _ | exact Sub.nil _ | refine Sub.sel (by repeat (first | exact Sel.here | apply Sel.there)) ?_ | apply Sub.cons))
set_option maxHeartbeats 2000000 in
set_option maxRecDepth 100000 in
theorem pput_c (I : MI L μ S m) (h : AM.Good m ly ln lf φ A) (ha : oob a r = false) (_ : True) : Ct Tryz.prog 89 #[.pointer (some ⟨pb, 0, none⟩), .agg #[.int .i64 k, .int .i64 a, .int .i64 b, .int .i64 c]] (playSH L μ S pb rv r en) (Acted L S pb en (AM.putA m r ⟨k, a, b, c⟩)) := by
  have hrf := refers_c (pb := pb) (rv := rv) (en := en) (k := c) (want := false) I h ha
  obtain ⟨j, rfl, hj, hrj⟩ := rdx_eq ha
  unfold playSH memSH plR at hrf
  unfold AM.putA
  dsimp only
  rw [hrj] at hrf ⊢
  unfold playSH memSH plR
  refine ct_of (n := 32) Tryz.func89 rfl rfl (len rfl) fun hr w0 => ?_
  refine cd_vecshape (v := rv) (E := 3) (sz := 1) (n := r.length) (l := ints r) (by repeat (first | exact Sel.here | apply Sel.there)) fun ra rcp hrv hra => ?_
  obtain ⟨rb, rfl⟩ := hra (by omega)
  have hrd : Rd (vec rv 3 1 r.length (ints r)) ⟨rb, j, none⟩ (.int .i64 r[j]) := rd_vec hrv (by simp [ints, hj])
  simp only [List.cons_append, List.nil_append] at hrf ⊢
  refine cS (cR (st_bx rfl rfl fun b3 => ?_))
  refine sV (vA rfl) (sN (nK [0, 3, 4] rfl (nT (cS (cS (cR (sV (vM rfl) (sV (vF rfl fa71_1 rfl) (sV (vL rfl ld3) ?_)))))))))
  refine sV (vF rfl fa71_3 rfl) (sV (vL rfl ld3) ?_)
  refine st_clr rfl rfl en108 rfl (hrf) ?_
  refine sV (vA rfl) (sN (nK [0, 3, 4, 5] rfl (nT (cS (cR (sV (vM rfl) (sV (v_neq rfl rfl) (sN (nK [0, 3, 4, 5, 13] rfl (nT (cC rfl (fun hc => ?_) (fun hc => ?_))))))))))))
  · skip
    rw [if_pos (show m.kinded r[j] c false ≠ 0 by simpa using hc)]
    refine cS (cR (sV (vM rfl) (sV (vA rfl) (sN (nK [0, 3, 4] rfl (nT (cT (xR (xt_rt rfl ⟨L, μ, rv, rfl, I, rfl, rfl⟩ ?_)))))))))
    unfold playSH memSH plR
    simp only [List.cons_append, List.nil_append]
    exact (by repeat (first | exact Sub.refl _ | exact Sub.nil _ | refine Sub.sel (by repeat (first | exact Sel.here | apply Sel.there)) ?_ | apply Sub.cons))
  · skip
    rw [if_neg (show ¬ m.kinded r[j] c false ≠ 0 by simpa using hc)]
    have hst := set_c I h r[j] c b
    unfold memSH at hst
    refine cK (xT (cS (cd_drawh (ork [(0, 2), (1, 2), (2, 2), (3, 1), (4, 2), (5, 2), (6, 2), (7, 1), (8, 2), (9, 1), (10, 2), (11, 1), (12, 2), (13, 1), (14, 2), (15, 1), (16, 0), (17, 2)] .nil) (fun i => !(Nat.beq i 16)) mixed (by kernel_rfl) ?_)))
    refine dV rfl (vM rfl) (dV rfl (vN rfl) (dV rfl (vF rfl fa69_0 rfl) (dr_v rfl (vL rfl ld26) ?_)))
    refine dV rfl (vM rfl) (dV rfl (vN rfl) (dV rfl (vF rfl fa69_1 rfl) (dr_v rfl (vL rfl ld27) ?_)))
    refine dV rfl (vF rfl fa71_1 rfl) (dr_v rfl (vL rfl ld3) ?_)
    refine dV rfl (v_idx j (congrArg some hrv) rfl sl27 rfl hj) (dr_v rfl (vL rfl ld3) ?_)
    refine dV rfl (vF rfl fa71_3 rfl) (dr_v rfl (vL rfl ld3) ?_)
    refine dV rfl (vF rfl fa71_2 rfl) (dr_v rfl (vL rfl ld3) ?_)
    refine dr_eff rfl (st_cl rfl rfl en19 rfl (hst) ?_)
    rintro v' h' ⟨L', μ', rfl, I', hL, rfl⟩
    simp only [List.cons_append, List.nil_append]
    refine dr_nx ?_
    refine dV rfl (vA rfl) (dr_nil (nK [4] rfl (nT (cT (xt_rt rfl ⟨L', μ', rv, rfl, I', hL, rfl⟩ ?_)))))
    unfold playSH memSH plR
    rw [hL]
    simp only [List.cons_append, List.nil_append]
    exact (by repeat (first | exact Sub.refl _ | exact Sub.nil _ | refine Sub.sel (by repeat (first | exact Sel.here | apply Sel.there)) ?_ | apply Sub.cons))
end
end Go.Proofs.YtmhmpjgkkpbnnaaGreat
namespace Go.Proofs.YtmhmpjgkkpbnnaaGreat
open Go.Ck Fx Go.Hm Go.Hm.AM
attribute [local irreducible] St Cd Xt Nx DrL LsW
section
variable {L : MemL} {μ : Mem} {S : Res} {m : AM} {ly ln lf : List Int} {φ : Int → Option Nat} {A : Store} {r : List Int} {rv : Value} {pb : Nat} {en : Bool} {k a b c : Int}
set_option maxHeartbeats 2000000 in
set_option maxRecDepth 100000 in
theorem pget_c (I : MI L μ S m) (h : AM.Good m ly ln lf φ A) (ha : oob a r = false) (hb : oob b r = false) : Ct Tryz.prog 87 #[.pointer (some ⟨pb, 0, none⟩), .agg #[.int .i64 k, .int .i64 a, .int .i64 b, .int .i64 c]] (playSH L μ S pb rv r en) (Acted L S pb en (AM.getA m r ⟨k, a, b, c⟩)) := by
  have hrf := refers_c (pb := pb) (rv := rv) (en := en) (k := c) (want := true) I h hb
  obtain ⟨j, rfl, hj, hrj⟩ := rdx_eq hb
  obtain ⟨i, rfl, hi, _⟩ := rdx_eq ha
  unfold playSH memSH plR at hrf
  unfold AM.getA
  dsimp only
  rw [hrj] at hrf ⊢
  unfold playSH memSH plR
  refine ct_of (n := 46) Tryz.func87 rfl rfl (len rfl) fun hr w0 => ?_
  refine cd_vecshape (v := rv) (E := 3) (sz := 1) (n := r.length) (l := ints r) (by repeat (first | exact Sel.here | apply Sel.there)) fun ra rcp hrv hra => ?_
  obtain ⟨rb, rfl⟩ := hra (by omega)
  have hrd : Rd (vec rv 3 1 r.length (ints r)) ⟨rb, j, none⟩ (.int .i64 r[j]) := rd_vec hrv (by simp [ints, hj])
  simp only [List.cons_append, List.nil_append] at hrf ⊢
  refine cS (cR (st_bx rfl rfl fun b3 => ?_))
  refine sV (vA rfl) (sN (nK [0, 3, 4] rfl (nT (cS (cS (cR (sV (vM rfl) (sV (vF rfl fa71_2 rfl) (sV (vL rfl ld3) ?_)))))))))
  refine sV (vF rfl fa71_3 rfl) (sV (vL rfl ld3) ?_)
  refine st_clr rfl rfl en108 rfl (hrf) ?_
  refine sV (vA rfl) (sN (nK [0, 3, 4, 5] rfl (nT (cS (cR (sV (vM rfl) (sV (v_neq rfl rfl) (sN (nK [0, 3, 4, 5, 15] rfl (nT (cC rfl (fun hc => ?_) (fun hc => ?_))))))))))))
  · skip
    rw [if_pos (show m.kinded r[j] c true ≠ 0 by simpa using hc)]
    refine cS (cR (sV (vM rfl) (sV (vA rfl) (sN (nK [0, 3, 4] rfl (nT (cT (xR (xt_rt rfl ⟨L, μ, rv, rfl, I, rfl, rfl⟩ ?_)))))))))
    unfold playSH memSH plR
    simp only [List.cons_append, List.nil_append]
    exact (by repeat (first | exact Sub.refl _ | exact Sub.nil _ | refine Sub.sel (by repeat (first | exact Sel.here | apply Sel.there)) ?_ | apply Sub.cons))
  · skip
    rw [if_neg (show ¬ m.kinded r[j] c true ≠ 0 by simpa using hc)]
    have hst := get_c I h r[j] c
    unfold memSH at hst
    refine cK (xT (cS (cd_drawh (ork [(0, 2), (1, 2), (2, 2), (3, 1), (4, 2), (5, 2), (6, 2), (7, 1), (8, 2), (9, 1), (10, 2), (11, 1), (12, 2), (13, 1), (14, 0), (15, 2), (16, 2), (17, 2), (18, 2), (19, 2)] .nil) (fun i => !(Nat.beq i 14)) mixed (by kernel_rfl) ?_)))
    refine dV rfl (vM rfl) (dV rfl (vN rfl) (dV rfl (vF rfl fa69_0 rfl) (dr_v rfl (vL rfl ld26) ?_)))
    refine dV rfl (vM rfl) (dV rfl (vN rfl) (dV rfl (vF rfl fa69_1 rfl) (dr_v rfl (vL rfl ld27) ?_)))
    refine dV rfl (vF rfl fa71_2 rfl) (dr_v rfl (vL rfl ld3) ?_)
    refine dV rfl (v_idx j (congrArg some hrv) rfl sl27 rfl hj) (dr_v rfl (vL rfl ld3) ?_)
    refine dV rfl (vF rfl fa71_3 rfl) (dr_v rfl (vL rfl ld3) ?_)
    refine dr_eff rfl (st_cl rfl rfl en21 rfl (hst) ?_)
    rintro v' h' ⟨μ', rfl, I', rfl⟩
    simp only [List.cons_append, List.nil_append]
    refine dr_nx ?_
    refine dV rfl (vM rfl) (dV rfl (v_extract rfl rfl) (dV rfl (v_extract rfl rfl) (dV rfl (vA rfl) (dV rfl (vA rfl) (dr_nil (nK [0, 3, 4, 6, 7] rfl (nT (cS (cS (cR (sV (vM rfl) (sV (v_eql rfl rfl) (sN (nK [0, 3, 4, 6, 7, 36] rfl (nT (cC rfl (fun he => ?_) (fun he => ?_)))))))))))))))))
    · skip
      have he' : (m.get r[j] c).2.1 = 0 := by simpa using he
      rw [if_pos he']
      refine cd_row (v := rv) (n := r.length) (l := ints r) (by omega) (by repeat (first | exact Sel.here | apply Sel.there)) fun b3 cp3 j3 hrv3 ho => ?_
      have hlen : i < (ints r ++ j3).length := by rw [List.length_append, ints_length]; omega
      refine cd_drawh (ork [(0, 2), (1, 2), (2, 2), (3, 1), (4, 2), (5, 1), (6, 2), (7, 2), (8, 0)] .nil) (fun i => !(Nat.beq i 8)) mixed (by kernel_rfl) ?_
      refine dV rfl (vM rfl) (dV rfl (vN rfl) (dV rfl (vF rfl fa69_1 rfl) (dr_v rfl (vL rfl ld27) ?_)))
      refine dV rfl (vF rfl fa71_1 rfl) (dr_v rfl (vL rfl ld3) ?_)
      refine dV rfl (vM rfl) (dV rfl (v_idx i (congrArg some hrv3) rfl sl27 rfl hi) (dr_eff rfl (st_sto rfl rfl sz3 (dr_nx ?_))))
      refine dr_nil (nK [4, 7] rfl (nT (cS (cR (sV (vM rfl) (sV (vA rfl) (sN (nK [4] rfl (nT (cT ?_))))))))))
      rw [show (ints r ++ j3).set i (#[Value.int IntKind.i64 (m.get r[j] c).1, Value.int IntKind.i64 (m.get r[j] c).2.1][0]) = _ from set_ints hi]
      refine xt_shut (E := 3) (l' := ints (r.set i (m.get r[j] c).1)) ho (by simp [ints]) (by repeat (first | exact Sel.here | apply Sel.there)) ?_
      refine xt_rt rfl ⟨L, μ', rv, rfl, I', rfl, rfl⟩ ?_
      unfold playSH memSH plR
      rw [List.length_set, Int.toNat_natCast]
      simp only [List.cons_append, List.nil_append]
      exact (by repeat (first | exact Sub.refl _ | exact Sub.nil _ | refine Sub.sel (by repeat (first | exact Sel.here | apply Sel.there)) ?_ | apply Sub.cons))
    · skip
      have he' : ¬ (m.get r[j] c).2.1 = 0 := by simpa using he
      rw [if_neg he']
      refine cK (xT (cS (cR (sV (vM rfl) (sV (vA rfl) (sN (nK [4] rfl (nT (cT (xt_rt rfl ⟨L, μ', rv, rfl, I', rfl, rfl⟩ ?_))))))))))
      unfold playSH memSH plR
      simp only [List.cons_append, List.nil_append]
      exact (by repeat (first | exact Sub.refl _ | exact Sub.nil _ | refine Sub.sel (by repeat (first | exact Sel.here | apply Sel.there)) ?_ | apply Sub.cons))
set_option maxHeartbeats 2000000 in
set_option maxRecDepth 100000 in
theorem pclear_c (I : MI L μ S m) (h : AM.Good m ly ln lf φ A) (hrl : r.length ≤ 1000000) : Ct Tryz.prog 92 #[.pointer (some ⟨pb, 0, none⟩), .agg #[.int .i64 k, .int .i64 a, .int .i64 b, .int .i64 c]] (playSH L μ S pb rv r en) (Acted L S pb en (AM.clr en m r)) := by
  unfold AM.clr
  unfold playSH memSH plR
  refine ct_of (n := 22) Tryz.func92 rfl rfl (len rfl) fun hr w0 => ?_
  refine cd_vecshape (v := rv) (E := 3) (sz := 1) (n := r.length) (l := ints r) (by repeat (first | exact Sel.here | apply Sel.there)) fun ra rcp hrv hra => ?_
  have hri : RowI (vec rv 3 1 r.length (ints r)) rv r := rowI_vec hrv hra rfl
  have hone : rv.oneCell' = true := by rw [hrv]; rfl
  have hm := minor_c I h hri hrl
  unfold memSH at hm
  simp only [List.cons_append, List.nil_append] at hm ⊢
  refine cS (cR (st_bx rfl rfl fun b3 => ?_))
  refine sV (vA rfl) (sN (nK [0, 4] rfl (nT (cS (cS (cR (sV (vM rfl) (sV (vN rfl) (sV (vF rfl fa69_2 rfl) (sV (vL rfl ld4) ?_))))))))))
  refine sN (nK [0, 4, 8] rfl (nT (cC rfl (fun hc => ?_) (fun hc => ?_))))
  · skip
    subst hc
    refine cS (cR (sV (vA rfl) (sN (nK [0, 4] rfl (nT (cT (xR (xt_rt rfl ⟨L, μ, rv, rfl, I, rfl, rfl⟩ ?_))))))))
    unfold playSH memSH plR
    simp only [List.cons_append, List.nil_append]
    exact (by repeat (first | exact Sub.refl _ | exact Sub.nil _ | refine Sub.sel (by repeat (first | exact Sel.here | apply Sel.there)) ?_ | apply Sub.cons))
  · skip
    have hc : en = false := by simpa using hc
    subst hc
    refine cK (xT (cS (cd_drawh (ork [(0, 2), (1, 2), (2, 2), (3, 2), (4, 1), (5, 2), (6, 2), (7, 2), (8, 1), (9, 0), (10, 2), (11, 2), (12, 0), (13, 2)] .nil) (fun i => !(Nat.beq i 9 || Nat.beq i 12)) mixed (by kernel_rfl) ?_)))
    refine dV rfl (vM rfl) (dV rfl (vM rfl) (dV rfl (vN rfl) (dV rfl (vF rfl fa69_0 rfl) (dr_v rfl (vL rfl ld26) ?_))))
    refine dV rfl (vM rfl) (dV rfl (vN rfl) (dV rfl (vF rfl fa69_1 rfl) (dr_v rfl (vL rfl ld27) ?_)))
    refine dr_eff rfl (st_cl rfl rfl en20 rfl (hm) ?_)
    rintro v' h' ⟨sl, L', μ', rfl, I', hL, rfl⟩
    simp only [List.cons_append, List.nil_append]
    refine dr_nx ?_
    refine dV rfl (v_extract rfl rfl) (dV rfl (v_extract rfl rfl) ?_)
    have hk := keep_c (pb := pb) (mb := L.mb) (en := false) (rv := rv) (r := r) (l := (m.minor r).1) (sl := sl) (e := (m.minor r).2.1)
    unfold plR at hk
    refine dr_eff rfl (st_cl rfl rfl en109 rfl (hk) ?_)
    rintro v' h' ⟨rv', rfl, rfl⟩
    simp only [List.cons_append, List.nil_append]
    refine dr_nx ?_
    refine dV rfl (vA rfl) (dr_nil (nK [4] rfl (nT (cT (xt_rt rfl ⟨L', μ', rv', rfl, I', hL, rfl⟩ ?_)))))
    unfold playSH memSH plR
    rw [hL]
    simp only [List.cons_append, List.nil_append]
    exact (by repeat (first | exact Sub.refl _ | exact Sub.nil _ | refine Sub.sel (by repeat (first | exact Sel.here | apply Sel.there)) ?_ | apply Sub.cons))
set_option maxHeartbeats 2000000 in
set_option maxRecDepth 100000 in
theorem pflip_c (I : MI L μ S m) (h : AM.Good m ly ln lf φ A) (hrl : r.length ≤ 1000000) : Ct Tryz.prog 93 #[.pointer (some ⟨pb, 0, none⟩), .agg #[.int .i64 k, .int .i64 a, .int .i64 b, .int .i64 c]] (playSH L μ S pb rv r en) (Acted L S pb en (AM.flp en m r)) := by
  unfold AM.flp
  unfold playSH memSH plR
  refine ct_of (n := 22) Tryz.func93 rfl rfl (len rfl) fun hr w0 => ?_
  refine cd_vecshape (v := rv) (E := 3) (sz := 1) (n := r.length) (l := ints r) (by repeat (first | exact Sel.here | apply Sel.there)) fun ra rcp hrv hra => ?_
  have hri : RowI (vec rv 3 1 r.length (ints r)) rv r := rowI_vec hrv hra rfl
  have hone : rv.oneCell' = true := by rw [hrv]; rfl
  have hm := flip_c I h hri hrl
  unfold memSH at hm
  simp only [List.cons_append, List.nil_append] at hm ⊢
  refine cS (cR (st_bx rfl rfl fun b3 => ?_))
  refine sV (vA rfl) (sN (nK [0, 4] rfl (nT (cS (cS (cR (sV (vM rfl) (sV (vN rfl) (sV (vF rfl fa69_2 rfl) (sV (vL rfl ld4) ?_))))))))))
  refine sN (nK [0, 4, 8] rfl (nT (cC rfl (fun hc => ?_) (fun hc => ?_))))
  · skip
    subst hc
    refine cS (cR (sV (vA rfl) (sN (nK [0, 4] rfl (nT (cT (xR (xt_rt rfl ⟨L, μ, rv, rfl, I, rfl, rfl⟩ ?_))))))))
    unfold playSH memSH plR
    simp only [List.cons_append, List.nil_append]
    exact (by repeat (first | exact Sub.refl _ | exact Sub.nil _ | refine Sub.sel (by repeat (first | exact Sel.here | apply Sel.there)) ?_ | apply Sub.cons))
  · skip
    have hc : en = false := by simpa using hc
    subst hc
    refine cK (xT (cS (cd_drawh (ork [(0, 2), (1, 2), (2, 2), (3, 2), (4, 1), (5, 2), (6, 2), (7, 2), (8, 1), (9, 0), (10, 2), (11, 2), (12, 0), (13, 2)] .nil) (fun i => !(Nat.beq i 9 || Nat.beq i 12)) mixed (by kernel_rfl) ?_)))
    refine dV rfl (vM rfl) (dV rfl (vM rfl) (dV rfl (vN rfl) (dV rfl (vF rfl fa69_0 rfl) (dr_v rfl (vL rfl ld26) ?_))))
    refine dV rfl (vM rfl) (dV rfl (vN rfl) (dV rfl (vF rfl fa69_1 rfl) (dr_v rfl (vL rfl ld27) ?_)))
    refine dr_eff rfl (st_cl rfl rfl en23 rfl (hm) ?_)
    rintro v' h' ⟨sl, L', μ', rfl, I', hL, rfl⟩
    simp only [List.cons_append, List.nil_append]
    refine dr_nx ?_
    refine dV rfl (v_extract rfl rfl) (dV rfl (v_extract rfl rfl) ?_)
    have hk := keep_c (pb := pb) (mb := L.mb) (en := false) (rv := rv) (r := r) (l := (m.flip r).1) (sl := sl) (e := (m.flip r).2.1)
    unfold plR at hk
    refine dr_eff rfl (st_cl rfl rfl en109 rfl (hk) ?_)
    rintro v' h' ⟨rv', rfl, rfl⟩
    simp only [List.cons_append, List.nil_append]
    refine dr_nx ?_
    refine dV rfl (vA rfl) (dr_nil (nK [4] rfl (nT (cT (xt_rt rfl ⟨L', μ', rv', rfl, I', hL, rfl⟩ ?_)))))
    unfold playSH memSH plR
    rw [hL]
    simp only [List.cons_append, List.nil_append]
    exact (by repeat (first | exact Sub.refl _ | exact Sub.nil _ | refine Sub.sel (by repeat (first | exact Sel.here | apply Sel.there)) ?_ | apply Sub.cons))
set_option maxHeartbeats 2000000 in
set_option maxRecDepth 100000 in
theorem plook_c (I : MI L μ S m) (h : AM.Good m ly ln lf φ A) (ha : I64 a) : Ct Tryz.prog 94 #[.pointer (some ⟨pb, 0, none⟩), .agg #[.int .i64 k, .int .i64 a, .int .i64 b, .int .i64 c]] (playSH L μ S pb rv r en) (Acted L S pb en (AM.lok en m r ⟨k, a, b, c⟩)) := by
  unfold AM.lok
  unfold playSH memSH plR
  refine ct_of (n := 22) Tryz.func94 rfl rfl (len rfl) fun hr w0 => ?_
  have hm := step_c I h a ha
  unfold memSH at hm
  simp only [List.cons_append, List.nil_append] at hm ⊢
  refine cS (cR (st_bx rfl rfl fun b3 => ?_))
  refine sV (vA rfl) (sN (nK [0, 3, 4] rfl (nT (cS (cS (cR (sV (vM rfl) (sV (vN rfl) (sV (vF rfl fa69_2 rfl) (sV (vL rfl ld4) ?_))))))))))
  refine sN (nK [0, 3, 4, 10] rfl (nT (cC rfl (fun hc => ?_) (fun hc => ?_))))
  · skip
    subst hc
    refine cS (cR (sV (vA rfl) (sN (nK [0, 3, 4] rfl (nT (cT (xR (xt_rt rfl ⟨L, μ, rv, rfl, I, rfl, rfl⟩ ?_))))))))
    unfold playSH memSH plR
    simp only [List.cons_append, List.nil_append]
    exact (by repeat (first | exact Sub.refl _ | exact Sub.nil _ | refine Sub.sel (by repeat (first | exact Sel.here | apply Sel.there)) ?_ | apply Sub.cons))
  · skip
    have hc : en = false := by simpa using hc
    subst hc
    refine cK (xT (cS (cd_drawh (ork [(0, 2), (1, 2), (2, 2), (3, 1), (4, 2), (5, 1), (6, 0), (7, 2), (8, 2), (9, 2), (10, 2), (11, 2)] .nil) (fun i => !(Nat.beq i 6)) mixed (by kernel_rfl) ?_)))
    refine dV rfl (vM rfl) (dV rfl (vN rfl) (dV rfl (vF rfl fa69_0 rfl) (dr_v rfl (vL rfl ld26) ?_)))
    refine dV rfl (vF rfl fa71_1 rfl) (dr_v rfl (vL rfl ld3) ?_)
    refine dr_eff rfl (st_cl rfl rfl en24 rfl (hm) ?_)
    rintro v' h' ⟨L', μ', rfl, I', hL, rfl⟩
    simp only [List.cons_append, List.nil_append]
    refine dr_nx ?_
    refine dV rfl (vM rfl) (dV rfl (v_extract rfl rfl) (dV rfl (v_extract rfl rfl) (dV rfl (vA rfl) (dV rfl (vA rfl) (dr_nil (nK [4, 6] rfl (nT (cS (cR (sV (vM rfl) (sV (vA rfl) (sN (nK [4] rfl (nT (cT (xt_rt rfl ⟨L', μ', rv, rfl, I', hL, rfl⟩ ?_))))))))))))))))
    unfold playSH memSH plR
    rw [hL]
    simp only [List.cons_append, List.nil_append]
    exact (by repeat (first | exact Sub.refl _ | exact Sub.nil _ | refine Sub.sel (by repeat (first | exact Sel.here | apply Sel.there)) ?_ | apply Sub.cons))
end
end Go.Proofs.YtmhmpjgkkpbnnaaGreat
namespace Go.Proofs.YtmhmpjgkkpbnnaaGreat
open Go.Ck Fx Go.Hm Go.Hm.AM
attribute [local irreducible] St Cd Xt Nx DrL LsW
section
variable {L : MemL} {μ : Mem} {S : Res} {m : AM} {ly ln lf : List Int} {φ : Int → Option Nat} {A : Store} {r : List Int} {rv : Value} {pb : Nat} {en : Bool} {k a b c : Int}
theorem clr_fine (h : AM.Good m ly ln lf φ A) (he : (AM.clr en m r).1 = 0) : (∃ ly ln lf φ A, AM.Good (AM.clr en m r).2.1 ly ln lf φ A) ∧ (AM.clr en m r).2.2.length = r.length ∧ (AM.clr en m r).2.1.sh = m.sh := by
  unfold AM.clr at he ⊢
  cases en
  · simp only [Bool.false_eq_true, if_false] at he ⊢
    have hm : m.minorErr r = 0 := by
      by_cases hq : m.minorErr r = 0
      · exact hq
      · rw [minor_no hq] at he; exact absurd he hq
    obtain ⟨ln', φ', g, ⟨hl, _⟩, hs, _⟩ := h.minor hm
    rw [if_pos he]
    exact ⟨⟨_, _, _, _, _, g⟩, hl, hs⟩
  · simp only [if_true]
    exact ⟨⟨_, _, _, _, _, h⟩, trivial, trivial⟩
set_option maxHeartbeats 4000000 in
set_option maxRecDepth 100000 in
theorem fresh_c (I : MI L μ S m) (h : AM.Good m ly ln lf φ A) (hrl : r.length ≤ 1000000) (ha : oob a r = false) : Ct Tryz.prog 86 #[.pointer (some ⟨pb, 0, none⟩), .agg #[.int .i64 k, .int .i64 a, .int .i64 b, .int .i64 c]] (playSH L μ S pb rv r en) (Acted L S pb en (AM.fresh en m r ⟨k, a, b, c⟩)) := by
  have hpc := pclear_c (pb := pb) (rv := rv) (en := en) (k := k) (a := a) (b := b) (c := c) I h hrl
  obtain ⟨i, rfl, hi, _⟩ := rdx_eq ha
  have oy := I.r.oky h.g
  have hl := I.r.shl h.g
  obtain ⟨a0, cp0, hv, hrow⟩ := id I.shp
  have hroom := room_ct (l := L.y) (s := μ.y) oy
  rw [I.r.y.us, I.r.y.ln] at hroom
  unfold playSH memSH plR at hpc
  unfold AM.fresh AM.tight
  dsimp only
  unfold playSH memSH plR
  refine ct_of (n := 100) Tryz.func86 rfl rfl (len rfl) fun hr w0 => ?_
  simp only [List.cons_append, List.nil_append] at hpc ⊢
  refine cS (cR (st_bx rfl rfl fun b3 => ?_))
  refine sV (vA rfl) (sN (nK [0, 3, 4] rfl (nT (cS (cS (cd_drawh (ork [(0, 2), (1, 1), (2, 2), (3, 2), (4, 2), (5, 1), (6, 2), (7, 2), (8, 2), (9, 1), (10, 2), (11, 2), (12, 1), (13, 2), (14, 2), (15, 2)] .nil) (fun _ => true) mixed (by kernel_rfl) ?_))))))
  refine dV rfl (vF rfl fa71_2 rfl) (dr_v rfl (vL rfl ld3) ?_)
  refine dV rfl (v_lss rfl rfl) (dV rfl (vM rfl) (dr_cut (k := 12) (d := 24) (v := .bool (decide (b < 0) || decide ((m.sh.length : Int) ≤ b))) (fun hcut => bool_want (b := decide (b < 0)) false (fun hg => ?_) (fun hg => ?_)) ?_))
  · refine dp_sk rfl rfl rfl hg ?_
    refine dr_sk rfl rfl rfl hg ?_
    refine dp_sk rfl rfl rfl hg ?_
    refine dp_sk rfl rfl rfl hg ?_
    refine dp_sk rfl rfl rfl hg ?_
    refine dr_sk rfl rfl rfl hg ?_
    refine dp_sk rfl rfl rfl hg ?_
    refine dp_sk rfl rfl rfl hg ?_
    refine dr_sk rfl rfl rfl hg ?_
    refine dp_sk rfl rfl rfl hg ?_
    refine dp_sk rfl rfl rfl hg ?_
    refine dV rfl (v_pick_true (bool_ev rfl hg) rfl) ?_
    exact hcut _ (ssub_head (by first | rfl | (rw [hg]; rfl) | simp_all) (uS rfl (uS rfl (uS rfl (uS rfl (uS rfl (uS rfl (uS rfl (uS rfl (uS rfl (uS rfl (uS rfl (ssub_refl)))))))))))))
  · skip
    refine dp_vg rfl rfl (bG rfl hg) (vF rfl fa71_2 rfl) (dr_vg rfl rfl (bG rfl hg) (vL rfl ld3) ?_)
    refine dp_vg rfl rfl (bG rfl hg) (vM rfl) (dp_vg rfl rfl (bG rfl hg) (vN rfl) (dp_vg rfl rfl (bG rfl hg) (vF rfl fa69_0 rfl) (dr_vg rfl rfl (bG rfl hg) (vL rfl ld26) ?_)))
    refine dp_vg rfl rfl (bG rfl hg) (vN rfl) (dp_vg rfl rfl (bG rfl hg) (vF rfl fa90_0 rfl) (dr_vg rfl rfl (bG rfl hg) (vL rfl ld22) ?_))
    refine dp_vg rfl rfl (bG rfl hg) (v_len (congrArg some hv) Tryz.underlying22) (dp_vg rfl rfl (bG rfl hg) (v_geq rfl rfl) (dV rfl (vP (bool_ev rfl hg) rfl) ?_))
    exact hcut _ (ssub_head (by first | rfl | (rw [hg]; rfl) | simp_all) (uS rfl (uS rfl (uS rfl (uS rfl (uS rfl (uS rfl (uS rfl (uS rfl (uS rfl (uS rfl (uS rfl (ssub_refl)))))))))))))
  refine dr_nil (nK [0, 3, 4, 24] rfl (nT (cC rfl (fun hc => ?_) (fun hc => ?_))))
  · skip
    rw [if_pos hc]
    refine cS (cR (sV (vA rfl) (sN (nK [0, 3, 4] rfl (nT (cT (xR (xt_rt rfl ⟨L, μ, rv, rfl, I, rfl, rfl⟩ ?_))))))))
    unfold playSH memSH plR
    simp only [List.cons_append, List.nil_append]
    exact (by repeat (first | exact Sub.refl _ | exact Sub.nil _ | refine Sub.sel (by repeat (first | exact Sel.here | apply Sel.there)) ?_ | apply Sub.cons))
  · skip
    rw [if_neg (by rw [hc]; simp)]
    simp only [Bool.or_eq_false_iff, decide_eq_false_iff_not, Int.not_lt, Int.not_le] at hc
    have hk : b.toNat < m.sh.length := by omega
    obtain ⟨b1, o1, cp1, u, hv', hu, a2, cp2, hu2, _⟩ := I.shp.row hk
    have hsz : m.sh[b.toNat].length ≤ 100 := by
      have := hl.at b
      rw [I.r.sh, show shAt m.sh b = m.sh[b.toNat] by unfold shAt; exact getD_lt hk] at this
      exact this
    have hg0 : m.sh.getD b.toNat [] = m.sh[b.toNat] := getD_lt hk
    have hY : (μ.y.ws.length : Int) = m.Y := I.r.y.ln
    refine cK (xT (cS (cd_drawh (ork [(0, 2), (1, 2), (2, 2), (3, 1), (4, 2), (5, 2), (6, 1), (7, 2), (8, 1), (9, 2), (10, 1), (11, 2), (12, 2), (13, 2)] .nil) (fun _ => true) mixed (by kernel_rfl) ?_)))
    refine dV rfl (vM rfl) (dV rfl (vN rfl) (dV rfl (vF rfl fa69_0 rfl) (dr_v rfl (vL rfl ld26) ?_)))
    refine dV rfl (vN rfl) (dV rfl (vF rfl fa90_0 rfl) (dr_v rfl (vL rfl ld22) ?_))
    refine dV rfl (vF rfl fa71_2 rfl) (dr_v rfl (vL rfl ld3) ?_)
    refine dV rfl (v_ixo _ (congrArg some hv') rfl sl22 (Int.toNat_of_nonneg hc.1).symm hk) (dr_v rfl (vL rfl ld55) ?_)
    refine dV rfl (v_len (congrArg some hu2) Tryz.underlying55) (dV rfl (v_add rfl rfl (by unfold I64 at *; omega)) (dV rfl (vA rfl) (dr_nil (nK [0, 3, 4, 5] rfl (nT (cS (cS (cR (sV (vM rfl) (sV (vN rfl) (sV (vF rfl fa69_2 rfl) (sV (vL rfl ld4) ?_))))))))))))
    refine sV (v_not rfl) (sV (vM rfl) (st_cut (k := 19) (d := 56) (v := .bool (!en && decide (m.Y - (m.new - 1) < 1 + ((m.sh[b.toNat].length : Nat) : Int)))) (fun hcut => bool_want (b := !en) true (fun hg => ?_) (fun hg => ?_)) ?_))
    · refine st_sk rfl rfl hg ?_
      refine st_sk rfl rfl hg ?_
      refine st_sk rfl rfl hg ?_
      refine st_sk rfl rfl hg ?_
      refine st_sk rfl rfl hg ?_
      refine st_sk rfl rfl hg ?_
      refine st_sk rfl rfl hg ?_
      refine st_sk rfl rfl hg ?_
      refine st_sk rfl rfl hg ?_
      refine st_sk rfl rfl hg ?_
      refine st_sk rfl rfl hg ?_
      refine st_sk rfl rfl hg ?_
      refine sV (vP (bool_ev rfl hg) rfl) ?_
      exact hcut _ (ssub_head (by first | rfl | (rw [hg]; rfl) | simp_all) (uS rfl (uS rfl (uS rfl (uS rfl (uS rfl (uS rfl (uS rfl (uS rfl (uS rfl (uS rfl (uS rfl (uS rfl (ssub_refl))))))))))))))
    · skip
      refine st_vg rfl (bG rfl hg) (vM rfl) (st_vg rfl (bG rfl hg) (vN rfl) (st_vg rfl (bG rfl hg) (vF rfl fa69_0 rfl) (st_vg rfl (bG rfl hg) (vL rfl ld26) ?_)))
      refine st_vg rfl (bG rfl hg) (vN rfl) (st_vg rfl (bG rfl hg) (vF rfl fa90_1 rfl) (st_vg rfl (bG rfl hg) (vL rfl ld80) ?_))
      refine st_vg rfl (bG rfl hg) (vN rfl) (st_vg rfl (bG rfl hg) (vF rfl fa87_0 rfl) (st_clrg rfl (bG rfl hg) rfl rfl en46 rfl (hroom) ?_))
      refine st_vg rfl (bG rfl hg) (vM rfl) (st_vg rfl (bG rfl hg) (v_lss rfl rfl) (sV (v_pick_true (bool_ev rfl hg) rfl) ?_))
      exact hcut _ (ssub_head (by first | rfl | (rw [hg]; rfl) | simp_all) (uS rfl (uS rfl (uS rfl (uS rfl (uS rfl (uS rfl (uS rfl (uS rfl (uS rfl (uS rfl (uS rfl (uS rfl (ssub_refl))))))))))))))
    refine sV (vM rfl) (st_cut (k := 35) (d := 72) (v := .bool ((!en && decide (m.Y - (m.new - 1) < 1 + ((m.sh[b.toNat].length : Nat) : Int))) && decide (1 + ((m.sh[b.toNat].length : Nat) : Int) ≤ (μ.y.ws.length : Int)))) (fun hcut => bool_want (b := (!en && decide (m.Y - (m.new - 1) < 1 + ((m.sh[b.toNat].length : Nat) : Int)))) true (fun hg => ?_) (fun hg => ?_)) ?_)
    · refine st_sk rfl rfl hg ?_
      refine st_sk rfl rfl hg ?_
      refine st_sk rfl rfl hg ?_
      refine st_sk rfl rfl hg ?_
      refine st_sk rfl rfl hg ?_
      refine st_sk rfl rfl hg ?_
      refine st_sk rfl rfl hg ?_
      refine st_sk rfl rfl hg ?_
      refine st_sk rfl rfl hg ?_
      refine st_sk rfl rfl hg ?_
      refine st_sk rfl rfl hg ?_
      refine st_sk rfl rfl hg ?_
      refine st_sk rfl rfl hg ?_
      refine st_sk rfl rfl hg ?_
      refine sV (vP (bool_ev rfl hg) rfl) ?_
      exact hcut _ (ssub_head (by first | rfl | (rw [hg]; rfl) | simp_all) (uS rfl (uS rfl (uS rfl (uS rfl (uS rfl (uS rfl (uS rfl (uS rfl (uS rfl (uS rfl (uS rfl (uS rfl (uS rfl (uS rfl (ssub_refl))))))))))))))))
    · skip
      refine st_vg rfl (bG rfl hg) (vM rfl) (st_vg rfl (bG rfl hg) (vM rfl) (st_vg rfl (bG rfl hg) (vN rfl) (st_vg rfl (bG rfl hg) (vF rfl fa69_0 rfl) (st_vg rfl (bG rfl hg) (vL rfl ld26) ?_))))
      refine st_vg rfl (bG rfl hg) (vN rfl) (st_vg rfl (bG rfl hg) (vF rfl fa90_1 rfl) (st_vg rfl (bG rfl hg) (vL rfl ld80) ?_))
      refine st_vg rfl (bG rfl hg) (vN rfl) (st_vg rfl (bG rfl hg) (vF rfl fa87_0 rfl) (st_vg rfl (bG rfl hg) (vF rfl fa85_0 rfl) (st_vg rfl (bG rfl hg) (vL rfl ld27) ?_)))
      refine st_vg rfl (bG rfl hg) (v_len rfl Tryz.underlying27) (st_vg rfl (bG rfl hg) (v_leq rfl rfl) (sV (v_pick_true (bool_ev rfl hg) rfl) ?_))
      exact hcut _ (ssub_head (by first | rfl | (rw [hg]; rfl) | simp_all) (uS rfl (uS rfl (uS rfl (uS rfl (uS rfl (uS rfl (uS rfl (uS rfl (uS rfl (uS rfl (uS rfl (uS rfl (uS rfl (uS rfl (ssub_refl))))))))))))))))
    refine sN (nK [0, 3, 4, 72] rfl (nT ?_))
    rw [hY]
    refine cC rfl (fun hd => ?_) (fun hd => ?_)
    · skip
      rw [if_pos (show _ = true by rw [hg0]; exact hd)]
      refine cS (cR (sV (vM rfl) (sV (v_loadW rfl ld71 rfl (by repeat (first | exact Sel.here | apply Sel.there))) ?_)))
      refine st_cl rfl rfl en92 rfl (hpc) ?_
      rintro v' h' ⟨L1, μ1, rv1, rfl, I1, hL1, rfl⟩
      unfold playSH memSH plR
      simp only [List.cons_append, List.nil_append]
      refine sV (vA rfl) (sN (nK [0, 3, 4, 6] rfl (nT (cS (cR (sV (vM rfl) (sV (v_neq rfl rfl) (sN (nK [0, 3, 4, 6, 77] rfl (nT (cC rfl (fun hz => ?_) (fun hz => ?_))))))))))))
      · skip
        have hz' : (AM.clr en m r).1 ≠ 0 := by simpa using hz
        rw [if_pos hz']
        refine cS (cR (sV (vM rfl) (sV (vA rfl) (sN (nK [0, 3, 4] rfl (nT (cT (xR (xt_rt rfl ⟨L1, μ1, rv1, rfl, I1, hL1, rfl⟩ ?_)))))))))
        unfold playSH memSH plR
        rw [hL1]
        simp only [List.cons_append, List.nil_append]
        exact (by repeat (first | exact Sub.refl _ | exact Sub.nil _ | refine Sub.sel (by repeat (first | exact Sel.here | apply Sel.there)) ?_ | apply Sub.cons))
      · skip
        have hz' : ¬ (AM.clr en m r).1 ≠ 0 := by simpa using hz
        rw [if_neg hz']
        refine cK (xT (cS (cd_drawh (ork [(0, 2), (1, 2), (2, 2), (3, 1), (4, 2), (5, 1), (6, 0), (7, 2), (8, 2), (9, 2), (10, 2), (11, 2)] .nil) (fun i => !(Nat.beq i 6)) mixed (by kernel_rfl) ?_)))
        refine dV rfl (vM rfl) (dV rfl (vN rfl) (dV rfl (vF rfl fa69_0 rfl) (dr_v rfl (vL rfl ld26) ?_)))
        refine dV rfl (vF rfl fa71_2 rfl) (dr_v rfl (vL rfl ld3) ?_)
        have hz0 : (AM.clr en m r).1 = 0 := by simpa using hz'
        obtain ⟨⟨ly1, ln1, lf1, φ1, A1, h1⟩, hlen1, hsh1⟩ := clr_fine h hz0
        have hi1 : i < (AM.clr en m r).2.2.length := by omega
        have hal := alloc_c I1 h1 b
        unfold memSH at hal
        simp only [List.cons_append, List.nil_append] at hal ⊢
        refine dr_eff rfl (st_cl rfl rfl en18 rfl (hal) ?_)
        rintro v' h' ⟨μ2, rfl, I2, rfl⟩
        simp only [List.cons_append, List.nil_append]
        refine dr_nx ?_
        refine dV rfl (vM rfl) (dV rfl (v_extract rfl rfl) (dV rfl (v_extract rfl rfl) (dV rfl (vA rfl) (dV rfl (vA rfl) (dr_nil (nK [0, 3, 4, 7, 8] rfl (nT (cS (cS (cR (sV (vM rfl) (sV (v_eql rfl rfl) (sN (nK [0, 3, 4, 7, 8, 90] rfl (nT (cC rfl (fun he => ?_) (fun he => ?_)))))))))))))))))
        · skip
          have he' : ((AM.clr en m r).2.1.alloc b).2.1 = 0 := by simpa using he
          refine cd_row (v := rv1) (n := (AM.clr en m r).2.2.length) (l := ints (AM.clr en m r).2.2) (by omega) (by repeat (first | exact Sel.here | apply Sel.there)) fun b3 cp3 j3 hrv3 ho => ?_
          have hlen : i < (ints (AM.clr en m r).2.2 ++ j3).length := by rw [List.length_append, ints_length]; omega
          refine cd_drawh (ork [(0, 2), (1, 2), (2, 2), (3, 1), (4, 2), (5, 1), (6, 2), (7, 2), (8, 0)] .nil) (fun i => !(Nat.beq i 8)) mixed (by kernel_rfl) ?_
          refine dV rfl (vM rfl) (dV rfl (vN rfl) (dV rfl (vF rfl fa69_1 rfl) (dr_v rfl (vL rfl ld27) ?_)))
          refine dV rfl (vF rfl fa71_1 rfl) (dr_v rfl (vL rfl ld3) ?_)
          refine dV rfl (vM rfl) (dV rfl (v_idx i (congrArg some hrv3) rfl sl27 rfl hi1) (dr_eff rfl (st_sto rfl rfl sz3 (dr_nx ?_))))
          refine dr_nil (nK [4, 8] rfl (nT (cS (cR (sV (vM rfl) (sV (vA rfl) (sN (nK [4] rfl (nT (cT ?_))))))))))
          rw [show (ints (AM.clr en m r).2.2 ++ j3).set i (#[Value.int IntKind.i64 ((AM.clr en m r).2.1.alloc b).1, Value.int IntKind.i64 ((AM.clr en m r).2.1.alloc b).2.1][0]) = _ from set_ints hi1]
          refine xt_shut (E := 3) (l' := ints ((AM.clr en m r).2.2.set i ((AM.clr en m r).2.1.alloc b).1)) ho (by simp [ints]) (by repeat (first | exact Sel.here | apply Sel.there)) ?_
          have hna : (newAt (AM.clr en m r).2.1 (AM.clr en m r).2.2 ⟨k, (i : Int), b, c⟩).2.2 = ((AM.clr en m r).2.2).set i (((AM.clr en m r).2.1).alloc b).1 := by unfold newAt; dsimp only; rw [if_pos he']; rfl
          refine xt_rt rfl ⟨L1, μ2, rv1, rfl, I2, hL1, rfl⟩ ?_
          unfold playSH memSH plR
          rw [hna, hL1, List.length_set]
          simp only [List.cons_append, List.nil_append]
          exact (by repeat (first | exact Sub.refl _ | exact Sub.nil _ | refine Sub.sel (by repeat (first | exact Sel.here | apply Sel.there)) ?_ | apply Sub.cons))
        · skip
          have he' : ¬ ((AM.clr en m r).2.1.alloc b).2.1 = 0 := by simpa using he
          refine cK (xT (cS (cR (sV (vM rfl) (sV (vA rfl) (sN (nK [4] rfl (nT (cT ?_)))))))))
          have hna : (newAt (AM.clr en m r).2.1 (AM.clr en m r).2.2 ⟨k, (i : Int), b, c⟩).2.2 = (AM.clr en m r).2.2 := by unfold newAt; dsimp only; rw [if_neg he']
          refine xt_rt rfl ⟨L1, μ2, rv1, rfl, I2, hL1, rfl⟩ ?_
          unfold playSH memSH plR
          rw [hna, hL1]
          simp only [List.cons_append, List.nil_append]
          exact (by repeat (first | exact Sub.refl _ | exact Sub.nil _ | refine Sub.sel (by repeat (first | exact Sel.here | apply Sel.there)) ?_ | apply Sub.cons))
    · skip
      rw [if_neg (show ¬ _ = true by rw [hg0, hd]; simp)]
      refine cK (xT (cS (cd_drawh (ork [(0, 2), (1, 2), (2, 2), (3, 1), (4, 2), (5, 1), (6, 0), (7, 2), (8, 2), (9, 2), (10, 2), (11, 2)] .nil) (fun i => !(Nat.beq i 6)) mixed (by kernel_rfl) ?_)))
      refine dV rfl (vM rfl) (dV rfl (vN rfl) (dV rfl (vF rfl fa69_0 rfl) (dr_v rfl (vL rfl ld26) ?_)))
      refine dV rfl (vF rfl fa71_2 rfl) (dr_v rfl (vL rfl ld3) ?_)
      have hal := alloc_c I h b
      unfold memSH at hal
      simp only [List.cons_append, List.nil_append] at hal ⊢
      refine dr_eff rfl (st_cl rfl rfl en18 rfl (hal) ?_)
      rintro v' h' ⟨μ2, rfl, I2, rfl⟩
      simp only [List.cons_append, List.nil_append]
      refine dr_nx ?_
      refine dV rfl (vM rfl) (dV rfl (v_extract rfl rfl) (dV rfl (v_extract rfl rfl) (dV rfl (vA rfl) (dV rfl (vA rfl) (dr_nil (nK [0, 3, 4, 7, 8] rfl (nT (cS (cS (cR (sV (vM rfl) (sV (v_eql rfl rfl) (sN (nK [0, 3, 4, 7, 8, 90] rfl (nT (cC rfl (fun he => ?_) (fun he => ?_)))))))))))))))))
      · skip
        have he' : (m.alloc b).2.1 = 0 := by simpa using he
        refine cd_row (v := rv) (n := r.length) (l := ints r) (by omega) (by repeat (first | exact Sel.here | apply Sel.there)) fun b3 cp3 j3 hrv3 ho => ?_
        have hlen : i < (ints r ++ j3).length := by rw [List.length_append, ints_length]; omega
        refine cd_drawh (ork [(0, 2), (1, 2), (2, 2), (3, 1), (4, 2), (5, 1), (6, 2), (7, 2), (8, 0)] .nil) (fun i => !(Nat.beq i 8)) mixed (by kernel_rfl) ?_
        refine dV rfl (vM rfl) (dV rfl (vN rfl) (dV rfl (vF rfl fa69_1 rfl) (dr_v rfl (vL rfl ld27) ?_)))
        refine dV rfl (vF rfl fa71_1 rfl) (dr_v rfl (vL rfl ld3) ?_)
        refine dV rfl (vM rfl) (dV rfl (v_idx i (congrArg some hrv3) rfl sl27 rfl hi) (dr_eff rfl (st_sto rfl rfl sz3 (dr_nx ?_))))
        refine dr_nil (nK [4, 8] rfl (nT (cS (cR (sV (vM rfl) (sV (vA rfl) (sN (nK [4] rfl (nT (cT ?_))))))))))
        rw [show (ints r ++ j3).set i (#[Value.int IntKind.i64 (m.alloc b).1, Value.int IntKind.i64 (m.alloc b).2.1][0]) = _ from set_ints hi]
        refine xt_shut (E := 3) (l' := ints (r.set i (m.alloc b).1)) ho (by simp [ints]) (by repeat (first | exact Sel.here | apply Sel.there)) ?_
        have hna : (newAt m r ⟨k, (i : Int), b, c⟩).2.2 = (r).set i ((m).alloc b).1 := by unfold newAt; dsimp only; rw [if_pos he']; rfl
        refine xt_rt rfl ⟨L, μ2, rv, rfl, I2, (show L.mb = L.mb from rfl), rfl⟩ ?_
        unfold playSH memSH plR
        rw [hna, List.length_set]
        simp only [List.cons_append, List.nil_append]
        exact (by repeat (first | exact Sub.refl _ | exact Sub.nil _ | refine Sub.sel (by repeat (first | exact Sel.here | apply Sel.there)) ?_ | apply Sub.cons))
      · skip
        have he' : ¬ (m.alloc b).2.1 = 0 := by simpa using he
        refine cK (xT (cS (cR (sV (vM rfl) (sV (vA rfl) (sN (nK [4] rfl (nT (cT ?_)))))))))
        have hna : (newAt m r ⟨k, (i : Int), b, c⟩).2.2 = r := by unfold newAt; dsimp only; rw [if_neg he']
        refine xt_rt rfl ⟨L, μ2, rv, rfl, I2, (show L.mb = L.mb from rfl), rfl⟩ ?_
        unfold playSH memSH plR
        rw [hna]
        simp only [List.cons_append, List.nil_append]
        exact (by repeat (first | exact Sub.refl _ | exact Sub.nil _ | refine Sub.sel (by repeat (first | exact Sel.here | apply Sel.there)) ?_ | apply Sub.cons))
end
end Go.Proofs.YtmhmpjgkkpbnnaaGreat
