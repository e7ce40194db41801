/-
  A yard that is owned: one processor looked at, its queues. What bounds a yard. No condition.
  Package wait: put, leave. Conditions: what is owned, bounds.
  Package wait: leave. Conditions: what is owned, bounds.
  What leave, end, answer keep: bounds, how many wait. No condition.
  Package wait: end, answer. Conditions: what is owned, bounds.
  Package wait: enter, ask, out, spawn, fail. Conditions: what is owned, bounds.
  Package wait: ask. Conditions: what is owned, bounds.
  Package wait: take. Conditions: what is owned, bounds, that there is a queue.
  Package wait: deeds, move. Conditions: what is owned, what is read of the jobs, bounds.
-/
import Derived.Test.YtboepbencndobaaGreatM8
set_option linter.unusedVariables false
set_option linter.unusedSimpArgs false
namespace Go.Wt
open Go Go.Ck Go.Proofs Go.Proofs.YtboepbencndobaaGreat Fx
/-! ## Bounds -/
structure PB (n B : Nat) (p : Proc) : Prop where
  lines : p.lines.length ≤ B
  puts : p.puts.length ≤ B
  holds : p.holds.length ≤ B
  did : p.did.length ≤ B
  asks : ∀ l ∈ p.lines, l.asks.length ≤ B
  made : 0 ≤ p.made ∧ p.made ≤ B
  hs : ∀ h ∈ p.holds, 0 ≤ h.1 ∧ h.1 < n
  ks : ∀ l ∈ p.lines, 0 ≤ l.key.1 ∧ l.key.1 < n
structure YBd (n B : Nat) (y : Yard) : Prop where
  len : y.procs.length = n
  pb : ∀ i, i < n → PB n B (y.pr i)
theorem PB.le {n B B' : Nat} {p : Proc} (h : PB n B p) (hb : B ≤ B') : PB n B' p := ⟨by have := h.lines; omega, by have := h.puts; omega, by have := h.holds; omega, by have := h.did; omega, fun l hl => by have := h.asks l hl; omega, by have := h.made; omega, h.hs, h.ks⟩
theorem YBd.le {n B B' : Nat} {y : Yard} (h : YBd n B y) (hb : B ≤ B') : YBd n B' y := ⟨h.len, fun i hi => (h.pb i hi).le hb⟩
theorem put_len (y : Yard) (i : Nat) (p : Proc) : (y.put i p).procs.length = y.procs.length := by simp [Yard.put]
theorem put_pr {y : Yard} {i : Nat} (hi : i < y.procs.length) (p : Proc) : (y.put i p).pr = upd y.pr i p := by
  funext k
  unfold Yard.pr Yard.put upd
  simp only [List.getD_eq_getElem?_getD, List.getElem?_set]
  by_cases hk : k = i
  · subst hk; simp [hi]
  · rw [if_neg hk, if_neg (fun h => hk h.symm)]
theorem put_same {y : Yard} {i : Nat} (hi : i < y.procs.length) (p : Proc) : (y.put i p).pr i = p := by rw [put_pr hi, upd_same]
theorem put_ne {y : Yard} {i k : Nat} (p : Proc) (hk : k ≠ i) : (y.put i p).pr k = y.pr k := by
  unfold Yard.pr Yard.put
  simp only [List.getD_eq_getElem?_getD, List.getElem?_set]
  rw [if_neg (fun h => hk h.symm)]
theorem YBd.put {n B : Nat} {y : Yard} (h : YBd n B y) {i : Nat} {p : Proc} (hp : PB n B p) : YBd n B (y.put i p) := ⟨by rw [put_len, h.len], fun k hk => by
  by_cases hki : k = i
  · subst hki; rw [put_same (by rw [h.len]; exact hk)]; exact hp
  · rw [put_ne _ hki]; exact h.pb k hk⟩

/-! ## Lists of resources -/
theorem erase_perm {L : SH} {j : Nat} {r : Res} (h : L[j]? = some r) : L.Perm (r :: L.eraseIdx j) := by
  induction L generalizing j with
  | nil => simp at h
  | cons a t ih =>
    cases j with
    | zero => simp at h; subst h; exact .refl _
    | succ j => exact ((ih (by simpa using h)).cons a).trans (.swap _ _ _)
theorem set_perm {L : SH} {j : Nat} {r : Res} (h : j < L.length) : (L.set j r).Perm (r :: L.eraseIdx j) := by
  have h1 : (L.set j r)[j]? = some r := by rw [List.getElem?_set, if_pos rfl, if_pos h]
  have h2 := erase_perm h1
  have h3 : (L.set j r).eraseIdx j = L.eraseIdx j := by
    clear h1 h2
    induction L generalizing j with
    | nil => rfl
    | cons a t ih =>
      cases j with
      | zero => rfl
      | succ j => simp only [List.set_cons_succ, List.eraseIdx_cons_succ]; rw [ih (by simpa using h)]
  rwa [h3] at h2
theorem pv_lfoc {L : SH} {j : Nat} {r : Res} (h : L[j]? = some r) : ∀ t, Vw ([Res.star L] ++ t) ([r, Res.star (L.eraseIdx j)] ++ t) := fun t w hh => by
  have h1 : Holds w (L ++ t) := holds_star1.1 hh
  have h2 : Holds w ((r :: L.eraseIdx j) ++ t) := h1.perm ((erase_perm h).append_right t)
  have h3 : Holds w (L.eraseIdx j ++ (r :: t)) := h2.perm (by exact List.perm_middle.symm)
  have h4 : Holds w (Res.star (L.eraseIdx j) :: r :: t) := holds_star1.2 h3
  exact h4.perm (.swap _ _ _)
theorem pv_lunf {L : SH} {j : Nat} {r : Res} (h : j < L.length) : ∀ t, Vw ([r, Res.star (L.eraseIdx j)] ++ t) ([Res.star (L.set j r)] ++ t) := fun t w hh => by
  have h1 : Holds w (Res.star (L.eraseIdx j) :: r :: t) := hh.perm (.swap _ _ _)
  have h2 : Holds w (L.eraseIdx j ++ (r :: t)) := holds_star1.1 h1
  have h3 : Holds w ((r :: L.eraseIdx j) ++ t) := h2.perm (by exact List.perm_middle)
  have h4 : Holds w (L.set j r ++ t) := h3.perm ((set_perm h).symm.append_right t)
  exact holds_star1.2 h4

/-! ## One processor looked at -/
theorem pv_focus {pv : Value} {n i : Nat} {H : Nat → PH} {f : Nat → Proc} (hi : i < n) : ∀ t, Vw (YO pv n H f ++ t) ([FP pv n i H f (hpC (H i) (f i)), VR (H i).lv 120 5 (lrows (H i).av (f i).lines), VR (H i).pv 79 2 ((f i).puts.map kC), VR (H i).hv 161 4 ((f i).holds.map holdC), VR (H i).dv 81 5 ((f i).did.map dC), Res.star (arows (H i).av (f i).lines), pureR ((H i).av.length = (f i).lines.length), FX n i H f] ++ t) := fun _ => vw_focus hi
theorem pv_unfocus {pv : Value} {n i : Nat} {H : Nat → PH} {y : Yard} {G : PH} {p : Proc} (hn : y.procs.length = n) (hi : i < n) : ∀ t, Vw ([FP pv n i H y.pr (hpC G p), VR G.lv 120 5 (lrows G.av p.lines), VR G.pv 79 2 (p.puts.map kC), VR G.hv 161 4 (p.holds.map holdC), VR G.dv 81 5 (p.did.map dC), Res.star (arows G.av p.lines), pureR (G.av.length = p.lines.length), FX n i H y.pr] ++ t) (YO pv n (upd H i G) (y.put i p).pr ++ t) := fun t => by
  rw [put_pr (by omega)]; exact vw_unfocus hi
theorem lrows_setl {avs : List Value} {ls : List Line} {j : Nat} {a : Value} {l : Line} (hj : j < ls.length) (ha : avs.length = ls.length) : (lrows avs ls).set j (lC a l) = lrows (avs.set j a) (ls.set j l) := by
  unfold lrows
  apply List.ext_getElem?
  intro k
  rw [List.getElem?_set, List.length_zipWith, List.getElem?_zipWith, List.getElem?_zipWith, List.getElem?_set, List.getElem?_set]
  by_cases hk : j = k
  · subst hk
    rw [if_pos rfl, if_pos rfl, if_pos rfl, if_pos (by omega), if_pos (by omega), if_pos (by omega)]
  · rw [if_neg hk, if_neg hk, if_neg hk]
theorem set_self {α : Type} {l : List α} {j : Nat} {a : α} (h : l[j]? = some a) : l.set j a = l := by
  apply List.ext_getElem?
  intro k
  rw [List.getElem?_set]
  by_cases hk : j = k
  · subst hk; rw [if_pos rfl, if_pos (List.getElem?_eq_some_iff.1 h).1, h]
  · rw [if_neg hk]
theorem arows_setl {avs : List Value} {ls : List Line} {j : Nat} {a : Value} {l : Line} (hj : j < ls.length) (ha : avs.length = ls.length) : (arows avs ls).set j (VR a 117 2 (l.asks.map aC)) = arows (avs.set j a) (ls.set j l) := by
  unfold arows
  apply List.ext_getElem?
  intro k
  rw [List.getElem?_set, List.length_zipWith, List.getElem?_zipWith, List.getElem?_zipWith, List.getElem?_set, List.getElem?_set]
  by_cases hk : j = k
  · subst hk
    rw [if_pos rfl, if_pos rfl, if_pos rfl, if_pos (by omega), if_pos (by omega), if_pos (by omega)]
  · rw [if_neg hk, if_neg hk, if_neg hk]
theorem arows_at {avs : List Value} {ls : List Line} {j : Nat} {a : Value} {l : Line} (ha : avs[j]? = some a) (hl : ls[j]? = some l) : (arows avs ls)[j]? = some (VR a 117 2 (l.asks.map aC)) := by simp [arows, List.getElem?_zipWith, ha, hl]
theorem lrows_at {avs : List Value} {ls : List Line} {j : Nat} {a : Value} {l : Line} (ha : avs[j]? = some a) (hl : ls[j]? = some l) : (lrows avs ls)[j]? = some (lC a l) := by simp [lrows, List.getElem?_zipWith, ha, hl]
theorem arows_same {avs : List Value} {ls : List Line} {j : Nat} {l l' : Line} (hl : ls[j]? = some l) (he : l'.asks = l.asks) : arows avs (ls.set j l') = arows avs ls := by
  unfold arows
  apply List.ext_getElem?
  intro k
  rw [List.getElem?_zipWith, List.getElem?_zipWith, List.getElem?_set]
  by_cases hk : j = k
  · subst hk
    rw [if_pos rfl, if_pos (List.getElem?_eq_some_iff.1 hl).1, hl]
    cases avs[j]? <;> simp [he]
  · rw [if_neg hk]
section
variable {c : Cx} {ops : Array Oper} {K : Go.Act → World → Prop} {rest : List Oper} {e : Env} {h h' : SH}
theorem st_fp {T : TypeId} {x z : Operand} {ty : TypeId} {pos : String} {after : Array Edge} {pb po pc n i k : Nat} {H : Nat → PH} {f : Nat → Proc} {u : Value} {cells cells' : List Value}
    (hx : e.ev? x = some (.pointer (some ⟨pb, po + i * 9 + k, none⟩))) (hz : e.ev? z = some u) (hT : Sz c.P T 1) (hv : u.oneCell' = true) (hi : i < n) (hk : k < 9) (hl : cells.set k u = cells') (hs : Sel h (FP (.slice (some ⟨pb, po, none⟩) n pc) n i H f cells) h')
    (hn : St c ops K rest e (FP (.slice (some ⟨pb, po, none⟩) n pc) n i H f cells' :: h')) :
    St c ops K (⟨none, .store T x z, ty, pos, after, none⟩ :: rest) e h :=
  st_vr (sz := 9) (m := i) (k := k) hx hz hT hv (foc_get hi) hk (by rw [hl, foc_set]) hs hn
end
end Go.Wt
namespace Go.Wt
open Go Go.Ck Go.Proofs Go.Proofs.YtboepbencndobaaGreat Fx
attribute [local irreducible] St Cd Xt Nx DrL LsW
section
variable {S : Res}
theorem lrows_snoc {avs : List Value} {ls : List Line} {v : Value} {l : Line} (h : avs.length = ls.length) : lrows avs ls ++ [lC v l] = lrows (avs ++ [v]) (ls ++ [l]) := by unfold lrows; rw [List.zipWith_append h]; rfl
theorem map_snoc {α β : Type} (f : α → β) (l : List α) (x : α) : l.map f ++ [f x] = (l ++ [x]).map f := by simp
set_option maxHeartbeats 1000000 in
set_option maxRecDepth 100000 in
theorem put_ct {b pb po pc n B i j : Nat} {jv asv : Value} {H : Nat → PH} {y : Yard} (hy : YBd n B y) (hB : B ≤ 1000000) (hi : i < n) (hj : j < n) (closed : Bool) (asks : List Ask) :
    Ct Tryz.prog 189 #[yv b, .int .i64 i, .int .i64 j, .bool closed, asv] (VR asv 117 2 (asks.map aC) :: pt b (cl [jv, .slice (some ⟨pb, po, none⟩) n pc] 27) :: YO (.slice (some ⟨pb, po, none⟩) n pc) n H y.pr)
      fun u h' => u = .agg (kC ((i : Int), (y.pr i).made)).toArray ∧ ∃ H', h' = pt b (cl [jv, .slice (some ⟨pb, po, none⟩) n pc] 27) :: YO (.slice (some ⟨pb, po, none⟩) n pc) n H' (y.lay i j closed asks).pr := by
  have hlen := hy.len
  unfold yv
  refine ct_of (n := 65) Tryz.func189 rfl rfl (len rfl) fun hr w0 => ?_
  simp only [List.cons_append]
  refine cd_rowf (v := asv) (by repeat (first | exact Sel.here | apply Sel.there)) fun aa ac hav _ _ => ?_
  rw [List.length_map] at hav
  subst hav
  refine cS (cR (st_bx rfl rfl fun b5 => ?_))
  refine st_alc al79 fun b10 => ?_
  refine sN (nK [1, 2, 3, 4, 5, 10] rfl (nT (cS (cd_drawh (ork [(0, 2), (1, 1), (2, 2), (3, 2), (4, 1), (5, 2), (6, 2), (7, 2), (8, 1), (9, 2), (10, 2), (11, 1), (12, 2), (13, 2), (14, 2), (15, 2)] .nil) (fun _ => true) mixed (by kernel_rfl) ?_))))
  refine dV rfl (vF rfl fa179_0 rfl) (dr_v rfl (v_ldy rfl ld177) ?_)
  refine dV rfl (vN rfl) (dV rfl (vF rfl fa27_1 rfl) (dr_v rfl (v_ldy rfl ld25) ?_))
  refine dV rfl (vM rfl) (dV rfl (v_indexAddr (k := i) rfl rfl sl25 rfl hi rfl) (dV rfl (vF rfl fa179_0 rfl) (dr_v rfl (v_ldy rfl ld177) ?_)))
  refine dV rfl (vN rfl) (dV rfl (vF rfl fa27_1 rfl) (dr_v rfl (v_ldy rfl ld25) ?_))
  refine dV rfl (vM rfl) (dV rfl (v_indexAddr (k := j) rfl rfl sl25 rfl hj rfl) (dV rfl (vA rfl) (dV rfl (vA rfl) (dr_nil (nK [1, 3, 4, 10, 11, 12] rfl (nT (cS ?_)))))))
  obtain ⟨_, _, _, _, _, ⟨hm1, hm2⟩, _, _⟩ := hy.pb i hi
  refine cd_pv (pv_focus hi) ?_
  generalize hG : H i = G
  generalize hp : y.pr i = p at hm1 hm2 ⊢
  refine cR (sV (vM rfl) (sV (vM rfl) (sV (vN rfl) (sV (vF rfl fa77_7 rfl) (sV (v_ldy rfl ld3) ?_)))))
  refine sV (v_build (cells := kC ((i : Int), p.made)) rfl (fun _ => by kernel_rfl)) ?_
  refine st_alc al79 fun b13 => ?_
  refine st_stoW rfl rfl sz79 rfl rfl ?_
  refine sN (nK [3, 4, 10, 11, 12, 13] rfl (nT (cS (cR (sV (vM rfl) (sV (vN rfl) (sV (vF rfl fa77_7 rfl) (sV (v_ldy rfl ld3) ?_))))))))
  refine sV (v_add rfl rfl (by unfold I64 at *; omega)) (sV (vN rfl) (sV (vF rfl fa77_7 rfl) (st_fp (k := 7) (cells' := hpC G { p with made := p.made + 1 }) rfl rfl sz3 rfl hi (by decide) rfl (by repeat (first | exact Sel.here | apply Sel.there)) ?_)))
  refine sN (nK [3, 4, 10, 12, 13] rfl (nT (cS (cd_pv (pv_unfocus (G := G) (p := { p with made := p.made + 1 }) hlen hi) ?_))))
  have hy1 : YBd n (B + 1) (y.put i { p with made := p.made + 1 }) := (hy.le (Nat.le_succ B)).put (by
    have := hy.pb i hi
    rw [hp] at this
    exact ⟨by have := this.lines; simp; omega, by have := this.puts; simp; omega, by have := this.holds; simp; omega, by have := this.did; simp; omega, fun l hl => by have := this.asks l hl; omega, by simp; omega, this.hs, this.ks⟩)
  have hlen1 := hy1.len
  have hlay : y.lay i j closed asks = (y.put i { p with made := p.made + 1 }).put j { (y.put i { p with made := p.made + 1 }).pr j with lines := ((y.put i { p with made := p.made + 1 }).pr j).lines ++ [⟨((i : Int), p.made), asks, closed, false⟩], puts := ((y.put i { p with made := p.made + 1 }).pr j).puts ++ [((i : Int), p.made)] } := by rw [← hp]; rfl
  rw [hlay]
  generalize y.put i { p with made := p.made + 1 } = y1 at hy1 hlen1 ⊢
  refine cd_pv (pv_focus hj) ?_
  obtain ⟨q1, q2, _, _, _, _, _, _⟩ := hy1.pb j hj
  generalize upd H i G = H1
  generalize hG2 : H1 j = G2
  generalize hp2 : y1.pr j = q at q1 q2 ⊢
  refine cd_ok (r := pureR (G2.av.length = q.lines.length)) (by repeat (first | exact Sel.here | apply Sel.there)) fun hpu => ?_
  have hal := pureR_ok hpu
  refine cd_drawh (ork [(0, 2), (1, 2), (2, 2), (3, 2), (4, 1), (5, 1), (6, 2), (7, 2), (8, 2), (9, 0), (10, 0), (11, 2), (12, 2), (13, 0)] .nil) (fun i => !(Nat.beq i 10 || Nat.beq i 13)) mixed (by kernel_rfl) ?_
  refine dV rfl (vM rfl) (dV rfl (vM rfl) (dV rfl (vN rfl) (dV rfl (vF rfl fa77_0 rfl) (dr_v rfl (v_ldy rfl ld73) ?_))))
  refine dr_v rfl (v_ldn rfl ld79 rfl rds_pt) ?_
  refine dV rfl (vM rfl) (dV rfl (vM rfl) (dV rfl (v_build (cells := lC (.slice aa asks.length ac) ⟨((i : Int), p.made), asks, closed, false⟩) rfl (fun _ => by kernel_rfl)) ?_))
  refine dr_eff rfl (st_buildSlice (cells := lC (.slice aa asks.length ac) ⟨((i : Int), p.made), asks, closed, false⟩) rfl Tryz.underlying73 inf120 rfl rfl (by kernel_rfl) (ltn rfl) fun b50 => dr_nx ?_)
  refine dr_eff rfl (st_app (v := G2.lv) [lC (.slice aa asks.length ac) ⟨((i : Int), p.made), asks, closed, false⟩] rfl rfl Tryz.underlying73 inf120 rfl (by decide) (by repeat (first | exact Sel.here | apply Sel.there)) (by simp [lC]) rfl (fun j u2 hu2 => at_here (rd_cl (by simpa using hu2))) (by simp [lC, Value.oneCell']) (by simp [lrows]; omega) (by simp [lrows]; omega) (ltn rfl) fun v' hv' _ => dr_nx ?_)
  refine dV rfl (vN rfl) (dV rfl (vF rfl fa77_0 rfl) (dr_eff rfl (st_fp (k := 0) (cells' := hpC { G2 with lv := v' } q) rfl rfl sz73 hv' hj (by decide) rfl (by repeat (first | exact Sel.here | apply Sel.there)) (dr_nx ?_))))
  refine dr_nil (nK [10, 12, 13] rfl (nT (cS (cd_drawh (ork [(0, 2), (1, 2), (2, 2), (3, 2), (4, 1), (5, 1), (6, 0), (7, 0), (8, 2), (9, 2), (10, 0)] .nil) (fun i => !(Nat.beq i 7 || Nat.beq i 10)) mixed (by kernel_rfl) ?_))))
  refine dV rfl (vM rfl) (dV rfl (vM rfl) (dV rfl (vN rfl) (dV rfl (vF rfl fa77_1 rfl) (dr_v rfl (v_ldy rfl ld74) ?_))))
  refine dr_v rfl (v_ldn rfl ld79 rfl rds_pt) ?_
  refine dr_eff rfl (st_buildSlice (cells := kC ((i : Int), p.made)) rfl Tryz.underlying74 inf79 rfl rfl (by kernel_rfl) (ltn rfl) fun b60 => dr_nx ?_)
  refine dr_eff rfl (st_app (v := G2.pv) [kC ((i : Int), p.made)] rfl rfl Tryz.underlying74 inf79 rfl (by decide) (by repeat (first | exact Sel.here | apply Sel.there)) (by simp [kC]) rfl (fun j u2 hu2 => at_here (rd_cl (by simpa using hu2))) (by simp [kC, Value.oneCell']) (by simp; omega) (by simp; omega) (ltn rfl) fun v2 hv2 _ => dr_nx ?_)
  refine dV rfl (vN rfl) (dV rfl (vF rfl fa77_1 rfl) (dr_eff rfl (st_fp (k := 1) (cells' := hpC { G2 with lv := v', pv := v2 } q) rfl rfl sz74 hv2 hj (by decide) rfl (by repeat (first | exact Sel.here | apply Sel.there)) (dr_nx ?_))))
  refine dr_nil (nK [10, 13] rfl (nT (cS (cR (sV (v_ldn rfl ld79 rfl rds_pt) ?_)))))
  refine st_stoW rfl rfl sz79 rfl rfl ?_
  refine sN (nK [10] rfl (nT (cT ?_)))
  rw [lrows_snoc hal, map_snoc]
  refine xt_pv (pv_snoc (L := arows G2.av q.lines) (r := VR (.slice aa asks.length ac) 117 2 (asks.map aC))) ?_
  have e1 : arows G2.av q.lines ++ [VR (.slice aa asks.length ac) 117 2 (asks.map aC)] = arows (G2.av ++ [.slice aa asks.length ac]) (q.lines ++ [⟨((i : Int), p.made), asks, closed, false⟩]) := (arows_snoc (l := ⟨((i : Int), p.made), asks, closed, false⟩) hal).symm
  rw [e1]
  refine xt_pv (pv_add (triv_pure (φ := (G2.av ++ [(.slice aa asks.length ac : Value)]).length = (q.lines ++ [(⟨((i : Int), p.made), asks, closed, false⟩ : Line)]).length) (by simp [hal]))) ?_
  refine xt_pv (pv_unfocus (G := ⟨v', v2, G2.hv, G2.dv, G2.av ++ [.slice aa asks.length ac]⟩) (p := { q with lines := q.lines ++ [⟨((i : Int), p.made), asks, closed, false⟩], puts := q.puts ++ [((i : Int), p.made)] }) hlen1 hj) ?_
  exact xt_retV (.cellN rfl ld79 rfl (by repeat (first | exact Sel.here | apply Sel.there)) .nil) ⟨rfl, _, rfl⟩ (by repeat (first | exact Sub.refl _ | exact Sub.nil _ | refine Sub.sel (by repeat (first | exact Sel.here | apply Sel.there)) ?_ | apply Sub.cons))
theorem reads_YO {P : Program} {k : FuncId} {args : Array Value} {v : Value} {x : SH} {pv : Value} {n : Nat} {H : Nat → PH} {f : Nat → Proc} (h : (∃ g, HoldsF g (YO pv n H f)) → Reads P k args (x ++ [Res.star (YO pv n H f)]) v) : Reads P k args (x ++ YO pv n H f) v := fun hr w hh => by
  have h0 : Holds w (YO pv n H f ++ (x ++ hr)) := hh.perm (by rw [List.append_assoc]; exact (List.perm_append_comm_assoc (YO pv n H f) x hr).symm)
  have hok : ∃ g, HoldsF g (YO pv n H f) := ⟨hp w, (HoldsF.append.1 h0).1⟩
  have h1 : Holds w ((x ++ [Res.star (YO pv n H f)]) ++ hr) := by
    have h2 : Holds w (Res.star (YO pv n H f) :: (x ++ hr)) := holds_star1.2 h0
    exact h2.perm (by rw [List.append_assoc]; exact List.perm_middle.symm)
  refine (h hok hr w h1).mono fun _ _ ⟨u, h', he, ⟨hu, hh'⟩, hH, hS⟩ => ⟨u, _, he, ⟨hu, rfl⟩, ?_, hS⟩
  subst hh'
  have h3 : Holds _ (Res.star (YO pv n H f) :: (x ++ hr)) := hH.perm (by rw [List.append_assoc]; exact List.perm_middle)
  have h4 : Holds _ (YO pv n H f ++ (x ++ hr)) := holds_star1.1 h3
  exact h4.perm (by rw [List.append_assoc]; exact List.perm_append_comm_assoc (YO pv n H f) x hr)
theorem YO_at {pb po pc n i : Nat} {H : Nat → PH} {f : Nat → Proc} (hi : i < n) (hok : ∃ g, HoldsF g (YO (.slice (some ⟨pb, po, none⟩) n pc) n H f)) :
    Rds (Res.star (YO (.slice (some ⟨pb, po, none⟩) n pc) n H f)) pb (po + i * 9) (hpC (H i) (f i)) ∧ Row (Res.star (YO (.slice (some ⟨pb, po, none⟩) n pc) n H f)) 5 (lineR (Res.star (YO (.slice (some ⟨pb, po, none⟩) n pc) n H f))) (H i).lv (f i).lines ∧ Row (Res.star (YO (.slice (some ⟨pb, po, none⟩) n pc) n H f)) 4 (eqC holdC) (H i).hv (f i).holds := by
  obtain ⟨g, hg⟩ := hok
  have h2 : HoldsF g ((List.range n).map fun k => PR (H k) (f k)) := HoldsF.get hg (r := RS n fun k => PR (H k) (f k)) (by simp [YO])
  have hpr := prl_procR (S := Res.star (YO (.slice (some ⟨pb, po, none⟩) n pc) n H f)) (H := H i) (p := f i) ⟨g, HoldsF.get h2 (List.mem_map.2 ⟨i, by simpa using hi, rfl⟩)⟩ fun a u hu => rd_mem (r := RS n fun k => PR (H k) (f k)) (by simp [YO]) a u (RS_in (R := fun k => PR (H k) (f k)) hi a u hu)
  obtain ⟨lv, pv, hv, dv, he, h3, h4, h5, h6⟩ := hpr
  unfold hpC pC at he
  simp only [List.cons.injEq, and_true] at he
  obtain ⟨rfl, rfl, _, _, _, rfl, _, _, rfl⟩ := he
  refine ⟨fun k hk => rd_mem (r := VR (.slice (some ⟨pb, po, none⟩) n pc) 77 9 ((List.range n).map fun k => hpC (H k) (f k))) (by simp [YO]) _ _ (rds_vr (by simp [List.getElem?_map, List.getElem?_range, hi]) k hk), h3, h5⟩
set_option maxRecDepth 100000 in
theorem lineO_ct {b pb po pc n B i : Nat} {jv : Value} {H : Nat → PH} {y : Yard} (hy : YBd n B y) (hB : B ≤ 1000000) (hi : i < n) (k : Key) :
    Reads Tryz.prog 188 #[yv b, .int .i64 i, .agg (kC k).toArray] (pt b (cl [jv, .slice (some ⟨pb, po, none⟩) n pc] 27) :: YO (.slice (some ⟨pb, po, none⟩) n pc) n H y.pr) (lptr (H i).lv ((y.pr i).line k)) := by
  refine reads_YO (x := [pt b (cl [jv, .slice (some ⟨pb, po, none⟩) n pc] 27)]) fun hok => ?_
  obtain ⟨h1, h2, h3⟩ := YO_at hi hok
  exact line_ct hi h1 h2 (by have := (hy.pb i hi).lines; omega) k
set_option maxRecDepth 100000 in
theorem holdO_ct {b pb po pc n B i : Nat} {jv : Value} {H : Nat → PH} {y : Yard} (hy : YBd n B y) (hB : B ≤ 1000000) (hi : i < n) (of : Int) :
    Reads Tryz.prog 125 #[yv b, .int .i64 i, .int .i64 of] (pt b (cl [jv, .slice (some ⟨pb, po, none⟩) n pc] 27) :: YO (.slice (some ⟨pb, po, none⟩) n pc) n H y.pr) (holdV ((y.pr i).hold of)) := by
  refine reads_YO (x := [pt b (cl [jv, .slice (some ⟨pb, po, none⟩) n pc] 27)]) fun hok => ?_
  obtain ⟨h1, h2, h3⟩ := YO_at hi hok
  exact hold_ct hi h1 h3 (by have := (hy.pb i hi).holds; omega) of
end
end Go.Wt
namespace Go.Wt
open Go Go.Ck Go.Proofs Go.Proofs.YtboepbencndobaaGreat Fx
attribute [local irreducible] St Cd Xt Nx DrL LsW
section
theorem PB.holds_le {n B : Nat} {p : Proc} (h : PB n B p) {l : List Hold} (hl : l.length ≤ B) (hm : ∀ x ∈ l, 0 ≤ x.1 ∧ x.1 < n) : PB n B { p with holds := l } := ⟨h.lines, h.puts, hl, h.did, h.asks, h.made, hm, h.ks⟩
theorem put_self {y : Yard} {i : Nat} (hi : i < y.procs.length) : y.put i (y.pr i) = y := by
  apply Yard.ext'
  · rfl
  · exact set_self (by rw [pr_get hi]; exact List.getElem?_eq_getElem hi)
set_option maxHeartbeats 1000000 in
set_option maxRecDepth 100000 in
theorem leave_ct {b pb po pc n B i : Nat} {jv : Value} {H : Nat → PH} {y : Yard} (hy : YBd n B y) (hB : B ≤ 1000000) (hn : n ≤ 1000000) (hi : i < n) :
    Ct Tryz.prog 173 #[yv b, .int .i64 i] (pt b (cl [jv, .slice (some ⟨pb, po, none⟩) n pc] 27) :: YO (.slice (some ⟨pb, po, none⟩) n pc) n H y.pr)
      fun u h' => u = .tuple #[] ∧ ∃ H', h' = pt b (cl [jv, .slice (some ⟨pb, po, none⟩) n pc] 27) :: YO (.slice (some ⟨pb, po, none⟩) n pc) n H' (y.leave i).pr := by
  have hlen := hy.len
  have hpi := hy.pb i hi
  unfold yv
  refine ct_of (n := 55) Tryz.func173 rfl rfl (len rfl) fun hr w0 => ?_
  simp only [List.cons_append]
  refine cS (cR (st_bx rfl rfl fun b2 => ?_))
  refine sN (nK [1, 2] rfl (nT (cS (cR (sV (vF rfl fa179_0 rfl) (sV (v_ldy rfl ld177) ?_))))))
  refine sV (vN rfl) (sV (vF rfl fa27_1 rfl) (sV (v_ldy rfl ld25) ?_))
  refine sV (vM rfl) (sV (v_indexAddr (k := i) rfl rfl sl25 rfl hi rfl) (sV (vA rfl) (sN (nK [2, 4] rfl (nT (cS (cd_pv (pv_focus hi) ?_)))))))
  have hleave : y.leave i = match (y.pr i).holds.getLast? with
    | none => y
    | some h => (y.put i { y.pr i with holds := (y.pr i).holds.dropLast }).close h := rfl
  have hself := put_self (y := y) (i := i) (by omega)
  generalize hG : H i = G
  generalize hp : y.pr i = p at hpi hleave hself ⊢
  obtain ⟨lines, puts, job, at_, waited, holds, waits, made, did⟩ := p
  rcases List.eq_nil_or_concat holds with hh | ⟨ho, ⟨hsp, hky, hown⟩, hh⟩
  · skip
    subst hh
    have hl : y.leave i = y := hleave
    rw [hl]
    refine cd_rowf (v := G.hv) (by repeat (first | exact Sel.here | apply Sel.there)) fun ha hc hve _ _ => ?_
    simp only [List.map_nil, List.length_nil] at hve
    refine cR (sV (vM rfl) (sV (vN rfl) (sV (vF rfl fa77_5 rfl) (sV (v_ldy rfl ld75) ?_))))
    refine sV (v_len (congrArg some hve) Tryz.underlying75) (sV (v_sub rfl rfl (by unfold I64 at *; omega)) (sV (vA rfl) (sN (nK [2, 4, 5] rfl (nT (cS (cS (cR (sV (vM rfl) (sV (v_lss rfl rfl) (sN (nK [2, 4, 5, 22] rfl (nT (cd_true rfl ?_))))))))))))))
    refine cT (xR (xt_pv (pv_unfocus (y := y) (G := G) (p := ⟨lines, puts, job, at_, waited, [], waits, made, did⟩) hlen hi) ?_))
    rw [hself]
    exact xt_rt rfl ⟨rfl, _, rfl⟩
  · skip
    rw [List.concat_eq_append] at hh
    subst hh
    have hl : y.leave i = (y.put i ⟨lines, puts, job, at_, waited, ho, waits, made, did⟩).close (hsp, hky, hown) := by
      rw [hleave]; simp
    rw [hl]
    have hhl : ho.length + 1 ≤ B := by have := hpi.holds; simpa using this
    have hy1 : YBd n B (y.put i ⟨lines, puts, job, at_, waited, ho, waits, made, did⟩) := hy.put (hpi.holds_le (l := ho) (by omega) fun x hx => hpi.hs x (by simp [hx]))
    have hsp1 := hpi.hs (hsp, hky, hown) (by simp)
    simp only at hsp1
    obtain ⟨sp, rfl⟩ := Int.eq_ofNat_of_zero_le hsp1.1
    have hsp2 : sp < n := by omega
    refine cd_row (v := G.hv) (by repeat (first | exact Sel.here | apply Sel.there)) (fun _ h0 => by simp at h0) (fun hb ho2 hc hve hcl _ => ?_)
    simp only [List.length_map, List.length_append, List.length_singleton] at hve hcl
    have hrow : ((ho ++ [((sp : Int), hky, hown)]).map holdC)[ho.length]? = some (holdC ((sp : Int), hky, hown)) := by simp
    obtain ⟨lv, pv, hv, dv, av⟩ := G
    simp only at hve
    subst hve
    refine cR (sV (vM rfl) (sV (vN rfl) (sV (vF rfl fa77_5 rfl) (sV (v_ldy rfl ld75) ?_))))
    refine sV (v_len (congrArg some rfl) Tryz.underlying75) (sV (v_sub rfl rfl (by unfold I64 at *; omega)) (sV (vA rfl) (sN (nK [2, 4, 5] rfl (nT (cS (cS (cR (sV (vM rfl) (sV (v_lss rfl rfl) (sN (nK [2, 4, 5, 22] rfl (nT (cC rfl (fun hx => ?_) (fun hx => ?_)))))))))))))))
    · skip
      exfalso
      have := of_decide_eq_true hx
      omega
    · skip
      refine cK (xT (cS (cR (sV (vM rfl) (sV (vN rfl) (sV (vF rfl fa77_5 rfl) (sV (v_ldy rfl ld75) ?_)))))))
      refine sV (vM rfl) (sV (v_indexAddr (k := ho.length) rfl rfl sl75 (by push_cast; omega) (by omega) rfl) ?_)
      refine sV (v_ldn rfl ld161 rfl (rds_vr hrow)) ?_
      refine st_alc al161 fun b6 => ?_
      refine st_stoW rfl rfl sz161 rfl rfl ?_
      refine sN (nK [2, 4, 5, 6] rfl (nT (cS (cR (sV (vM rfl) (sV (vM rfl) (sV (vN rfl) (sV (vF rfl fa77_5 rfl) (sV (v_ldy rfl ld75) ?_)))))))))
      refine sV (vM rfl) (sV (v_sliceHead (hi := ho.length) rfl rfl sl75 (by push_cast; omega) (by omega)) ?_)
      refine sV (vN rfl) (sV (vF rfl fa77_5 rfl) (st_fp (k := 5) (cells' := pC lv pv (.slice (some ⟨hb, ho2, none⟩) ho.length hc) dv ⟨lines, puts, job, at_, waited, ho, waits, made, did⟩) rfl rfl sz75 rfl hi (by decide) rfl (by repeat (first | exact Sel.here | apply Sel.there)) ?_))
      refine sN (nK [2, 6] rfl (nT (cS ?_)))
      refine cd_pv (k := [VR (.slice (some ⟨hb, ho2, none⟩) (ho.length + 1) hc) 161 4 ((ho ++ [((sp : Int), hky, hown)]).map holdC)]) (k' := [VR (.slice (some ⟨hb, ho2, none⟩) ho.length hc) 161 4 (ho.map holdC)]) (fun t => by
        have h1 := vw_take (E := 161) (sz := 4) (b := hb) (o := ho2) (n := ho.length + 1) (cp := hc) (h := t) (rows := (ho ++ [((sp : Int), hky, hown)]).map holdC) (m := ho.length) (by simp)
        rw [List.map_append, List.take_left' (by simp)] at h1
        rw [List.map_append]
        exact h1) ?_
      refine cd_pv (pv_unfocus (y := y) (G := ⟨lv, pv, .slice (some ⟨hb, ho2, none⟩) ho.length hc, dv, av⟩) (p := ⟨lines, puts, job, at_, waited, ho, waits, made, did⟩) hlen hi) ?_
      generalize y.put i ⟨lines, puts, job, at_, waited, ho, waits, made, did⟩ = y1 at hy1 ⊢
      generalize upd H i ⟨lv, pv, .slice (some ⟨hb, ho2, none⟩) ho.length hc, dv, av⟩ = H1
      refine cR (sV (v_ldn rfl ld179 rfl rds_pt) ?_)
      refine sV (vF rfl fa161_0 rfl) (sV (v_ldy rfl ld3) ?_)
      refine sV (vF rfl fa161_1 rfl) (sV (v_ldn (vs := kC hky) rfl ld79 rfl (rds_sub rds_pt rfl)) ?_)
      refine st_clr rfl rfl en188 rfl (lineO_ct hy1 hB hsp2 hky) ?_
      refine sV (vA rfl) (sN (nK [6, 7] rfl (nT (cS ?_))))
      have hc1 : y1.close ((sp : Int), hky, hown) = if hown = true then y1 else match (y1.pr sp).line hky with
        | none => y1
        | some j => y1.put sp ((y1.pr sp).setl j { (y1.pr sp).lines.getD j Line.none with closed := true }) := rfl
      cases hown
      · skip
        simp only [Bool.false_eq_true, if_false] at hc1
        cases hln : (y1.pr sp).line hky with
        | none =>
          rw [hln] at hc1
          simp only at hc1
          rw [hc1]
          refine cR (sV (vF rfl fa161_2 rfl) (sV (v_ldy rfl ld4) ?_))
          refine sV (v_not rfl) (sV (vM rfl) (st_vg rfl rfl (vM rfl) (st_vg rfl rfl (v_neq_ptr_nil rfl rfl pt202) (sV (v_pick_true rfl rfl) (sN (nK [7, 51] rfl (nT (cd_false rfl ?_))))))))
          refine cK ?_
          exact xt_en rfl ⟨rfl, _, rfl⟩
        | some j =>
          rw [hln] at hc1
          simp only at hc1
          rw [hc1]
          have hjl : j < (y1.pr sp).lines.length := by
            unfold Proc.line at hln
            exact (List.findIdx?_eq_some_iff_getElem.1 hln).1
          have hp1 := hy1.pb sp hsp2
          refine cd_pv (pv_focus hsp2) ?_
          generalize hG1 : H1 sp = G1
          generalize hq : y1.pr sp = q at hjl hp1 ⊢
          obtain ⟨lv1, pv1, hv1, dv1, av1⟩ := G1
          refine cd_ok (r := pureR (av1.length = q.lines.length)) (by repeat (first | exact Sel.here | apply Sel.there)) fun hpu => ?_
          have hal := pureR_ok hpu
          have hlr : (lrows av1 q.lines).length = q.lines.length := by simp [lrows, hal]
          refine cd_row (v := lv1) (by repeat (first | exact Sel.here | apply Sel.there)) (fun _ h0 => by rw [h0] at hlr; simp at hlr; omega) (fun lb lo lc hve _ _ => ?_)
          rw [hlr] at hve
          subst hve
          have hlj : q.lines[j]? = some q.lines[j] := List.getElem?_eq_getElem hjl
          have haj : av1[j]? = some av1[j] := List.getElem?_eq_getElem (by omega)
          have hgd : q.lines.getD j Line.none = q.lines[j] := by rw [List.getD_eq_getElem?_getD, hlj]; rfl
          rw [hgd]
          generalize q.lines[j] = l at *
          refine cR (sV (vF rfl fa161_2 rfl) (sV (v_ldy rfl ld4) ?_))
          refine sV (v_not rfl) (sV (vM rfl) (st_vg rfl rfl (vM rfl) (st_vg rfl rfl (v_neq_ptr_nil rfl rfl pt202) (sV (v_pick_true rfl rfl) (sN (nK [7, 51] rfl (nT (cd_true rfl ?_))))))))
          refine cR (sV (vM rfl) (sV (vN rfl) (sV (vF rfl fa120_2 rfl) (st_vr (sz := 5) (m := j) (k := 3) rfl rfl sz4 rfl (lrows_at haj hlj) (by decide) (show _ = lrows av1 (q.lines.set j { l with closed := true }) from (lrows_setl (l := { l with closed := true }) hjl hal).trans (by rw [set_self haj])) (by repeat (first | exact Sel.here | apply Sel.there)) ?_))))
          refine sN (nK [] rfl (nx_xt ?_))
          rw [← arows_same (avs := av1) (l' := { l with closed := true }) hlj rfl]
          refine xt_pv (pv_add (triv_pure (φ := av1.length = (q.lines.set j { l with closed := true }).length) (by simp [hal]))) ?_
          refine xt_pv (pv_unfocus (y := y1) (G := ⟨.slice (some ⟨lb, lo, none⟩) q.lines.length lc, pv1, hv1, dv1, av1⟩) (p := q.setl j { l with closed := true }) hy1.len hsp2) ?_
          exact xt_en rfl ⟨rfl, _, rfl⟩
      · skip
        simp only [if_true] at hc1
        rw [hc1]
        refine cR (sV (vF rfl fa161_2 rfl) (sV (v_ldy rfl ld4) ?_))
        refine sV (v_not rfl) (sV (vM rfl) (st_sk rfl rfl rfl ?_))
        refine st_sk rfl rfl rfl ?_
        refine sV (vP rfl rfl) (sN (nK [7, 51] rfl (nT (cd_false rfl ?_))))
        refine cK ?_
        exact xt_en rfl ⟨rfl, _, rfl⟩
end
end Go.Wt
namespace Go.Wt
def Yard.W (y : Yard) : Nat := y.procs.countP fun p => decide (0 ≤ p.waits)
theorem W_put {y : Yard} {i : Nat} {p : Proc} (h : p.waits = (y.pr i).waits) : (y.put i p).W = y.W := by
  unfold Yard.W Yard.put
  by_cases hi : i < y.procs.length
  · rw [List.countP_set hi, h, pr_get hi]
    have : (if decide (0 ≤ (y.procs[i]).waits) = true then 1 else 0) ≤ y.procs.countP fun p => decide (0 ≤ p.waits) := by
      split
      · rename_i hq
        exact List.countP_pos_iff.2 ⟨_, List.getElem_mem hi, hq⟩
      · exact Nat.zero_le _
    omega
  · rw [List.set_eq_of_length_le (by omega)]
theorem W_down {y : Yard} {s : Nat} {p : Proc} (hs : s < y.procs.length) (h : 0 ≤ (y.pr s).waits) (hp : p.waits = -1) : (y.put s p).W + 1 = y.W := by
  unfold Yard.W Yard.put
  rw [List.countP_set hs, hp]
  rw [pr_get hs] at h
  have h1 : 0 < y.procs.countP fun p => decide (0 ≤ p.waits) := List.countP_pos_iff.2 ⟨_, List.getElem_mem hs, by simpa using h⟩
  simp only [h, decide_true, if_true] at h1 ⊢
  simp
  omega
theorem leave_len (y : Yard) (i : Nat) : (y.leave i).procs.length = y.procs.length := by
  unfold Yard.leave
  split
  · rfl
  · unfold Yard.close
    split
    · exact put_len ..
    · split
      · exact put_len ..
      · rw [put_len, put_len]
theorem close_cases (y : Yard) (h : Hold) : y.close h = y ∨ ∃ j l, (y.pr h.1.toNat).lines[j]? = some l ∧ y.close h = y.put h.1.toNat ((y.pr h.1.toNat).setl j { l with closed := true }) := by
  unfold Yard.close
  split
  · exact .inl rfl
  · cases hl : (y.pr h.1.toNat).line h.2.1 with
    | none => exact .inl rfl
    | some j =>
      right
      unfold Proc.line at hl
      have hj := (List.findIdx?_eq_some_iff_getElem.1 hl).1
      refine ⟨j, (y.pr h.1.toNat).lines[j], List.getElem?_eq_getElem hj, ?_⟩
      simp only [List.getD_eq_getElem?_getD, List.getElem?_eq_getElem hj, Option.getD_some]
theorem close_pr {y : Yard} {h : Hold} {k : Nat} : ((y.close h).pr k).holds = (y.pr k).holds ∧ ((y.close h).pr k).waits = (y.pr k).waits := by
  rcases close_cases y h with e | ⟨j, l, _, e⟩
  · rw [e]; exact ⟨rfl, rfl⟩
  · rw [e]
    by_cases hk : k = h.1.toNat
    · subst hk
      by_cases hi : h.1.toNat < y.procs.length
      · rw [put_same hi]; exact ⟨rfl, rfl⟩
      · have : y.put h.1.toNat ((y.pr h.1.toNat).setl j { l with closed := true }) = y := by
          apply Yard.ext'
          · rfl
          · exact List.set_eq_of_length_le (by omega)
        rw [this]; exact ⟨rfl, rfl⟩
    · rw [put_ne _ hk]; exact ⟨rfl, rfl⟩
theorem close_W (y : Yard) (h : Hold) : (y.close h).W = y.W := by
  rcases close_cases y h with e | ⟨j, l, _, e⟩
  · rw [e]
  · rw [e]; exact W_put rfl
theorem leave_W (y : Yard) (i : Nat) : (y.leave i).W = y.W := by
  unfold Yard.leave
  split
  · rfl
  · rw [close_W]; exact W_put rfl
theorem leave_holds {y : Yard} {i : Nat} (hi : i < y.procs.length) : ((y.leave i).pr i).holds = (y.pr i).holds.dropLast := by
  unfold Yard.leave
  split
  · rename_i h
    rw [List.getLast?_eq_none_iff] at h
    rw [h]; rfl
  · rw [close_pr.1, put_same hi]
theorem PB.setl {n B : Nat} {p : Proc} (h : PB n B p) {j : Nat} {l l' : Line} (hl : p.lines[j]? = some l) (ha : l'.asks.length ≤ B) (hk : l'.key = l.key) : PB n B (p.setl j l') :=
  ⟨by have := h.lines; simpa [Proc.setl] using this, h.puts, h.holds, h.did, fun x hx => by
    rcases List.mem_or_eq_of_mem_set hx with hx | rfl
    · exact h.asks x hx
    · exact ha, h.made, h.hs, fun x hx => by
    rcases List.mem_or_eq_of_mem_set hx with hx | rfl
    · exact h.ks x hx
    · rw [hk]; exact h.ks l (List.mem_of_getElem? hl)⟩
theorem YBd.close {n B : Nat} {y : Yard} (hy : YBd n B y) {h : Hold} (h1 : h.1.toNat < n) : YBd n B (y.close h) := by
  rcases close_cases y h with e | ⟨j, l, hl, e⟩
  · rw [e]; exact hy
  · rw [e]
    exact hy.put ((hy.pb _ h1).setl hl (by have := (hy.pb _ h1).asks l (List.mem_of_getElem? hl); exact this) rfl)
theorem YBd.leave {n B : Nat} {y : Yard} (hy : YBd n B y) {i : Nat} (hi : i < n) : YBd n B (y.leave i) := by
  unfold Yard.leave
  have hp := hy.pb i hi
  split
  · exact hy
  · rename_i h hh
    have hm : h ∈ (y.pr i).holds := List.mem_of_getLast? hh
    have hs := hp.hs h hm
    exact (hy.put (hp.holds_le (l := (y.pr i).holds.dropLast) (by rw [List.length_dropLast]; have := hp.holds; omega) fun x hx => hp.hs x ((List.dropLast_sublist _).subset hx))).close (by omega)
theorem YBd.leaves {n B : Nat} {i : Nat} (hi : i < n) : ∀ (k : Nat) {y : Yard}, YBd n B y → YBd n B (y.leaves i k)
  | 0, _, hy => hy
  | k + 1, _, hy => YBd.leaves hi k (hy.leave hi)
theorem put_put (y : Yard) (i : Nat) (p q : Proc) : (y.put i p).put i q = y.put i q := by
  apply Yard.ext'
  · rfl
  · show (y.procs.set i p).set i q = y.procs.set i q
    exact List.set_set _
theorem ends_eq (m : Nat) {y : Yard} {i : Nat} (hi : i < y.procs.length) (failed : Bool) : Yard.ends (m + 1) y i failed =
    match ((y.leaves i (y.pr i).holds.length).pr i).lines with
    | [] => (y.leaves i (y.pr i).holds.length).put i { (y.leaves i (y.pr i).holds.length).pr i with job := -1, pc := 0, waited := false }
    | l :: t => if ((y.leaves i (y.pr i).holds.length).pr i).waited = true then
        ((y.leaves i (y.pr i).holds.length).put i { (y.leaves i (y.pr i).holds.length).pr i with job := -1, pc := 0, waited := false, did := ((y.leaves i (y.pr i).holds.length).pr i).did ++ [(l.key, ((y.leaves i (y.pr i).holds.length).pr i).job, false, failed)], lines := { l with broken := l.broken || failed } :: t }).answer m l.key.1.toNat i failed
      else (y.leaves i (y.pr i).holds.length).put i { (y.leaves i (y.pr i).holds.length).pr i with job := -1, pc := 0, waited := false, did := ((y.leaves i (y.pr i).holds.length).pr i).did ++ [(l.key, ((y.leaves i (y.pr i).holds.length).pr i).job, false, failed)], lines := { l with broken := l.broken || failed } :: t } := by
  have hlen : ∀ (k : Nat) (z : Yard), (z.leaves i k).procs.length = z.procs.length := by
    intro k
    induction k with
    | zero => exact fun _ => rfl
    | succ k ih => exact fun z => (ih _).trans (leave_len z i)
  have h1 : i < (y.leaves i (y.pr i).holds.length).procs.length := by rw [hlen]; exact hi
  unfold Yard.ends
  simp only
  generalize y.leaves i (y.pr i).holds.length = z at h1 ⊢
  cases (z.pr i).lines with
  | nil => rfl
  | cons l t =>
    simp only [put_same h1, put_put]
    rfl
mutual
theorem YBd.ends {n : Nat} : ∀ (m B : Nat) {y : Yard} {i : Nat} {failed : Bool}, YBd n B y → i < n → YBd n (B + m) (Yard.ends m y i failed)
  | 0, B, y, i, failed, hy, _ => hy
  | m + 1, B, y, i, failed, hy, hi => by
    rw [ends_eq m (by rw [hy.len]; exact hi)]
    have hz := YBd.leaves hi (y.pr i).holds.length hy
    generalize y.leaves i (y.pr i).holds.length = z at hz ⊢
    have hp := hz.pb i hi
    split
    · exact YBd.le (B := B) (hz.put ⟨hp.lines, hp.puts, hp.holds, hp.did, hp.asks, hp.made, hp.hs, hp.ks⟩) (by omega)
    · rename_i l t hl
      have hlm : l ∈ (z.pr i).lines := by rw [hl]; simp
      have hy2 : YBd n (B + 1) (z.put i { z.pr i with job := -1, pc := 0, waited := false, did := (z.pr i).did ++ [(l.key, (z.pr i).job, false, failed)], lines := { l with broken := l.broken || failed } :: t }) :=
        (hz.le (Nat.le_succ B)).put ⟨by have := hp.lines; rw [hl] at this; simp at this ⊢; omega, by have := hp.puts; simp; omega, by have := hp.holds; simp; omega, by have := hp.did; simp; omega, fun x hx => by
            rcases List.mem_cons.1 hx with rfl | hx
            · have := hp.asks l hlm; simp; omega
            · have := hp.asks x (by rw [hl]; simp [hx]); omega, by have := hp.made; simp; omega, hp.hs, fun x hx => by
            rcases List.mem_cons.1 hx with rfl | hx
            · exact hp.ks l hlm
            · exact hp.ks x (by rw [hl]; simp [hx])⟩
      have hk := hp.ks l hlm
      split
      · exact (YBd.answer m (B + 1) hy2 (by omega)).le (by omega)
      · exact hy2.le (by omega)
theorem YBd.answer {n : Nat} : ∀ (m B : Nat) {y : Yard} {s i : Nat} {failed : Bool}, YBd n B y → s < n → YBd n (B + m) (y.answer m s i failed) := fun m B y s i failed hy hs => by
  unfold Yard.answer
  split
  · have hp := hy.pb s hs
    have h2 : YBd n B (y.put s { y.pr s with waits := -1 }) := hy.put ⟨hp.lines, hp.puts, hp.holds, hp.did, hp.asks, hp.made, hp.hs, hp.ks⟩
    simp only
    split
    · exact YBd.ends m B h2 hs
    · exact h2.le (by omega)
  · exact hy.le (by omega)
end
end Go.Wt
namespace Go.Wt
open Go Go.Ck Go.Proofs Go.Proofs.YtboepbencndobaaGreat Fx
attribute [local irreducible] St Cd Xt Nx DrL LsW
def EndC (m : Nat) : Prop := ∀ {b pb po pc n B i : Nat} {jv : Value} {H : Nat → PH} {y : Yard} (failed : Bool), YBd n B y → B + m ≤ 1000000 → n ≤ 1000000 → i < n → y.W < m →
    Ct Tryz.prog 146 #[yv b, .int .i64 i, .bool failed] (pt b (cl [jv, .slice (some ⟨pb, po, none⟩) n pc] 27) :: YO (.slice (some ⟨pb, po, none⟩) n pc) n H y.pr)
      fun u h' => u = .tuple #[] ∧ ∃ H', h' = pt b (cl [jv, .slice (some ⟨pb, po, none⟩) n pc] 27) :: YO (.slice (some ⟨pb, po, none⟩) n pc) n H' (Yard.ends m y i failed).pr
section
set_option maxRecDepth 100000 in
theorem answer_ct {m : Nat} (hE : EndC m) {b pb po pc n B i s : Nat} {jv : Value} {H : Nat → PH} {y : Yard} (failed : Bool) (hy : YBd n B y) (hB : B + m ≤ 1000000) (hn : n ≤ 1000000) (hs : s < n) (hW : y.W ≤ m) :
    Ct Tryz.prog 148 #[yv b, .int .i64 s, .int .i64 i, .bool failed] (pt b (cl [jv, .slice (some ⟨pb, po, none⟩) n pc] 27) :: YO (.slice (some ⟨pb, po, none⟩) n pc) n H y.pr)
      fun u h' => u = .tuple #[] ∧ ∃ H', h' = pt b (cl [jv, .slice (some ⟨pb, po, none⟩) n pc] 27) :: YO (.slice (some ⟨pb, po, none⟩) n pc) n H' (y.answer m s i failed).pr := by
  have hlen := hy.len
  have hps := hy.pb s hs
  have hself := put_self (y := y) (i := s) (by omega)
  have hans : y.answer m s i failed = if (y.pr s).waits = (i : Int) then (if failed = true then Yard.ends m (y.put s { y.pr s with waits := -1 }) s true else y.put s { y.pr s with waits := -1 }) else y := rfl
  rw [hans]
  have hW2 : (y.pr s).waits = (i : Int) → (y.put s { y.pr s with waits := -1 }).W < m := fun h => by
    have := W_down (y := y) (s := s) (p := { y.pr s with waits := -1 }) (by omega) (by omega) rfl
    omega
  unfold yv
  refine ct_of (n := 29) Tryz.func148 rfl rfl (len rfl) fun hr w0 => ?_
  simp only [List.cons_append]
  refine cS (cR (st_bx rfl rfl fun b4 => ?_))
  refine sN (nK [1, 2, 3, 4] rfl (nT (cS (cR (sV (vF rfl fa179_0 rfl) (sV (v_ldy rfl ld177) ?_))))))
  refine sV (vN rfl) (sV (vF rfl fa27_1 rfl) (sV (v_ldy rfl ld25) ?_))
  refine sV (vM rfl) (sV (v_indexAddr (k := s) rfl rfl sl25 rfl hs rfl) (sV (vA rfl) (sN (nK [1, 2, 3, 4, 8] rfl (nT (cS (cS (cd_pv (pv_focus hs) ?_))))))))
  generalize hG : H s = G
  generalize hp : y.pr s = p at hps hself hW2 ⊢
  refine cR (sV (vM rfl) (sV (vN rfl) (sV (vF rfl fa77_6 rfl) (sV (v_ldy rfl ld3) ?_))))
  refine sV (vM rfl) (sV (v_neq rfl rfl) (sN (nK [1, 3, 4, 8, 21] rfl (nT (cC rfl (fun hc => ?_) (fun hc => ?_))))))
  · skip
    refine cT (xR ?_)
    rw [if_neg (by simpa using hc)]
    refine xt_pv (pv_unfocus (y := y) (G := G) (p := p) hlen hs) ?_
    rw [hself]
    exact xt_rt rfl ⟨rfl, _, rfl⟩
  · skip
    have hc2 : p.waits = (i : Int) := by simpa using hc
    have hW3 := hW2 hc2
    rw [if_pos hc2]
    refine cK (xT (cS (cR (sV (vM rfl) (sV (vN rfl) (sV (vF rfl fa77_6 rfl) (st_fp (k := 6) (cells' := hpC G { p with waits := -1 }) rfl rfl sz3 rfl hs (by decide) rfl (by repeat (first | exact Sel.here | apply Sel.there)) ?_)))))))
    refine sN (nK [1, 3, 4] rfl (nT (cS ?_)))
    have hy2 : YBd n B (y.put s { p with waits := -1 }) := hy.put ⟨hps.lines, hps.puts, hps.holds, hps.did, hps.asks, hps.made, hps.hs, hps.ks⟩
    refine cd_pv (pv_unfocus (y := y) (G := G) (p := { p with waits := -1 }) hlen hs) ?_
    refine cR (sV (vM rfl) (sN (nK [1, 4, 25] rfl (nT (cC rfl (fun hf => ?_) (fun hf => ?_))))))
    · skip
      refine cR ?_
      subst hf
      refine sV (v_ldn rfl ld179 rfl rds_pt) ?_
      refine sV (vM rfl) (st_cl rfl rfl en146 rfl (hE true hy2 hB hn hs hW3) ?_)
      rintro u h' ⟨rfl, H', rfl⟩
      refine sN (nK [] rfl (nx_xt ?_))
      exact xt_en rfl ⟨rfl, _, rfl⟩
    · skip
      refine cK ?_
      subst hf
      exact xt_en rfl ⟨rfl, _, rfl⟩
theorem PB.after {n B : Nat} {p : Proc} (hp : PB n B p) {l : Line} {t : List Line} (hl : p.lines = l :: t) (br : Bool) (d : Did) : PB n (B + 1) { p with job := -1, pc := 0, waited := false, did := p.did ++ [d], lines := { l with broken := br } :: t } := by
  have hlm : l ∈ p.lines := by rw [hl]; simp
  exact ⟨by have := hp.lines; rw [hl] at this; simp at this ⊢; omega, by have := hp.puts; simp; omega, by have := hp.holds; simp; omega, by have := hp.did; simp; omega, fun x hx => by
            rcases List.mem_cons.1 hx with rfl | hx
            · have := hp.asks l hlm; simp; omega
            · have := hp.asks x (by rw [hl]; simp [hx]); omega, by have := hp.made; simp; omega, hp.hs, fun x hx => by
            rcases List.mem_cons.1 hx with rfl | hx
            · exact hp.ks l hlm
            · exact hp.ks x (by rw [hl]; simp [hx])⟩
set_option maxHeartbeats 1000000 in
set_option maxRecDepth 100000 in
theorem end_ct {m : Nat} (hE : EndC m) : EndC (m + 1) := by
  intro b pb po pc n B i jv H y failed hy hB hn hi hW
  have hleq := ends_eq m (y := y) (i := i) (by rw [hy.len]; exact hi) failed
  unfold yv
  refine ct_of (n := 92) Tryz.func146 rfl rfl (len rfl) fun hr w0 => ?_
  simp only [List.cons_append]
  refine cS (cR (st_bx rfl rfl fun b3 => ?_))
  refine sN (nK [1, 2, 3] rfl (nT (cS (cR (sV (vF rfl fa179_0 rfl) (sV (v_ldy rfl ld177) ?_))))))
  refine sV (vN rfl) (sV (vF rfl fa27_1 rfl) (sV (v_ldy rfl ld25) ?_))
  refine sV (vM rfl) (sV (v_indexAddr (k := i) rfl rfl sl25 rfl hi rfl) (sV (vA rfl) (sN (nK [1, 2, 3, 6] rfl (nT (cS (cd_block (cd_lp (σ := Yard × (Nat → PH)) (fun q => [(1, .int .i64 (i : Nat)), (2, .bool failed), (3, .pointer (some ⟨b3, 0, none⟩)), (6, .pointer (some ⟨pb, po + i * 9, none⟩))]) (fun q => pt b3 (cl [.pointer (some ⟨b, 0, none⟩)] 179) :: pt b (cl [jv, .slice (some ⟨pb, po, none⟩) n pc] 27) :: (YO (.slice (some ⟨pb, po, none⟩) n pc) n q.2 q.1.pr ++ hr)) (fun q => YBd n B q.1 ∧ q.1.W = y.W ∧ q.1.leaves i (q.1.pr i).holds.length = y.leaves i (y.pr i).holds.length) (fun q => (q.1.pr i).holds.length) (y, H) ⟨hy, rfl, rfl⟩ ?_))))))))
  rintro ⟨z, H⟩ ⟨hz, hzW, hzl⟩
  simp only at hz hzW hzl
  dsimp only
  refine cd_pv (pv_focus hi) ?_
  have hzlen := hz.len
  have hpz := hz.pb i hi
  have hself := put_self (y := z) (i := i) (by omega)
  have hlv := leave_holds (y := z) (i := i) (by omega)
  generalize hG : H i = G
  obtain ⟨lv, pv, hv, dv, av⟩ := G
  generalize hp : z.pr i = p at hpz hself hlv hzl ⊢
  refine cd_rowf (v := hv) (by repeat (first | exact Sel.here | apply Sel.there)) fun ha hc hve _ _ => ?_
  simp only [List.length_map] at hve
  subst hve
  refine cS (cS (cR (sV (vM rfl) (sV (vN rfl) (sV (vF rfl fa77_5 rfl) (sV (v_ldy rfl ld75) ?_))))))
  refine sV (v_len rfl Tryz.underlying75) (sV (v_gtr rfl rfl) (sN (nK [1, 2, 3, 6, 22] rfl (nT (cC rfl (fun hd => ?_) (fun hd => ?_))))))
  · skip
    have hpos : 0 < p.holds.length := by have := of_decide_eq_true hd; omega
    refine cd_pv (pv_unfocus (y := z) (G := ⟨lv, pv, .slice ha p.holds.length hc, dv, av⟩) (p := p) hzlen hi) ?_
    rw [hself]
    refine cK (xT (cd_block (cR (sV (v_ldn rfl ld179 rfl rds_pt) ?_))))
    refine sV (vM rfl) (st_cl rfl rfl en173 rfl (leave_ct hz (by omega) hn hi) ?_)
    rintro u h' ⟨rfl, H', rfl⟩
    refine sN (nK [1, 2, 3, 6] rfl (nx_xt (xB (xt_ag (z.leave i, H') ⟨hz.leave hi, by rw [leave_W]; exact hzW, ?_⟩ (by show ((z.leave i).pr i).holds.length < (z.pr i).holds.length; rw [hlv, hp, List.length_dropLast]; omega)))))
    show (z.leave i).leaves i ((z.leave i).pr i).holds.length = _
    rw [hlv, List.length_dropLast, ← hzl]
    obtain ⟨k, hk⟩ : ∃ k, p.holds.length = k + 1 := ⟨p.holds.length - 1, by omega⟩
    rw [hk]; rfl
  · skip
    have h0 : p.holds = [] := List.eq_nil_of_length_eq_zero (by have := of_decide_eq_false hd; omega)
    rw [← hzl, h0] at hleq
    have hl0 : z.leaves i ([] : List Hold).length = z := rfl
    rw [hl0, hp] at hleq
    refine cd_exit (xE (xE (xt_exit_block (xT (cS (cd_drawh (ork [(0, 2), (1, 2), (2, 2), (3, 1), (4, 2), (5, 2), (6, 2), (7, 1), (8, 2), (9, 2)] .nil) (fun _ => true) mixed (by kernel_rfl) ?_))))))
    refine dV rfl (vM rfl) (dV rfl (vN rfl) (dV rfl (vF rfl fa77_2 rfl) (dr_v rfl (v_ldy rfl ld3) ?_)))
    refine dV rfl (vM rfl) (dV rfl (vN rfl) (dV rfl (vF rfl fa77_4 rfl) (dr_v rfl (v_ldy rfl ld4) ?_)))
    refine dV rfl (vA rfl) (dV rfl (vA rfl) (dr_nil (nK [1, 2, 3, 6, 7, 8] rfl (nT (cS (cR (sV (vM rfl) (sV (vM rfl) (sV (vM rfl) (sV (vN rfl) (sV (vF rfl fa77_2 rfl) (st_fp (k := 2) (cells' := pC lv pv (.slice ha p.holds.length hc) dv { p with job := -1 }) rfl rfl sz3 rfl hi (by decide) rfl (by repeat (first | exact Sel.here | apply Sel.there)) ?_))))))))))))
    refine sV (vN rfl) (sV (vF rfl fa77_3 rfl) (st_fp (k := 3) (cells' := pC lv pv (.slice ha p.holds.length hc) dv { p with job := -1, pc := 0 }) rfl rfl sz3 rfl hi (by decide) rfl (by repeat (first | exact Sel.here | apply Sel.there)) ?_))
    refine sV (vN rfl) (sV (vF rfl fa77_4 rfl) (st_fp (k := 4) (cells' := pC lv pv (.slice ha p.holds.length hc) dv { p with job := -1, pc := 0, waited := false }) rfl rfl sz4 rfl hi (by decide) rfl (by repeat (first | exact Sel.here | apply Sel.there)) ?_))
    refine sN (nK [1, 2, 3, 6, 7, 8] rfl (nT (cS (cS (cd_ok (r := pureR (av.length = p.lines.length)) (by repeat (first | exact Sel.here | apply Sel.there)) fun hpu => ?_)))))
    have hal := pureR_ok hpu
    obtain ⟨lines, puts, job, at_, waited, holds, waits, made, did⟩ := p
    cases lines with
    | nil =>
      simp only at hleq
      refine cd_rowf (v := lv) (by repeat (first | exact Sel.here | apply Sel.there)) fun la lc hve _ _ => ?_
      simp only [lrows, List.zipWith_nil_right, List.length_nil] at hve
      refine cR (sV (vM rfl) (sV (vN rfl) (sV (vF rfl fa77_0 rfl) (sV (v_ldy rfl ld73) ?_))))
      refine sV (v_len (congrArg some hve) Tryz.underlying73) (sV (v_eql rfl rfl) (sN (nK [1, 2, 3, 6, 7, 8, 48] rfl (nT (cd_true rfl ?_)))))
      refine cT (xR (xt_pv (pv_unfocus (y := z) (G := ⟨lv, pv, .slice ha holds.length hc, dv, av⟩) (p := ⟨[], puts, -1, 0, false, holds, waits, made, did⟩) hzlen hi) ?_))
      rw [hleq]
      exact xt_rt rfl ⟨rfl, _, rfl⟩
    | cons l t =>
      simp only at hleq
      cases av with
      | nil => exact absurd hal (by simp)
      | cons a1 avs =>
        have hlr : (lrows (a1 :: avs) (l :: t)).length = (l :: t).length := by simp [lrows] at hal ⊢; omega
        refine cd_row (v := lv) (by repeat (first | exact Sel.here | apply Sel.there)) (fun _ h0 => by rw [h0] at hlr; simp at hlr) (fun lb lo lc hve _ _ => ?_)
        rw [hlr] at hve
        subst hve
        refine cR (sV (vM rfl) (sV (vN rfl) (sV (vF rfl fa77_0 rfl) (sV (v_ldy rfl ld73) ?_))))
        refine sV (v_len (congrArg some rfl) Tryz.underlying73) (sV (v_eql rfl rfl) (sN (nK [1, 2, 3, 6, 7, 8, 48] rfl (nT (cC rfl (fun hx => ?_) (fun hx => ?_))))))
        · skip
          exfalso
          simp at hx
          omega
        · skip
          refine cK (xT (cS (cR (sV (vM rfl) (sV (vN rfl) (sV (vF rfl fa77_0 rfl) (sV (v_ldy rfl ld73) ?_)))))))
          refine sV (v_indexAddr (k := 0) rfl rfl sl73 rfl (by simp) rfl) ?_
          refine sV (vF rfl fa120_0 rfl) (sV (v_ldn (vs := kC l.key) rfl ld79 rfl (rds_sub (rds_vr (m := 0) (r := lC a1 l) rfl) rfl)) ?_)
          refine st_alc al79 fun b9 => ?_
          refine st_stoW rfl rfl sz79 rfl rfl ?_
          refine sN (nK [1, 2, 3, 6, 7, 8, 9] rfl (nT (cS (cd_drawh (ork [(0, 2), (1, 2), (2, 2), (3, 2), (4, 1), (5, 1), (6, 2), (7, 2), (8, 2), (9, 0), (10, 0), (11, 2), (12, 2), (13, 0)] .nil) (fun i => !(Nat.beq i 10 || Nat.beq i 13)) mixed (by kernel_rfl) ?_))))
          refine dV rfl (vM rfl) (dV rfl (vM rfl) (dV rfl (vN rfl) (dV rfl (vF rfl fa77_8 rfl) (dr_v rfl (v_ldy rfl ld62) ?_))))
          refine dr_v rfl (v_ldn rfl ld79 rfl rds_pt) ?_
          refine dV rfl (vM rfl) (dV rfl (vM rfl) (dV rfl (v_build (cells := dC (l.key, job, false, failed)) rfl (fun _ => by kernel_rfl)) ?_))
          refine dr_eff rfl (st_buildSlice (cells := dC (l.key, job, false, failed)) rfl Tryz.underlying62 inf81 rfl rfl (by kernel_rfl) (ltn rfl) fun b65 => dr_nx ?_)
          have hdl := hpz.did
          simp only at hdl
          refine dr_eff rfl (st_app (v := dv) [dC (l.key, job, false, failed)] rfl rfl Tryz.underlying62 inf81 rfl (by decide) (by repeat (first | exact Sel.here | apply Sel.there)) (by simp [dC]) rfl (fun j u2 hu2 => at_here (rd_cl (by simpa using hu2))) (by simp [dC, Value.oneCell']) (by simp; omega) (by simp; omega) (ltn rfl) fun v' hv' _ => dr_nx ?_)
          refine dV rfl (vN rfl) (dV rfl (vF rfl fa77_8 rfl) (dr_eff rfl (st_fp (k := 8) (cells' := pC (.slice (some ⟨lb, lo, none⟩) (l :: t).length lc) pv (.slice ha holds.length hc) v' ⟨l :: t, puts, -1, 0, false, holds, waits, made, did⟩) rfl rfl sz62 hv' hi (by decide) rfl (by repeat (first | exact Sel.here | apply Sel.there)) (dr_nx ?_))))
          refine dr_nil (nK [1, 2, 3, 6, 8, 9] rfl (nT (cS (cd_drawh (ork [(0, 2), (1, 2), (2, 2), (3, 1), (4, 2), (5, 2), (6, 2), (7, 1), (8, 2), (9, 2), (10, 1), (11, 2), (12, 2), (13, 2), (14, 2), (15, 2), (16, 0)] .nil) (fun i => !(Nat.beq i 16)) mixed (by kernel_rfl) ?_))))
          refine dV rfl (vM rfl) (dV rfl (vN rfl) (dV rfl (vF rfl fa77_0 rfl) (dr_v rfl (v_ldy rfl ld73) ?_)))
          refine dV rfl (vM rfl) (dV rfl (vN rfl) (dV rfl (vF rfl fa77_0 rfl) (dr_v rfl (v_ldy rfl ld73) ?_)))
          refine dV rfl (v_indexAddr (k := 0) rfl rfl sl73 rfl (by simp) rfl) ?_
          have hbr := rd_vrk (E := 120) (b := lb) (o := lo) (n := (l :: t).length) (cp := lc) (sz := 5) (m := 0) (k := 4) (rows := lrows (a1 :: avs) (l :: t)) (r := lC a1 l) rfl rfl
          refine dV rfl (vF rfl fa120_3 rfl) (dr_v rfl (v_ldy rfl ld4) ?_)
          refine dV rfl (vM rfl) (dr_cut (k := 2) (d := 82) (v := .bool (l.broken || failed)) (fun hcut => bool_want (b := l.broken) false (fun hg => ?_) (fun hg => ?_)) ?_)
          · refine dp_sk rfl rfl rfl hg ?_
            refine dV rfl (v_pick_true (bool_ev rfl hg) rfl) ?_
            exact hcut _ (ssub_head (by first | rfl | (rw [hg]; rfl) | simp_all) (uS rfl (ssub_refl)))
          · skip
            refine dp_vg rfl rfl (bG rfl hg) (vM rfl) (dV rfl (vP (bool_ev rfl hg) rfl) ?_)
            exact hcut _ (ssub_head (by first | rfl | (rw [hg]; rfl) | simp_all) (uS rfl (ssub_refl)))
          refine dV rfl (v_indexAddr (k := 0) rfl rfl sl73 rfl (by simp) rfl) ?_
          refine dV rfl (vF rfl fa120_3 rfl) (dr_eff rfl (st_vr (sz := 5) (m := 0) (k := 4) (r := lC a1 l) rfl rfl sz4 rfl rfl (by decide) (show _ = lrows (a1 :: avs) ({ l with broken := l.broken || failed } :: t) from rfl) (by repeat (first | exact Sel.here | apply Sel.there)) (dr_nx ?_)))
          refine dr_nil (nK [1, 2, 3, 8, 9] rfl (nT (cS ?_)))
          rw [map_snoc]
          refine cd_pv (pv_unfocus (y := z) (G := ⟨.slice (some ⟨lb, lo, none⟩) (l :: t).length lc, pv, .slice ha holds.length hc, v', a1 :: avs⟩) (p := ⟨{ l with broken := l.broken || failed } :: t, puts, -1, 0, false, holds, waits, made, did ++ [(l.key, job, false, failed)]⟩) hzlen hi) ?_
          refine cR (sV (vM rfl) (sN (nK [1, 2, 3, 9, 85] rfl (nT ?_))))
          have hy3 : YBd n (B + 1) (z.put i ⟨{ l with broken := l.broken || failed } :: t, puts, -1, 0, false, holds, waits, made, did ++ [(l.key, job, false, failed)]⟩) := (hz.le (Nat.le_succ B)).put (hpz.after (p := ⟨l :: t, puts, job, at_, waited, holds, waits, made, did⟩) rfl _ _)
          have hk := hpz.ks l (by simp)
          have hW3 : (z.put i ⟨{ l with broken := l.broken || failed } :: t, puts, -1, 0, false, holds, waits, made, did ++ [(l.key, job, false, failed)]⟩).W = z.W := W_put (by rw [hp])
          refine cC rfl (fun hwt => ?_) (fun hwt => ?_)
          · skip
            rw [if_pos (by exact hwt)] at hleq
            rw [hleq]
            refine cR (sV (v_ldn rfl ld179 rfl rds_pt) ?_)
            refine sV (vF rfl fa79_0 rfl) (sV (v_ldy rfl ld3) ?_)
            refine sV (vM rfl) (sV (vM rfl) ?_)
            obtain ⟨s, hs⟩ := Int.eq_ofNat_of_zero_le hk.1
            have hs2 : l.key.1.toNat = s := by omega
            rw [hs2]
            refine st_cl rfl rfl en148 rfl ((hs ▸ answer_ct hE (b := b) (pb := pb) (po := po) (pc := pc) (i := i) (s := s) (jv := jv) (H := upd H i ⟨.slice (some ⟨lb, lo, none⟩) (l :: t).length lc, pv, .slice ha holds.length hc, v', a1 :: avs⟩) failed hy3 (by omega) hn (by omega) (by omega))) ?_
            rintro u h' ⟨rfl, H', rfl⟩
            refine sN (nK [] rfl (nx_xt ?_))
            exact xt_en rfl ⟨rfl, _, rfl⟩
          · skip
            rw [if_neg (by simpa using hwt)] at hleq
            rw [hleq]
            refine cK ?_
            exact xt_en rfl ⟨rfl, _, rfl⟩
end
end Go.Wt
namespace Go.Wt
open Go Go.Ck Go.Proofs Go.Proofs.YtboepbencndobaaGreat Fx
attribute [local irreducible] St Cd Xt Nx DrL LsW
theorem end_all : ∀ m, EndC m
  | 0 => fun _ _ _ _ _ h => absurd h (Nat.not_lt_zero _)
  | m + 1 => end_ct (end_all m)
theorem W_lt {n B : Nat} {y : Yard} (hy : YBd n B y) : y.W < n + 1 := by
  have : y.W ≤ y.procs.length := List.countP_le_length
  have := hy.len; omega
set_option maxRecDepth 100000 in
theorem fin_ct {b pb po pc n B i : Nat} {jv : Value} {H : Nat → PH} {y : Yard} (failed : Bool) (hy : YBd n B y) (hB : B + (n + 1) ≤ 1000000) (hn : n ≤ 1000000) (hi : i < n) :
    Ct Tryz.prog 146 #[yv b, .int .i64 i, .bool failed] (pt b (cl [jv, .slice (some ⟨pb, po, none⟩) n pc] 27) :: YO (.slice (some ⟨pb, po, none⟩) n pc) n H y.pr)
      fun u h' => u = .tuple #[] ∧ ∃ H', h' = pt b (cl [jv, .slice (some ⟨pb, po, none⟩) n pc] 27) :: YO (.slice (some ⟨pb, po, none⟩) n pc) n H' (y.fin i failed).pr := by
  have := end_all (n + 1) (b := b) (pb := pb) (po := po) (pc := pc) (jv := jv) (H := H) failed hy hB hn hi (W_lt hy)
  unfold Yard.fin
  rw [hy.len]; exact this
def DeedC (k : FuncId) (D : Yard → Nat → Move → Yard) : Prop := ∀ {b pb po pc n B i : Nat} {jv : Value} {H : Nat → PH} {y : Yard} (m : Move), YBd n B y → B + (n + 3) ≤ 1000000 → i < n → 0 ≤ m.2.1 → m.2.1 < n →
    Ct Tryz.prog k #[yv b, .int .i64 i, .agg (mC m).toArray] (pt b (cl [jv, .slice (some ⟨pb, po, none⟩) n pc] 27) :: YO (.slice (some ⟨pb, po, none⟩) n pc) n H y.pr)
      fun u h' => u = .tuple #[] ∧ ∃ H', h' = pt b (cl [jv, .slice (some ⟨pb, po, none⟩) n pc] 27) :: YO (.slice (some ⟨pb, po, none⟩) n pc) n H' (D y i m).pr
set_option maxRecDepth 100000 in
theorem out_ct : DeedC 175 fun y i _ => y.leave i := by
  intro b pb po pc n B i jv H y m hy hB hi _ _
  unfold yv
  refine ct_of (n := 9) Tryz.func175 rfl rfl (len rfl) fun hr w0 => ?_
  simp only [List.cons_append]
  refine cS (cR (st_bx rfl rfl fun b3 => ?_))
  refine st_bx rfl rfl fun b5 => ?_
  refine sN (nK [1, 3] rfl (nT (cR (sV (v_ldn rfl ld179 rfl rds_pt) ?_))))
  refine sV (vM rfl) (st_cl rfl rfl en173 rfl (leave_ct hy (by omega) (by omega) hi) ?_)
  rintro u h' ⟨rfl, H', rfl⟩
  refine sN (nK [] rfl (nx_xt ?_))
  exact xt_en rfl ⟨rfl, _, rfl⟩
set_option maxRecDepth 100000 in
theorem fail_ct : DeedC 178 fun y i _ => y.fin i true := by
  intro b pb po pc n B i jv H y m hy hB hi _ _
  unfold yv
  refine ct_of (n := 9) Tryz.func178 rfl rfl (len rfl) fun hr w0 => ?_
  simp only [List.cons_append]
  refine cS (cR (st_bx rfl rfl fun b3 => ?_))
  refine st_bx rfl rfl fun b5 => ?_
  refine sN (nK [1, 3] rfl (nT (cR (sV (v_ldn rfl ld179 rfl rds_pt) ?_))))
  refine sV (vM rfl) (st_cl rfl rfl en146 rfl (fin_ct true hy (by omega) (by omega) hi) ?_)
  rintro u h' ⟨rfl, H', rfl⟩
  refine sN (nK [] rfl (nx_xt ?_))
  exact xt_en rfl ⟨rfl, _, rfl⟩
set_option maxRecDepth 100000 in
theorem spawn_ct : DeedC 177 fun y i m => y.lay i m.2.1.toNat true [(m.2.2, false)] := by
  intro b pb po pc n B i jv H y m hy hB hi hm1 hm2
  obtain ⟨mk, ms, mj⟩ := m
  simp only at hm1 hm2
  obtain ⟨j, rfl⟩ := Int.eq_ofNat_of_zero_le hm1
  unfold yv
  refine ct_of (n := 15) Tryz.func177 rfl rfl (len rfl) fun hr w0 => ?_
  simp only [List.cons_append]
  refine cS (cR (st_bx rfl rfl fun b3 => ?_))
  refine st_bx rfl rfl fun b5 => ?_
  refine sN (nK [1, 3, 5] rfl (nT (cR (sV (v_ldn rfl ld179 rfl rds_pt) ?_))))
  refine sV (vM rfl) (sV (vF rfl fa110_1 rfl) (sV (v_ldy rfl ld3) ?_))
  refine sV (vF rfl fa110_2 rfl) (sV (v_ldy rfl ld3) ?_)
  refine sV (v_build (cells := aC (mj, false)) rfl (fun _ => by kernel_rfl)) ?_
  refine st_buildSlice (cells := aC (mj, false)) rfl Tryz.underlying118 inf117 rfl rfl (by kernel_rfl) (ltn rfl) fun b13 => ?_
  refine st_pv (pv_of (E := 117) (sz := 2) [aC (mj, false)] (cells := aC (mj, false)) (b := b13) (n := 1) (by simp) (by simp [aC]) rfl (by decide)) ?_
  refine st_cl rfl rfl en189 rfl (put_ct (asks := [(mj, false)]) (asv := .slice (some ⟨b13, 0, none⟩) 1 1) hy (by omega) hi (show j < n by omega) true) ?_
  rintro u h' ⟨rfl, H', rfl⟩
  refine sN (nK [] rfl (nx_xt ?_))
  exact xt_en rfl ⟨rfl, _, rfl⟩
theorem YBd.lay {n B : Nat} {y : Yard} (hy : YBd n B y) {i j : Nat} (hi : i < n) (hj : j < n) (closed : Bool) {asks : List Ask} (ha : asks.length ≤ B + 1) : YBd n (B + 1) (y.lay i j closed asks) := by
  unfold Yard.lay
  have hp := hy.pb i hi
  have h1 : YBd n (B + 1) (y.put i { y.pr i with made := (y.pr i).made + 1 }) := (hy.le (Nat.le_succ B)).put ⟨by have := hp.lines; simp; omega, by have := hp.puts; simp; omega, by have := hp.holds; simp; omega, by have := hp.did; simp; omega, fun l hl => by have := hp.asks l hl; omega, by have := hp.made; simp; omega, hp.hs, hp.ks⟩
  have hq : PB n B ((y.put i { y.pr i with made := (y.pr i).made + 1 }).pr j) ∨ j = i := by
    by_cases hji : j = i
    · exact .inr hji
    · left; rw [put_ne _ hji]; exact hy.pb j hj
  refine h1.put ?_
  have hl0 : ((y.put i { y.pr i with made := (y.pr i).made + 1 }).pr j).lines.length ≤ B ∧ ((y.put i { y.pr i with made := (y.pr i).made + 1 }).pr j).puts.length ≤ B := by
    rcases hq with h | rfl
    · exact ⟨h.lines, h.puts⟩
    · rw [put_same (by rw [hy.len]; exact hi)]; exact ⟨hp.lines, hp.puts⟩
  have hq1 := h1.pb j hj
  exact ⟨by rw [List.length_append, List.length_singleton]; exact Nat.succ_le_succ hl0.1, by rw [List.length_append, List.length_singleton]; exact Nat.succ_le_succ hl0.2, hq1.holds, hq1.did, fun l hl => by
    rcases List.mem_append.1 hl with hl | hl
    · exact hq1.asks l hl
    · simp at hl; subst hl; exact ha, hq1.made, hq1.hs, fun l hl => by
    rcases List.mem_append.1 hl with hl | hl
    · exact hq1.ks l hl
    · simp at hl; subst hl; simp; omega⟩
set_option maxHeartbeats 1000000 in
set_option maxRecDepth 100000 in
theorem enter_ct : DeedC 174 fun y i m => y.enter i m.2.1 := by
  intro b pb po pc n B i jv H y m hy hB hi hm1 hm2
  obtain ⟨mk, ms, mj⟩ := m
  simp only at hm1 hm2
  obtain ⟨j, rfl⟩ := Int.eq_ofNat_of_zero_le hm1
  have hj : j < n := by omega
  have he : y.enter i ((j : Nat) : Int) = if ((y.pr i).hold ((j : Nat) : Int)).isSome ∨ ((j : Nat) : Int) = (i : Int) then y.put i { y.pr i with holds := (y.pr i).holds ++ [(((j : Nat) : Int), (0, 0), true)] } else (y.lay i j false []).put i { (y.lay i j false []).pr i with holds := ((y.lay i j false []).pr i).holds ++ [(((j : Nat) : Int), ((i : Int), (y.pr i).made), false)] } := rfl
  unfold yv
  refine ct_of (n := 54) Tryz.func174 rfl rfl (len rfl) fun hr w0 => ?_
  simp only [List.cons_append]
  refine cS (cR (st_bx rfl rfl fun b3 => ?_))
  refine st_bx rfl rfl fun b5 => ?_
  refine sN (nK [1, 3, 5] rfl (nT (cS (cR (sV (vF rfl fa110_1 rfl) (sV (v_ldy rfl ld3) ?_))))))
  refine sV (v_build (cells := holdC (((j : Nat) : Int), (0, 0), false)) rfl (fun _ => by kernel_rfl)) ?_
  refine st_alc al161 fun b6 => ?_
  refine st_stoW rfl rfl sz161 rfl rfl ?_
  refine sN (nK [1, 3, 5, 6] rfl (nT (cS (cS (cR (sV (v_ldn rfl ld179 rfl rds_pt) ?_))))))
  refine sV (vM rfl) (sV (vF rfl fa110_1 rfl) (sV (v_ldy rfl ld3) ?_))
  refine st_clr rfl rfl en125 rfl (holdO_ct hy (by omega) hi ((j : Nat) : Int)) ?_
  have hif : ((y.pr i).hold ((j : Nat) : Int)).isSome = true ∨ ((j : Nat) : Int) = (i : Int) ↔ (((y.pr i).hold ((j : Nat) : Int)).isSome || (((j : Nat) : Int) == (i : Int))) = true := by simp
  obtain ⟨hb, hvb, hve⟩ : ∃ x, ∃ hh : Hold, holdV ((y.pr i).hold ((j : Nat) : Int)) = .tuple #[.agg (holdC hh).toArray, .bool x] ∧ x = ((y.pr i).hold ((j : Nat) : Int)).isSome := by
    cases (y.pr i).hold ((j : Nat) : Int) with
    | none => exact ⟨false, _, rfl, rfl⟩
    | some h => exact ⟨true, h, rfl, rfl⟩
  rw [hve.1]
  rw [← hve.2] at hif he
  clear hve
  refine sV (vM rfl) (sV (v_extract rfl rfl) (sV (v_extract rfl rfl) (st_alc al161 fun b7 => ?_)))
  refine st_stoW rfl rfl sz161 rfl rfl ?_
  refine sV (vA rfl) (sN (nK [1, 3, 5, 6, 8] rfl (nT (cS (cR (sV (vM rfl) (sV (vM rfl) (st_cut (k := 7) (d := 26) (v := .bool (hb || (((j : Nat) : Int) == (i : Int)))) (fun hcut => bool_want (b := hb) false (fun hg => ?_) (fun hg => ?_)) ?_))))))))
  · refine st_sk rfl rfl hg ?_
    refine st_sk rfl rfl hg ?_
    refine st_sk rfl rfl hg ?_
    refine st_sk rfl rfl hg ?_
    refine sV (v_pick_true (bool_ev rfl hg) rfl) ?_
    exact hcut _ (ssub_head (by first | rfl | (rw [hg]; rfl) | simp_all) (uS rfl (uS rfl (uS rfl (uS rfl (ssub_refl))))))
  · skip
    refine st_vg rfl (bG rfl hg) (vF rfl fa110_1 rfl) (st_vg rfl (bG rfl hg) (v_ldy rfl ld3) ?_)
    refine st_vg rfl (bG rfl hg) (vM rfl) (st_vg rfl (bG rfl hg) (v_eql rfl rfl) (sV (vP (bool_ev rfl hg) rfl) ?_))
    exact hcut _ (ssub_head (by first | rfl | (rw [hg]; rfl) | simp_all) (uS rfl (uS rfl (uS rfl (uS rfl (ssub_refl))))))
  refine sN (nK [1, 3, 5, 6, 26] rfl (nT (cC rfl (fun hc => ?_) (fun hc => ?_))))
  · skip
    rw [if_pos (hif.2 hc)] at he
    rw [he]
    refine cR (sV (vF rfl fa161_2 rfl) (st_sto rfl rfl sz4 ?_))
    refine sN (nK [1, 3, 6] rfl (nT ?_))
    simp only [List.cons_append]
    have hy1len := hy.len
    refine cd_pv (pv_focus hi) ?_
    have hp1 := (hy.pb i hi).holds
    generalize hG2 : H i = G2
    obtain ⟨lv, pv, hv, dv, av⟩ := G2
    generalize hp2 : (y).pr i = q at hp1 ⊢
    refine cd_draw (ork [(0, 2), (1, 1), (2, 2), (3, 2), (4, 1), (5, 2), (6, 2), (7, 1), (8, 2), (9, 2), (10, 1), (11, 2), (12, 2), (13, 2), (14, 1), (15, 1), (16, 0), (17, 0), (18, 2), (19, 2), (20, 0)] .nil) (fun i => !(Nat.beq i 20)) [pt b3 (cl [.pointer (some ⟨b, 0, none⟩)] 179), pt b (cl [jv, .slice (some ⟨pb, po, none⟩) n pc] 27), pt b6 (cl (holdC (((j : Nat) : Int), (0, 0), true)) 161), FP (.slice (some ⟨pb, po, none⟩) n pc) n i H (y).pr (hpC ⟨lv, pv, hv, dv, av⟩ q)] mixed (by kernel_rfl) ?_
    refine dV rfl (vF rfl fa179_0 rfl) (dr_v rfl (v_ldy rfl ld177) ?_)
    refine dV rfl (vN rfl) (dV rfl (vF rfl fa27_1 rfl) (dr_v rfl (v_ldy rfl ld25) ?_))
    refine dV rfl (vM rfl) (dV rfl (vF rfl fa179_0 rfl) (dr_v rfl (v_ldy rfl ld177) ?_))
    refine dV rfl (vN rfl) (dV rfl (vF rfl fa27_1 rfl) (dr_v rfl (v_ldy rfl ld25) ?_))
    refine dV rfl (vM rfl) (dV rfl (v_indexAddr (k := i) rfl rfl sl25 rfl hi rfl) (dV rfl (vF rfl fa77_5 rfl) (dr_v rfl (v_ldy rfl ld75) ?_)))
    refine dr_v rfl (v_ldn rfl ld161 rfl rds_pt) ?_
    refine dr_eff rfl (st_buildSlice (cells := holdC (((j : Nat) : Int), (0, 0), true)) rfl Tryz.underlying75 inf161 rfl rfl (by kernel_rfl) (ltn rfl) fun b50 => dr_nx ?_)
    refine dr_eff rfl (st_app (v := hv) [holdC (((j : Nat) : Int), (0, 0), true)] rfl rfl Tryz.underlying75 inf161 rfl (by decide) (by repeat (first | exact Sel.here | apply Sel.there)) (by simp [holdC]) rfl (fun j u2 hu2 => at_here (rd_cl (by simpa using hu2))) (by simp [holdC, Value.oneCell']) (by simp; omega) (by simp; omega) (ltn rfl) fun v' hv' _ => dr_nx ?_)
    refine dV rfl (v_indexAddr (k := i) rfl rfl sl25 rfl hi rfl) (dV rfl (vF rfl fa77_5 rfl) (dr_eff rfl (st_fp (k := 5) (cells' := pC lv pv v' dv q) rfl rfl sz75 hv' hi (by decide) rfl (by repeat (first | exact Sel.here | apply Sel.there)) (dr_nx ?_))))
    refine dr_nil (nK [] rfl (nx_xt ?_))
    rw [map_snoc]
    refine xt_pv (pv_unfocus (y := y) (G := ⟨lv, pv, v', dv, av⟩) (p := { q with holds := q.holds ++ [(((j : Nat) : Int), (0, 0), true)] }) hy1len hi) ?_
    exact xt_en rfl ⟨rfl, _, rfl⟩
  · skip
    rw [if_neg (fun h => by rw [hif.1 h] at hc; cases hc)] at he
    rw [he]
    refine cR (sV (v_ldn rfl ld179 rfl rds_pt) ?_)
    refine sV (vM rfl) (sV (vF rfl fa110_1 rfl) (sV (v_ldy rfl ld3) ?_))
    refine st_pv (pv_add (triv_nil 117 2)) ?_
    refine st_cl rfl rfl en189 rfl (put_ct (asv := .slice none 0 0) (asks := []) hy (by omega) hi hj false) ?_
    rintro u h' ⟨rfl, H', rfl⟩
    refine sV (vF rfl fa161_1 rfl) ?_
    have hy2 := hy.lay hi hj false (asks := []) (Nat.zero_le _)
    refine st_storeN (vs := kC ((i : Int), (y.pr i).made)) rfl rfl sz79 rfl (ones rfl) (by repeat (first | exact Sel.here | apply Sel.there)) (by simp [kC, holdC]) ?_
    refine sN (nK [1, 3, 6] rfl (nT ?_))
    simp only [List.cons_append]
    have hy1len := hy2.len
    refine cd_pv (pv_focus hi) ?_
    have hp1 := (hy2.pb i hi).holds
    generalize hG2 : H' i = G2
    obtain ⟨lv, pv, hv, dv, av⟩ := G2
    generalize hp2 : (y.lay i j false []).pr i = q at hp1 ⊢
    refine cd_draw (ork [(0, 2), (1, 1), (2, 2), (3, 2), (4, 1), (5, 2), (6, 2), (7, 1), (8, 2), (9, 2), (10, 1), (11, 2), (12, 2), (13, 2), (14, 1), (15, 1), (16, 0), (17, 0), (18, 2), (19, 2), (20, 0)] .nil) (fun i => !(Nat.beq i 20)) [pt b3 (cl [.pointer (some ⟨b, 0, none⟩)] 179), pt b (cl [jv, .slice (some ⟨pb, po, none⟩) n pc] 27), pt b6 (cl (holdC (((j : Nat) : Int), ((i : Int), (y.pr i).made), false)) 161), FP (.slice (some ⟨pb, po, none⟩) n pc) n i H' (y.lay i j false []).pr (hpC ⟨lv, pv, hv, dv, av⟩ q)] mixed (by kernel_rfl) ?_
    refine dV rfl (vF rfl fa179_0 rfl) (dr_v rfl (v_ldy rfl ld177) ?_)
    refine dV rfl (vN rfl) (dV rfl (vF rfl fa27_1 rfl) (dr_v rfl (v_ldy rfl ld25) ?_))
    refine dV rfl (vM rfl) (dV rfl (vF rfl fa179_0 rfl) (dr_v rfl (v_ldy rfl ld177) ?_))
    refine dV rfl (vN rfl) (dV rfl (vF rfl fa27_1 rfl) (dr_v rfl (v_ldy rfl ld25) ?_))
    refine dV rfl (vM rfl) (dV rfl (v_indexAddr (k := i) rfl rfl sl25 rfl hi rfl) (dV rfl (vF rfl fa77_5 rfl) (dr_v rfl (v_ldy rfl ld75) ?_)))
    refine dr_v rfl (v_ldn rfl ld161 rfl rds_pt) ?_
    refine dr_eff rfl (st_buildSlice (cells := holdC (((j : Nat) : Int), ((i : Int), (y.pr i).made), false)) rfl Tryz.underlying75 inf161 rfl rfl (by kernel_rfl) (ltn rfl) fun b50 => dr_nx ?_)
    refine dr_eff rfl (st_app (v := hv) [holdC (((j : Nat) : Int), ((i : Int), (y.pr i).made), false)] rfl rfl Tryz.underlying75 inf161 rfl (by decide) (by repeat (first | exact Sel.here | apply Sel.there)) (by simp [holdC]) rfl (fun j u2 hu2 => at_here (rd_cl (by simpa using hu2))) (by simp [holdC, Value.oneCell']) (by simp; omega) (by simp; omega) (ltn rfl) fun v' hv' _ => dr_nx ?_)
    refine dV rfl (v_indexAddr (k := i) rfl rfl sl25 rfl hi rfl) (dV rfl (vF rfl fa77_5 rfl) (dr_eff rfl (st_fp (k := 5) (cells' := pC lv pv v' dv q) rfl rfl sz75 hv' hi (by decide) rfl (by repeat (first | exact Sel.here | apply Sel.there)) (dr_nx ?_))))
    refine dr_nil (nK [] rfl (nx_xt ?_))
    rw [map_snoc]
    refine xt_pv (pv_unfocus (y := y.lay i j false []) (G := ⟨lv, pv, v', dv, av⟩) (p := { q with holds := q.holds ++ [(((j : Nat) : Int), ((i : Int), (y.pr i).made), false)] }) hy1len hi) ?_
    exact xt_en rfl ⟨rfl, _, rfl⟩
end Go.Wt
namespace Go.Wt
open Go Go.Ck Go.Proofs Go.Proofs.YtboepbencndobaaGreat Fx
attribute [local irreducible] St Cd Xt Nx DrL LsW
set_option maxHeartbeats 1000000 in
set_option maxRecDepth 100000 in
theorem ask_ct : DeedC 176 fun y i m => y.ask i m := by
  intro b pb po pc n B i jv H y m hy hB hi hm1 hm2
  obtain ⟨mk, ms, mj⟩ := m
  simp only at hm1 hm2
  obtain ⟨sp, rfl⟩ := Int.eq_ofNat_of_zero_le hm1
  have hsp : sp < n := by omega
  have he : y.ask i (mk, ((sp : Nat) : Int), mj) = if ((sp : Nat) : Int) = (i : Int) then y else match (y.pr i).hold ((sp : Nat) : Int) with
    | none => y.fin i true
    | some h => match (y.pr sp).line h.2.1 with
      | none => y.fin i true
      | some j => if mk = 4 then (y.put sp ((y.pr sp).setl j { (y.pr sp).lines.getD j Line.none with asks := ((y.pr sp).lines.getD j Line.none).asks ++ [(mj, mk == 4)] })).put i { (y.put sp ((y.pr sp).setl j { (y.pr sp).lines.getD j Line.none with asks := ((y.pr sp).lines.getD j Line.none).asks ++ [(mj, mk == 4)] })).pr i with waits := ((sp : Nat) : Int) } else y.put sp ((y.pr sp).setl j { (y.pr sp).lines.getD j Line.none with asks := ((y.pr sp).lines.getD j Line.none).asks ++ [(mj, mk == 4)] }) := rfl
  unfold yv
  refine ct_of (n := 64) Tryz.func176 rfl rfl (len rfl) fun hr w0 => ?_
  simp only [List.cons_append]
  refine cS (cR (st_bx rfl rfl fun b3 => ?_))
  refine st_bx rfl rfl fun b5 => ?_
  refine sN (nK [1, 3, 5] rfl (nT (cS (cS (cR (sV (vF rfl fa110_1 rfl) (sV (v_ldy rfl ld3) ?_)))))))
  refine sV (vM rfl) (sV (v_eql rfl rfl) (sN (nK [1, 3, 5, 12] rfl (nT (cC rfl (fun hc => ?_) (fun hc => ?_))))))
  · skip
    rw [if_pos (by simpa using hc)] at he
    rw [he]
    refine cT (xR ?_)
    exact xt_rt rfl ⟨rfl, _, rfl⟩
  · skip
    rw [if_neg (by simpa using hc)] at he
    refine cK (xT (cS (cR (sV (v_ldn rfl ld179 rfl rds_pt) ?_))))
    refine sV (vM rfl) (sV (vF rfl fa110_1 rfl) (sV (v_ldy rfl ld3) ?_))
    refine st_clr rfl rfl en125 rfl (holdO_ct hy (by omega) hi ((sp : Nat) : Int)) ?_
    cases hho : (y.pr i).hold ((sp : Nat) : Int) with
    | none =>
      rw [hho] at he
      simp only at he
      rw [he]
      refine sV (vM rfl) (sV (v_extract rfl rfl) (sV (v_extract rfl rfl) (st_alc al161 fun b6 => ?_)))
      refine st_stoW rfl rfl sz161 rfl rfl ?_
      refine sV (vA rfl) (sN (nK [1, 3, 5, 6, 7] rfl (nT (cS (cR (sV (v_ldn rfl ld179 rfl rds_pt) ?_))))))
      refine sV (vF rfl fa110_1 rfl) (sV (v_ldy rfl ld3) ?_)
      refine sV (vF rfl fa161_1 rfl) (sV (v_ldn (vs := kC (0, 0)) rfl ld79 rfl (rds_sub rds_pt rfl)) ?_)
      refine st_clr rfl rfl en188 rfl (lineO_ct hy (by omega) hsp (0, 0)) ?_
      refine sV (vA rfl) (sN (nK [1, 3, 5, 7, 8] rfl (nT (cS (cS (cR (sV (vM rfl) (sV (v_not rfl) (sV (vM rfl) (st_sk rfl rfl rfl ?_))))))))))
      refine st_sk rfl rfl rfl ?_
      refine sV (v_pick_true rfl rfl) (sN (nK [1, 3, 5, 8, 32] rfl (nT (cd_true rfl ?_))))
      refine cS (cR (sV (v_ldn rfl ld179 rfl rds_pt) ?_))
      refine sV (vM rfl) (st_cl rfl rfl en146 rfl (fin_ct true hy (by omega) (by omega) hi) ?_)
      rintro u h' ⟨rfl, H', rfl⟩
      refine sN (nK [1, 3, 5, 8] rfl (nT (cT (xR ?_))))
      exact xt_rt rfl ⟨rfl, _, rfl⟩
    | some h =>
      obtain ⟨hs2, hk2, ho2⟩ := h
      rw [hho] at he
      simp only at he
      refine sV (vM rfl) (sV (v_extract rfl rfl) (sV (v_extract rfl rfl) (st_alc al161 fun b6 => ?_)))
      refine st_stoW rfl rfl sz161 rfl rfl ?_
      refine sV (vA rfl) (sN (nK [1, 3, 5, 6, 7] rfl (nT (cS (cR (sV (v_ldn rfl ld179 rfl rds_pt) ?_))))))
      refine sV (vF rfl fa110_1 rfl) (sV (v_ldy rfl ld3) ?_)
      refine sV (vF rfl fa161_1 rfl) (sV (v_ldn (vs := kC hk2) rfl ld79 rfl (rds_sub rds_pt rfl)) ?_)
      refine st_clr rfl rfl en188 rfl (lineO_ct hy (by omega) hsp hk2) ?_
      cases hln : (y.pr sp).line hk2 with
      | none =>
        rw [hln] at he
        simp only at he
        rw [he]
        refine sV (vA rfl) (sN (nK [1, 3, 5, 7, 8] rfl (nT (cS (cS (cR (sV (vM rfl) (sV (v_not rfl) (sV (vM rfl) (st_vg rfl rfl (vM rfl) (st_vg rfl rfl (v_eql_ptr_nil rfl rfl pt202) (sV (vP rfl rfl) (sN (nK [1, 3, 5, 8, 32] rfl (nT (cd_true rfl ?_))))))))))))))))
        refine cS (cR (sV (v_ldn rfl ld179 rfl rds_pt) ?_))
        refine sV (vM rfl) (st_cl rfl rfl en146 rfl (fin_ct true hy (by omega) (by omega) hi) ?_)
        rintro u h' ⟨rfl, H', rfl⟩
        refine sN (nK [1, 3, 5, 8] rfl (nT (cT (xR ?_))))
        exact xt_rt rfl ⟨rfl, _, rfl⟩
      | some j =>
        rw [hln] at he
        simp only at he
        have hjl : j < (y.pr sp).lines.length := by
          unfold Proc.line at hln
          exact (List.findIdx?_eq_some_iff_getElem.1 hln).1
        have hp1 := hy.pb sp hsp
        have hylen := hy.len
        refine sV (vA rfl) (sN (nK [1, 3, 5, 7, 8] rfl (nT (cS (cS (cd_pv (pv_focus hsp) ?_))))))
        generalize hG1 : H sp = G1
        generalize hq : y.pr sp = q at hjl hp1 he ⊢
        obtain ⟨lv1, pv1, hv1, dv1, av1⟩ := G1
        refine cd_ok (r := pureR (av1.length = q.lines.length)) (by repeat (first | exact Sel.here | apply Sel.there)) fun hpu => ?_
        have hal := pureR_ok hpu
        have hlr : (lrows av1 q.lines).length = q.lines.length := by simp [lrows, hal]
        refine cd_row (v := lv1) (by repeat (first | exact Sel.here | apply Sel.there)) (fun _ h0 => by rw [h0] at hlr; simp at hlr; omega) (fun lb lo lc hve _ _ => ?_)
        rw [hlr] at hve
        subst hve
        have hlj : q.lines[j]? = some q.lines[j] := List.getElem?_eq_getElem hjl
        have haj : av1[j]? = some av1[j] := List.getElem?_eq_getElem (by omega)
        have hgd : q.lines.getD j Line.none = q.lines[j] := by rw [List.getD_eq_getElem?_getD, hlj]; rfl
        rw [hgd] at he
        have hasl := hp1.asks _ (List.getElem_mem hjl)
        generalize q.lines[j] = l at *
        generalize ha1 : av1[j] = a1 at *
        obtain ⟨lk, lasks, lcl, lbr⟩ := l
        simp only at he hasl
        have f2 := rd_vrk (E := 120) (b := lb) (o := lo) (n := q.lines.length) (cp := lc) (sz := 5) (m := j) (k := 2) (lrows_at haj hlj) rfl
        refine cR (sV (vM rfl) (sV (v_not rfl) (sV (vM rfl) (st_vg rfl rfl (vM rfl) (st_vg rfl rfl (v_eql_ptr_nil rfl rfl pt202) (sV (vP rfl rfl) (sN (nK [1, 3, 5, 8, 32] rfl (nT (cd_false rfl ?_))))))))))
        refine cd_pv (pv_lfoc (arows_at haj hlj)) ?_
        refine cK (xT (cS (cd_drawh (ork [(0, 2), (1, 2), (2, 2), (3, 2), (4, 1), (5, 2), (6, 1), (7, 2), (8, 1), (9, 2), (10, 2), (11, 0), (12, 0), (13, 2), (14, 2), (15, 0)] .nil) (fun i => !(Nat.beq i 12 || Nat.beq i 15)) mixed (by kernel_rfl) ?_)))
        refine dV rfl (vM rfl) (dV rfl (vM rfl) (dV rfl (vN rfl) (dV rfl (vF rfl fa120_1 rfl) (dr_v rfl (v_ldy rfl ld118) ?_))))
        refine dV rfl (vF rfl fa110_2 rfl) (dr_v rfl (v_ldy rfl ld3) ?_)
        refine dV rfl (vF rfl fa110_0 rfl) (dr_v rfl (v_ldy rfl ld3) ?_)
        refine dV rfl (v_eql rfl rfl) (dV rfl (v_build (cells := aC (mj, mk == 4)) rfl (fun _ => by kernel_rfl)) ?_)
        refine dr_eff rfl (st_buildSlice (cells := aC (mj, mk == 4)) rfl Tryz.underlying118 inf117 rfl rfl (by kernel_rfl) (ltn rfl) fun b47 => dr_nx ?_)
        refine dr_eff rfl (st_app (v := a1) [aC (mj, mk == 4)] rfl rfl Tryz.underlying118 inf117 rfl (by decide) (by repeat (first | exact Sel.here | apply Sel.there)) (by simp [aC]) rfl (fun j u2 hu2 => at_here (rd_cl (by simpa using hu2))) (by simp [aC, Value.oneCell']) (by simp; omega) (by simp; omega) (ltn rfl) fun v' hv' _ => dr_nx ?_)
        refine dV rfl (vN rfl) (dV rfl (vF rfl fa120_1 rfl) (dr_eff rfl (st_vr (sz := 5) (m := j) (k := 2) rfl rfl sz118 hv' (lrows_at haj hlj) (by decide) (show _ = lrows (av1.set j v') (q.lines.set j ⟨lk, lasks ++ [(mj, mk == 4)], lcl, lbr⟩) from lrows_setl (l := ⟨lk, lasks ++ [(mj, mk == 4)], lcl, lbr⟩) hjl hal) (by repeat (first | exact Sel.here | apply Sel.there)) (dr_nx ?_))))
        rw [map_snoc]
        refine dr_nil (nK [1, 3, 5] rfl (nT (cS (cd_pv (pv_lunf (L := arows av1 q.lines) (j := j) (r := VR v' 117 2 ((lasks ++ [(mj, mk == 4)]).map aC)) (by simp [arows, hal]; omega)) ?_))))
        have e1 : (arows av1 q.lines).set j (VR v' 117 2 ((lasks ++ [(mj, mk == 4)]).map aC)) = arows (av1.set j v') (q.lines.set j ⟨lk, lasks ++ [(mj, mk == 4)], lcl, lbr⟩) := arows_setl (l := ⟨lk, lasks ++ [(mj, mk == 4)], lcl, lbr⟩) hjl hal
        rw [e1]
        refine cd_pv (pv_add (triv_pure (φ := (av1.set j v').length = (q.lines.set j ⟨lk, lasks ++ [(mj, mk == 4)], lcl, lbr⟩).length) (by simp [hal]))) ?_
        refine cd_pv (pv_unfocus (y := y) (G := ⟨.slice (some ⟨lb, lo, none⟩) q.lines.length lc, pv1, hv1, dv1, av1.set j v'⟩) (p := q.setl j ⟨lk, lasks ++ [(mj, mk == 4)], lcl, lbr⟩) hylen hsp) ?_
        have hy1 : (y.put sp (q.setl j ⟨lk, lasks ++ [(mj, mk == 4)], lcl, lbr⟩)).procs.length = n := by rw [put_len, hylen]
        refine cR (sV (vF rfl fa110_0 rfl) (sV (v_ldy rfl ld3) ?_))
        refine sV (v_eql rfl rfl) (sN (nK [1, 3, 5, 53] rfl (nT (cC rfl (fun h4 => ?_) (fun h4 => ?_)))))
        · skip
          rw [if_pos (by simpa using h4)] at he
          rw [he]
          generalize y.put sp (q.setl j ⟨lk, lasks ++ [(mj, mk == 4)], lcl, lbr⟩) = y1 at hy1 ⊢
          refine cd_pv (pv_focus hi) ?_
          refine cd_drawh (ork [(0, 2), (1, 1), (2, 2), (3, 2), (4, 1), (5, 2), (6, 2), (7, 1), (8, 2), (9, 2), (10, 0)] .nil) (fun i => !(Nat.beq i 10)) mixed (by kernel_rfl) ?_
          refine dV rfl (vF rfl fa179_0 rfl) (dr_v rfl (v_ldy rfl ld177) ?_)
          refine dV rfl (vN rfl) (dV rfl (vF rfl fa27_1 rfl) (dr_v rfl (v_ldy rfl ld25) ?_))
          refine dV rfl (vM rfl) (dV rfl (vF rfl fa110_1 rfl) (dr_v rfl (v_ldy rfl ld3) ?_))
          refine dV rfl (v_indexAddr (k := i) rfl rfl sl25 rfl hi rfl) (dV rfl (vF rfl fa77_6 rfl) ?_)
          generalize hG2 : upd H sp _ i = G2
          generalize hq2 : y1.pr i = q2
          refine dr_eff rfl (st_fp (k := 6) (cells' := hpC G2 { q2 with waits := ((sp : Nat) : Int) }) rfl rfl sz3 rfl hi (by decide) rfl (by repeat (first | exact Sel.here | apply Sel.there)) (dr_nx ?_))
          refine dr_nil (nK [] rfl (nx_xt (xt_pv (pv_unfocus (y := y1) (G := G2) (p := { q2 with waits := ((sp : Nat) : Int) }) hy1 hi) ?_)))
          exact xt_en rfl ⟨rfl, _, rfl⟩
        · skip
          rw [if_neg (by simpa using h4)] at he
          rw [he]
          refine cK ?_
          exact xt_en rfl ⟨rfl, _, rfl⟩
end Go.Wt
namespace Go.Wt
open Go Go.Ck Go.Proofs Go.Proofs.YtboepbencndobaaGreat Fx
attribute [local irreducible] St Cd Xt Nx DrL LsW
theorem pv_tail {E : TypeId} {sz b o n cp m : Nat} {rows rows' : List (List Value)} (hm : m ≤ rows.length) (hr : rows.drop m = rows') : ∀ t, Vw ([VR (.slice (some ⟨b, o, none⟩) n cp) E sz rows] ++ t) ([VR (.slice (some ⟨b, if cp = m then o else o + m * sz, none⟩) (n - m) (cp - m)) E sz rows'] ++ t) := fun t => by subst hr; exact vw_tail hm
theorem take_eq {y : Yard} {i : Nat} {l : Line} {t : List Line} (h : (y.pr i).lines = l :: t) : y.take i = match l.asks with
    | [] => y.put i { y.pr i with lines := t }
    | a :: r => if l.broken = true then (if a.2 = true then (y.put i { y.pr i with lines := { l with asks := r } :: t, did := (y.pr i).did ++ [(l.key, a.1, true, false)] }).answer (y.procs.length + 1) l.key.1.toNat i true else y.put i { y.pr i with lines := { l with asks := r } :: t, did := (y.pr i).did ++ [(l.key, a.1, true, false)] })
      else y.put i { y.pr i with lines := { l with asks := r } :: t, job := a.1, pc := 0, waited := a.2 } := by
  unfold Yard.take
  simp only [h]
  cases l.asks with
  | nil => rfl
  | cons a r =>
    simp only [put_len]
set_option maxHeartbeats 1000000 in
set_option maxRecDepth 100000 in
theorem take_ct {b pb po pc n B i : Nat} {jv : Value} {H : Nat → PH} {y : Yard} (hy : YBd n B y) (hB : B + (n + 3) ≤ 1000000) (hi : i < n) (hne : (y.pr i).lines ≠ []) :
    Ct Tryz.prog 121 #[yv b, .int .i64 i] (pt b (cl [jv, .slice (some ⟨pb, po, none⟩) n pc] 27) :: YO (.slice (some ⟨pb, po, none⟩) n pc) n H y.pr)
      fun u h' => u = .tuple #[] ∧ ∃ H', h' = pt b (cl [jv, .slice (some ⟨pb, po, none⟩) n pc] 27) :: YO (.slice (some ⟨pb, po, none⟩) n pc) n H' (y.take i).pr := by
  have hylen := hy.len
  have hpi := hy.pb i hi
  have hW := W_lt hy
  obtain ⟨l, t, hlt⟩ : ∃ l t, (y.pr i).lines = l :: t := by
    cases h : (y.pr i).lines with
    | nil => exact absurd h hne
    | cons l t => exact ⟨l, t, rfl⟩
  have he := take_eq hlt
  have hWp : ∀ p : Proc, p.waits = (y.pr i).waits → (y.put i p).W = y.W := fun p h => W_put h
  clear hne
  unfold yv
  refine ct_of (n := 90) Tryz.func121 rfl rfl (len rfl) fun hr w0 => ?_
  simp only [List.cons_append]
  refine cS (cR (st_bx rfl rfl fun b2 => ?_))
  refine sN (nK [1, 2] rfl (nT (cS (cR (sV (vF rfl fa179_0 rfl) (sV (v_ldy rfl ld177) ?_))))))
  refine sV (vN rfl) (sV (vF rfl fa27_1 rfl) (sV (v_ldy rfl ld25) ?_))
  refine sV (vM rfl) (sV (v_indexAddr (k := i) rfl rfl sl25 rfl hi rfl) (sV (vA rfl) (sN (nK [1, 2, 4] rfl (nT (cS (cd_pv (pv_focus hi) ?_)))))))
  generalize hG : H i = G
  generalize hp : y.pr i = p at hpi hlt he hWp ⊢
  obtain ⟨lines, puts, job, at_, waited, holds, waits, made, did⟩ := p
  simp only at hlt
  subst hlt
  obtain ⟨lv, pv, hv, dv, av⟩ := G
  refine cd_ok (r := pureR (av.length = (l :: t).length)) (by repeat (first | exact Sel.here | apply Sel.there)) fun hpu => ?_
  have hal := pureR_ok hpu
  cases av with
  | nil => exact absurd hal (by simp)
  | cons a1 avs =>
    have hal2 : avs.length = t.length := by simpa using hal
    have hlr : (lrows (a1 :: avs) (l :: t)).length = (l :: t).length := by simp [lrows, hal2]
    refine cd_row (v := lv) (by repeat (first | exact Sel.here | apply Sel.there)) (fun _ h0 => by rw [h0] at hlr; simp at hlr) (fun lb lo lc hve hlc _ => ?_)
    rw [hlr] at hve hlc
    subst hve
    have hlc2 : t.length + 1 ≤ lc := by simpa using hlc
    refine cd_pv (pv_lfoc (L := arows (a1 :: avs) (l :: t)) (j := 0) (r := VR a1 117 2 (l.asks.map aC)) rfl) ?_
    obtain ⟨lk, lasks, lcl, lbr⟩ := l
    have f2 := rd_vrk (E := 120) (b := lb) (o := lo) (n := ((⟨lk, lasks, lcl, lbr⟩ : Line) :: t).length) (cp := lc) (sz := 5) (m := 0) (k := 2) (rows := lrows (a1 :: avs) (⟨lk, lasks, lcl, lbr⟩ :: t)) (r := lC a1 ⟨lk, lasks, lcl, lbr⟩) rfl rfl
    refine cd_rowf (v := a1) (by repeat (first | exact Sel.here | apply Sel.there)) fun aa ac hae _ _ => ?_
    simp only [List.length_map] at hae
    subst hae
    refine cR (sV (vM rfl) (sV (vN rfl) (sV (vF rfl fa77_0 rfl) (sV (v_ldy rfl ld73) ?_))))
    refine sV (v_indexAddr (k := 0) rfl rfl sl73 rfl (by simp) rfl) ?_
    refine sV (vA rfl) (sN (nK [1, 2, 4, 5] rfl (nT (cS (cS (cR (sV (vM rfl) (sV (vN rfl) (sV (vF rfl fa120_1 rfl) (sV (v_ldy rfl ld118) ?_))))))))))
    refine sV (v_len rfl Tryz.underlying118) (sV (v_eql rfl rfl) (sN (nK [1, 2, 4, 5, 24] rfl (nT ?_))))
    cases lasks with
    | nil =>
      simp only at he
      rw [he]
      refine cC rfl (fun hx => ?_) (fun hx => ?_)
      · skip
        refine cS (cR (sV (vM rfl) (sV (vM rfl) (sV (vN rfl) (sV (vF rfl fa77_0 rfl) (sV (v_ldy rfl ld73) ?_))))))
        refine sV (v_sliceTail (lo := 1) rfl rfl sl73 rfl (by simp) hlc) ?_
        refine sV (vN rfl) (sV (vF rfl fa77_0 rfl) ?_)
        generalize hf0 : (if lc = 1 then lo else lo + 1 * 5) = lo2
        refine st_fp (k := 0) (cells := hpC ⟨.slice (some ⟨lb, lo, none⟩) (⟨lk, [], lcl, lbr⟩ :: t : List Line).length lc, pv, hv, dv, .slice aa ([] : List Ask).length ac :: avs⟩ ⟨⟨lk, [], lcl, lbr⟩ :: t, puts, job, at_, waited, holds, waits, made, did⟩) (cells' := pC (.slice (some ⟨lb, lo2, none⟩) t.length (lc - 1)) pv hv dv ⟨t, puts, job, at_, waited, holds, waits, made, did⟩) rfl rfl sz73 rfl hi (by decide) (by rw [← hf0]; rfl) (by repeat (first | exact Sel.here | apply Sel.there)) ?_
        refine sN (nK [1, 2, 4, 5] rfl (nT (cT (xR (xt_pv (pv_tail (E := 120) (sz := 5) (b := lb) (o := lo) (n := (⟨lk, [], lcl, lbr⟩ :: t : List Line).length) (cp := lc) (m := 1) (rows := lrows (.slice aa ([] : List Ask).length ac :: avs) (⟨lk, [], lcl, lbr⟩ :: t)) (rows' := lrows avs t) (by rw [hlr]; simp) rfl) ?_)))))
        rw [hf0]
        refine xt_pv (pv_add (triv_pure (φ := avs.length = t.length) hal2)) ?_
        refine xt_pv (pv_unfocus (y := y) (G := ⟨.slice (some ⟨lb, lo2, none⟩) t.length (lc - 1), pv, hv, dv, avs⟩) (p := ⟨t, puts, job, at_, waited, holds, waits, made, did⟩) hylen hi) ?_
        exact xt_rt rfl ⟨rfl, _, rfl⟩
      · skip
        exact absurd hx (by simp)
    | cons a r =>
      simp only at he
      refine cd_row (v := .slice aa (a :: r).length ac) (by repeat (first | exact Sel.here | apply Sel.there)) (fun _ h0 => by simp at h0) (fun ab ao ac2 hve2 hac _ => ?_)
      simp only [List.length_map, Value.slice.injEq] at hve2 hac
      obtain ⟨rfl, _, rfl⟩ := hve2
      refine cC rfl (fun hx => ?_) (fun hx => ?_)
      · skip
        exfalso
        simp at hx
        omega
      · skip
        refine cK (xT (cS (cR (sV (vM rfl) (sV (vN rfl) (sV (vF rfl fa120_1 rfl) (sV (v_ldy rfl ld118) ?_)))))))
        refine sV (v_indexAddr (k := 0) rfl rfl sl118 rfl (by simp) rfl) ?_
        refine sV (v_ldn (vs := aC a) rfl ld117 rfl (rds_vr (m := 0) rfl)) ?_
        refine st_alc al117 fun b6 => ?_
        refine st_stoW rfl rfl sz117 rfl rfl ?_
        refine sN (nK [1, 2, 4, 5, 6] rfl (nT (cS (cR (sV (vM rfl) (sV (vM rfl) (sV (vN rfl) (sV (vF rfl fa120_1 rfl) (sV (v_ldy rfl ld118) ?_)))))))))
        refine sV (v_sliceTail (lo := 1) rfl rfl sl118 rfl (by simp) hac) ?_
        refine sV (vN rfl) (sV (vF rfl fa120_1 rfl) ?_)
        generalize hf0 : (if ac = 1 then ao else ao + 1 * 2) = ao2
        refine st_vr (sz := 5) (m := 0) (k := 2) (rows := lrows (.slice (some ⟨ab, ao, none⟩) (a :: r).length ac :: avs) (⟨lk, a :: r, lcl, lbr⟩ :: t)) (r := lC (.slice (some ⟨ab, ao, none⟩) (a :: r).length ac) ⟨lk, a :: r, lcl, lbr⟩) rfl rfl sz118 rfl rfl (by decide) (show _ = lrows (.slice (some ⟨ab, ao2, none⟩) r.length (ac - 1) :: avs) (⟨lk, r, lcl, lbr⟩ :: t) by rw [← hf0]; rfl) (by repeat (first | exact Sel.here | apply Sel.there)) ?_
        refine sN (nK [1, 2, 4, 5, 6] rfl (nT (cS (cS (cd_pv (pv_tail (E := 117) (sz := 2) (b := ab) (o := ao) (n := (a :: r).length) (cp := ac) (m := 1) (rows := (a :: r).map aC) (rows' := r.map aC) (by simp) rfl) ?_)))))
        rw [hf0]
        refine cd_pv (pv_lunf (L := arows (.slice (some ⟨ab, ao, none⟩) (a :: r).length ac :: avs) (⟨lk, a :: r, lcl, lbr⟩ :: t)) (j := 0) (r := VR (.slice (some ⟨ab, ao2, none⟩) r.length (ac - 1)) 117 2 (r.map aC)) (by simp [arows])) ?_
        have e1 : (arows (.slice (some ⟨ab, ao, none⟩) (a :: r).length ac :: avs) (⟨lk, a :: r, lcl, lbr⟩ :: t)).set 0 (VR (.slice (some ⟨ab, ao2, none⟩) r.length (ac - 1)) 117 2 (r.map aC)) = arows (.slice (some ⟨ab, ao2, none⟩) r.length (ac - 1) :: avs) (⟨lk, r, lcl, lbr⟩ :: t) := rfl
        rw [e1]
        have f4 := rd_vrk (E := 120) (b := lb) (o := lo) (n := ((⟨lk, a :: r, lcl, lbr⟩ : Line) :: t).length) (cp := lc) (sz := 5) (m := 0) (k := 4) (rows := lrows (.slice (some ⟨ab, ao2, none⟩) r.length (ac - 1) :: avs) (⟨lk, r, lcl, lbr⟩ :: t)) (r := lC (.slice (some ⟨ab, ao2, none⟩) r.length (ac - 1)) ⟨lk, r, lcl, lbr⟩) rfl rfl
        have hk := hpi.ks ⟨lk, a :: r, lcl, lbr⟩ (by simp)
        have hdl := hpi.did
        simp only at hdl hk
        refine cR (sV (vM rfl) (sV (vN rfl) (sV (vF rfl fa120_3 rfl) (sV (v_ldy rfl ld4) ?_))))
        refine sN (nK [1, 2, 4, 5, 6, 50] rfl (nT (cC rfl (fun hb => ?_) (fun hb => ?_))))
        · skip
          rw [if_pos hb] at he
          refine cS (cd_drawh (ork [(0, 2), (1, 2), (2, 2), (3, 2), (4, 1), (5, 2), (6, 2), (7, 2), (8, 1), (9, 2), (10, 1), (11, 2), (12, 0), (13, 0), (14, 2), (15, 2), (16, 0)] .nil) (fun i => !(Nat.beq i 13 || Nat.beq i 16)) mixed (by kernel_rfl) ?_)
          refine dV rfl (vM rfl) (dV rfl (vM rfl) (dV rfl (vN rfl) (dV rfl (vF rfl fa77_8 rfl) (dr_v rfl (v_ldy rfl ld62) ?_))))
          refine dV rfl (vM rfl) (dV rfl (vN rfl) (dV rfl (vF rfl fa120_0 rfl) (dr_v rfl (v_ldn (vs := kC lk) rfl ld79 rfl (rds_sub (rds_vr (m := 0) (r := lC (.slice (some ⟨ab, ao2, none⟩) r.length (ac - 1)) ⟨lk, r, lcl, lbr⟩) rfl) rfl)) ?_)))
          refine dV rfl (vF rfl fa117_0 rfl) (dr_v rfl (v_ldy rfl ld3) ?_)
          refine dV rfl (v_build (cells := dC (lk, a.1, true, false)) rfl (fun _ => by kernel_rfl)) ?_
          refine dr_eff rfl (st_buildSlice (cells := dC (lk, a.1, true, false)) rfl Tryz.underlying62 inf81 rfl rfl (by kernel_rfl) (ltn rfl) fun b63 => dr_nx ?_)
          refine dr_eff rfl (st_app (v := dv) [dC (lk, a.1, true, false)] rfl rfl Tryz.underlying62 inf81 rfl (by decide) (by repeat (first | exact Sel.here | apply Sel.there)) (by simp [dC]) rfl (fun j u2 hu2 => at_here (rd_cl (by simpa using hu2))) (by simp [dC, Value.oneCell']) (by simp; omega) (by simp; omega) (ltn rfl) fun v' hv' _ => dr_nx ?_)
          refine dV rfl (vN rfl) (dV rfl (vF rfl fa77_8 rfl) (dr_eff rfl (st_fp (k := 8) (cells := hpC ⟨.slice (some ⟨lb, lo, none⟩) (⟨lk, a :: r, lcl, lbr⟩ :: t : List Line).length lc, pv, hv, dv, avs⟩ ⟨⟨lk, r, lcl, lbr⟩ :: t, puts, job, at_, waited, holds, waits, made, did⟩) (cells' := pC (.slice (some ⟨lb, lo, none⟩) (⟨lk, a :: r, lcl, lbr⟩ :: t : List Line).length lc) pv hv v' ⟨⟨lk, r, lcl, lbr⟩ :: t, puts, job, at_, waited, holds, waits, made, did⟩) rfl rfl sz62 hv' hi (by decide) rfl (by repeat (first | exact Sel.here | apply Sel.there)) (dr_nx ?_))))
          refine dr_nil (nK [1, 2, 4, 5, 6] rfl (nT (cS (cS ?_))))
          rw [map_snoc]
          refine cd_pv (pv_add (triv_pure (φ := ((.slice (some ⟨ab, ao2, none⟩) r.length (ac - 1) : Value) :: avs).length = ((⟨lk, r, lcl, lbr⟩ : Line) :: t).length) (by simp [hal2]))) ?_
          refine cd_pv (pv_unfocus (y := y) (G := ⟨.slice (some ⟨lb, lo, none⟩) (⟨lk, a :: r, lcl, lbr⟩ :: t : List Line).length lc, pv, hv, v', .slice (some ⟨ab, ao2, none⟩) r.length (ac - 1) :: avs⟩) (p := ⟨⟨lk, r, lcl, lbr⟩ :: t, puts, job, at_, waited, holds, waits, made, did ++ [(lk, a.1, true, false)]⟩) hylen hi) ?_
          have hasr := hpi.asks ⟨lk, a :: r, lcl, lbr⟩ (by simp)
          simp only [List.length_cons] at hasr
          have hy2 : YBd n (B + 1) (y.put i ⟨⟨lk, r, lcl, lbr⟩ :: t, puts, job, at_, waited, holds, waits, made, did ++ [(lk, a.1, true, false)]⟩) := (hy.le (Nat.le_succ B)).put ⟨by have := hpi.lines; simp at this ⊢; omega, by have := hpi.puts; simp at this ⊢; omega, by have := hpi.holds; simp at this ⊢; omega, by simp; omega, fun x hx => by
            rcases List.mem_cons.1 hx with rfl | hx
            · simp; omega
            · have := hpi.asks x (by simp [hx]); omega, by have := hpi.made; simp at this ⊢; omega, hpi.hs, fun x hx => by
            rcases List.mem_cons.1 hx with rfl | hx
            · exact hk
            · exact hpi.ks x (by simp [hx])⟩
          have hW2 := hWp ⟨⟨lk, r, lcl, lbr⟩ :: t, puts, job, at_, waited, holds, waits, made, did ++ [(lk, a.1, true, false)]⟩ rfl
          refine cR (sV (vF rfl fa117_1 rfl) (sV (v_ldy rfl ld4) ?_))
          refine sN (nK [1, 2, 4, 5, 6, 68] rfl (nT (cC rfl (fun hwt => ?_) (fun hwt => ?_))))
          · skip
            rw [if_pos hwt] at he
            rw [he]
            have f0 : Rd (RS n fun k => PR (upd H i ⟨.slice (some ⟨lb, lo, none⟩) (⟨lk, a :: r, lcl, lbr⟩ :: t : List Line).length lc, pv, hv, v', .slice (some ⟨ab, ao2, none⟩) r.length (ac - 1) :: avs⟩ k) ((y.put i ⟨⟨lk, r, lcl, lbr⟩ :: t, puts, job, at_, waited, holds, waits, made, did ++ [(lk, a.1, true, false)]⟩).pr k)) ⟨lb, lo + 0 * 5 + 0 + 0, none⟩ (.int .i64 lk.1) := by
              refine RS_in (R := fun k => PR (upd H i _ k) ((y.put i _).pr k)) hi _ _ ?_
              simp only [upd_same]
              rw [put_same (by omega)]
              exact rd_mem (r := VR (.slice (some ⟨lb, lo, none⟩) (⟨lk, a :: r, lcl, lbr⟩ :: t : List Line).length lc) 120 5 (lrows (.slice (some ⟨ab, ao2, none⟩) r.length (ac - 1) :: avs) (⟨lk, r, lcl, lbr⟩ :: t))) (by simp [prl]) _ _ (rd_vrk (m := 0) (k := 0) (r := lC (.slice (some ⟨ab, ao2, none⟩) r.length (ac - 1)) ⟨lk, r, lcl, lbr⟩) rfl rfl)
            refine cd_drawh (ork [(0, 1), (1, 2), (2, 2), (3, 2), (4, 2), (5, 1), (6, 2), (7, 0)] .nil) (fun i => !(Nat.beq i 7)) mixed (by kernel_rfl) ?_
            refine dr_v rfl (v_ldn rfl ld179 rfl rds_pt) ?_
            refine dV rfl (vM rfl) (dV rfl (vN rfl) (dV rfl (vF rfl fa120_0 rfl) (dV rfl (vF rfl fa79_0 rfl) (dr_v rfl (v_ldy rfl ld3) ?_))))
            refine dV rfl (vM rfl) ?_
            obtain ⟨s, hs⟩ := Int.eq_ofNat_of_zero_le hk.1
            have hs2 : lk.1.toNat = s := by omega
            rw [hs2, hylen]
            refine dr_eff rfl (st_cl rfl rfl en148 rfl ((hs ▸ answer_ct (end_all (n + 1)) (b := b) (pb := pb) (po := po) (pc := pc) (i := i) (s := s) (jv := jv) true hy2 (by omega) (by omega) (show s < n by omega) (by omega))) ?_)
            rintro u h' ⟨rfl, H', rfl⟩
            refine dr_nx ?_
            refine dr_nil (nK [4, 6] rfl (nT (cT (xR ?_))))
            exact xt_rt rfl ⟨rfl, _, rfl⟩
          · skip
            rw [if_neg (by simpa using hwt)] at he
            rw [he]
            refine cK (xT (cT (xR ?_)))
            exact xt_rt rfl ⟨rfl, _, rfl⟩
        · skip
          rw [if_neg (by simpa using hb)] at he
          rw [he]
          refine cK (xT (cd_draw (ork [(0, 2), (1, 2), (2, 2), (3, 2), (4, 1), (5, 2), (6, 1), (7, 2), (8, 2), (9, 0), (10, 2), (11, 2), (12, 0), (13, 2), (14, 2), (15, 0)] .nil) (fun i => !(Nat.beq i 15)) [pt b6 (cl (aC a) 117)] mixed (by kernel_rfl) ?_))
          refine dV rfl (vM rfl) (dV rfl (vM rfl) (dV rfl (vM rfl) (dV rfl (vF rfl fa117_0 rfl) (dr_v rfl (v_ldy rfl ld3) ?_))))
          refine dV rfl (vF rfl fa117_1 rfl) (dr_v rfl (v_ldy rfl ld4) ?_)
          refine dV rfl (vN rfl) (dV rfl (vF rfl fa77_2 rfl) (dr_eff rfl (st_fp (k := 2) (cells := hpC ⟨.slice (some ⟨lb, lo, none⟩) (⟨lk, a :: r, lcl, lbr⟩ :: t : List Line).length lc, pv, hv, dv, avs⟩ ⟨⟨lk, r, lcl, lbr⟩ :: t, puts, job, at_, waited, holds, waits, made, did⟩) (cells' := hpC ⟨.slice (some ⟨lb, lo, none⟩) (⟨lk, a :: r, lcl, lbr⟩ :: t : List Line).length lc, pv, hv, dv, avs⟩ ⟨⟨lk, r, lcl, lbr⟩ :: t, puts, a.1, at_, waited, holds, waits, made, did⟩) rfl rfl sz3 rfl hi (by decide) rfl (by repeat (first | exact Sel.here | apply Sel.there)) (dr_nx ?_))))
          refine dV rfl (vN rfl) (dV rfl (vF rfl fa77_3 rfl) (dr_eff rfl (st_fp (k := 3) (cells' := hpC ⟨.slice (some ⟨lb, lo, none⟩) (⟨lk, a :: r, lcl, lbr⟩ :: t : List Line).length lc, pv, hv, dv, avs⟩ ⟨⟨lk, r, lcl, lbr⟩ :: t, puts, a.1, 0, waited, holds, waits, made, did⟩) rfl rfl sz3 rfl hi (by decide) rfl (by repeat (first | exact Sel.here | apply Sel.there)) (dr_nx ?_))))
          refine dV rfl (vN rfl) (dV rfl (vF rfl fa77_4 rfl) (dr_eff rfl (st_fp (k := 4) (cells' := hpC ⟨.slice (some ⟨lb, lo, none⟩) (⟨lk, a :: r, lcl, lbr⟩ :: t : List Line).length lc, pv, hv, dv, avs⟩ ⟨⟨lk, r, lcl, lbr⟩ :: t, puts, a.1, 0, a.2, holds, waits, made, did⟩) rfl rfl sz4 rfl hi (by decide) rfl (by repeat (first | exact Sel.here | apply Sel.there)) (dr_nx ?_))))
          refine dr_nil (nK [] rfl (nx_xt (xt_pv (pv_add (triv_pure (φ := ((.slice (some ⟨ab, ao2, none⟩) r.length (ac - 1) : Value) :: avs).length = ((⟨lk, r, lcl, lbr⟩ : Line) :: t).length) (by simp [hal2]))) ?_)))
          refine xt_pv (pv_unfocus (y := y) (G := ⟨.slice (some ⟨lb, lo, none⟩) (⟨lk, a :: r, lcl, lbr⟩ :: t : List Line).length lc, pv, hv, dv, .slice (some ⟨ab, ao2, none⟩) r.length (ac - 1) :: avs⟩) (p := ⟨⟨lk, r, lcl, lbr⟩ :: t, puts, a.1, 0, a.2, holds, waits, made, did⟩) hylen hi) ?_
          exact xt_en rfl ⟨rfl, _, rfl⟩
end Go.Wt
namespace Go.Ck
open Go
section
variable {c : Cx} {ops : Array Oper} {K : Act → World → Prop} {rest : List Oper} {e : Env} {h h' : SH}
theorem st_ins {T ty : TypeId} {x y v : Operand} {pos : String} {after : Array Edge} (hn : St c ops K (⟨none, .mapUpdate T x y v, ty, pos, after, none⟩ :: rest) e h) : St c ops K (⟨none, .insert T x y v, ty, pos, after, none⟩ :: rest) e h := fun a w hk hh hw => by
  have h1 := hn a w hk hh hw
  unfold LsW at h1 ⊢
  have e1 : Region.wanted (⟨none, .insert T x y v, ty, pos, after, none⟩ : Oper) (yielded ops a.tmps) = true := by simp [Region.wanted]
  have e2 : Region.wanted (⟨none, .mapUpdate T x y v, ty, pos, after, none⟩ : Oper) (yielded ops a.tmps) = true := by simp [Region.wanted]
  rw [if_pos e2] at h1
  rw [if_pos e1]
  unfold OpW OpV at h1 ⊢
  rw [Oper.semAt_eq _ _ _ (by simp)] at h1 ⊢
  exact h1
end
end Go.Ck
namespace Go.Wt
open Go Go.Ck Go.Proofs Go.Proofs.YtboepbencndobaaGreat Fx
attribute [local irreducible] St Cd Xt Nx DrL LsW
theorem inf199 : Inf Tryz.prog 199 .nilFunc 1 8 := by unfold Inf; kernel_rfl
def deedsM : List (Int × Value) := [(1, .func (.func 174) #[] #[]), (2, .func (.func 175) #[] #[]), (3, .func (.func 176) #[] #[]), (4, .func (.func 176) #[] #[]), (5, .func (.func 177) #[] #[]), (6, .func (.func 178) #[] #[])]
set_option maxRecDepth 100000 in
theorem deeds_ct : Ct Tryz.prog 147 #[] [] fun u h' => ∃ mb, u = .map (some mb) ∧ h' = [mpr mb deedsM] := by
  refine ct_of (n := 3) Tryz.func147 rfl rfl (len rfl) fun hr w0 => ?_
  refine cS (cR (sV (vA rfl) (sN (nT (cS (cR (st_makeMap (ltn rfl) fun mb => ?_)))))))
  refine st_ins (st_mapUpdate rfl rfl rfl mp200 (by repeat (first | exact Sel.here | apply Sel.there)) ?_)
  refine st_ins (st_mapUpdate rfl rfl rfl mp200 (by repeat (first | exact Sel.here | apply Sel.there)) ?_)
  refine st_ins (st_mapUpdate rfl rfl rfl mp200 (by repeat (first | exact Sel.here | apply Sel.there)) ?_)
  refine st_ins (st_mapUpdate rfl rfl rfl mp200 (by repeat (first | exact Sel.here | apply Sel.there)) ?_)
  refine st_ins (st_mapUpdate rfl rfl rfl mp200 (by repeat (first | exact Sel.here | apply Sel.there)) ?_)
  refine st_ins (st_mapUpdate rfl rfl rfl mp200 (by repeat (first | exact Sel.here | apply Sel.there)) ?_)
  refine sV (vM rfl) (sV (vA rfl) (sN (nK [0] rfl (nT (cT ?_)))))
  exact xt_rt rfl ⟨mb, rfl, rfl⟩
theorem moved_kind {m : Move} {nj n : Int} (h : moved m nj n = true) (hn : 0 < n) : (m.1 = 1 ∨ m.1 = 2 ∨ m.1 = 3 ∨ m.1 = 4 ∨ m.1 = 5 ∨ m.1 = 6) ∧ 0 ≤ m.2.1 ∧ m.2.1 < n := by
  unfold moved within at h
  split at h
  · simp only [Bool.and_eq_true, decide_eq_true_eq] at h; omega
  · split at h
    · simp only [Bool.and_eq_true, decide_eq_true_eq] at h; omega
    · split at h
      · simp only [Bool.and_eq_true, decide_eq_true_eq] at h; omega
      · cases h
structure JobOk (y : Yard) (n i : Nat) : Prop where
  job : 0 ≤ (y.pr i).job ∧ (y.pr i).job.toNat < y.jobs.length
  pc : 0 ≤ (y.pr i).pc ∧ (y.pr i).pc ≤ y.jlen (y.pr i).job
  mv : ∀ m ∈ y.jobs.getD (y.pr i).job.toNat [], moved m y.jobs.length n = true
set_option maxHeartbeats 1000000 in
set_option maxRecDepth 100000 in
theorem move_ct {S : Res} {b pb po pc n B i : Nat} {jv : Value} {H : Nat → PH} {y : Yard} (hy : YBd n B y) (hB : B + (n + 3) ≤ 1000000) (hi : i < n) (hj : Row S 1 (jobR S) jv y.jobs) (hfj : Fits y.jobs) (hok : JobOk y n i) :
    Ct Tryz.prog 120 #[yv b, .int .i64 i] (S :: pt b (cl [jv, .slice (some ⟨pb, po, none⟩) n pc] 27) :: YO (.slice (some ⟨pb, po, none⟩) n pc) n H y.pr)
      fun u h' => u = .tuple #[] ∧ ∃ H', h' = S :: pt b (cl [jv, .slice (some ⟨pb, po, none⟩) n pc] 27) :: YO (.slice (some ⟨pb, po, none⟩) n pc) n H' (y.move i).pr := by
  have hylen := hy.len
  have hpi := hy.pb i hi
  have hself := put_self (y := y) (i := i) (by omega)
  have he : y.move i = if (y.pr i).pc = (y.jlen (y.pr i).job : Int) then y.fin i false else (y.put i { y.pr i with pc := (y.pr i).pc + 1 }).deed i (y.mv (y.pr i).job (y.pr i).pc) := rfl
  obtain ⟨⟨hj0, hj1⟩, ⟨hp0, hp1⟩, hmv⟩ := hok
  obtain ⟨bj, oj, cj, uj, rfl, hrdj, vj, hvj, hrj⟩ := hj.at1 (List.getElem?_eq_getElem hj1)
  simp only [List.cons.injEq, and_true] at hvj
  subst hvj
  have hll := hfj.2 _ (List.getElem_mem hj1)
  have hgd : y.jobs.getD (y.pr i).job.toNat [] = y.jobs[(y.pr i).job.toNat] := by rw [List.getD_eq_getElem?_getD, List.getElem?_eq_getElem hj1]; rfl
  have hjl : y.jlen (y.pr i).job = (y.jobs[(y.pr i).job.toNat]).length := by unfold Yard.jlen; rw [hgd]
  have hmve : y.mv (y.pr i).job (y.pr i).pc = (y.jobs[(y.pr i).job.toNat]).getD (y.pr i).pc.toNat (0, 0, 0) := by unfold Yard.mv; rw [hgd]
  rw [hgd] at hmv
  rw [hmve, hjl] at he
  rw [hjl] at hp1
  generalize hje : y.jobs[(y.pr i).job.toNat] = job at *
  obtain ⟨aj, cj2, rfl, _⟩ := id hrj
  unfold yv
  refine ct_of (n := 57) Tryz.func120 rfl rfl (len rfl) fun hr w0 => ?_
  simp only [List.cons_append]
  refine cS (cR (st_bx rfl rfl fun b2 => ?_))
  refine sN (nK [1, 2] rfl (nT (cS (cR (sV (vF rfl fa179_0 rfl) (sV (v_ldy rfl ld177) ?_))))))
  refine sV (vN rfl) (sV (vF rfl fa27_1 rfl) (sV (v_ldy rfl ld25) ?_))
  refine sV (vM rfl) (sV (v_indexAddr (k := i) rfl rfl sl25 rfl hi rfl) (sV (vA rfl) (sN (nK [1, 2, 4] rfl (nT (cS (cd_pv (pv_focus hi) ?_)))))))
  generalize hG : H i = G
  generalize hp : y.pr i = p at *
  refine cd_drawh (ork [(0, 2), (1, 1), (2, 2), (3, 2), (4, 1), (5, 2), (6, 2), (7, 2), (8, 1), (9, 2), (10, 1), (11, 2)] .nil) (fun _ => true) mixed (by kernel_rfl) ?_
  refine dV rfl (vF rfl fa179_0 rfl) (dr_v rfl (v_ldy rfl ld177) ?_)
  refine dV rfl (vN rfl) (dV rfl (vF rfl fa27_0 rfl) (dr_v rfl (v_ldy rfl ld22) ?_))
  refine dV rfl (vM rfl) (dV rfl (vN rfl) (dV rfl (vF rfl fa77_2 rfl) (dr_v rfl (v_ldy rfl ld3) ?_)))
  refine dV rfl (v_indexAddr (k := p.job.toNat) rfl rfl sl22 (by omega) hj1 rfl) (dr_v rfl (v_ldy rfl ld108) ?_)
  refine dV rfl (vA rfl) (dr_nil (nK [1, 2, 4, 5] rfl (nT (cS (cS (cR (sV (vM rfl) (sV (vN rfl) (sV (vF rfl fa77_3 rfl) (sV (v_ldy rfl ld3) ?_))))))))))
  refine sV (vM rfl) (sV (v_len rfl Tryz.underlying108) (sV (v_eql rfl rfl) (sN (nK [1, 2, 4, 5, 31] rfl (nT (cC rfl (fun hc => ?_) (fun hc => ?_)))))))
  · skip
    rw [if_pos (by simpa using hc)] at he
    rw [he]
    refine cd_pv (pv_unfocus (y := y) (G := G) (p := p) hylen hi) ?_
    rw [hself]
    refine cS (cR (sV (v_ldn rfl ld179 rfl rds_pt) ?_))
    refine sV (vM rfl) (st_cl rfl rfl en146 rfl (fin_ct false hy (by omega) (by omega) hi) ?_)
    rintro u h' ⟨rfl, H', rfl⟩
    refine sN (nK [1, 2, 4, 5] rfl (nT (cT (xR ?_))))
    exact xt_rt rfl ⟨rfl, _, rfl⟩
  · skip
    have hne : p.pc ≠ (job.length : Int) := by simpa using hc
    rw [if_neg hne] at he
    rw [he]
    obtain ⟨q, hq⟩ := Int.eq_ofNat_of_zero_le hp0
    have hq1 : q < job.length := by omega
    have hmq : job.getD p.pc.toNat (0, 0, 0) = job[q] := by rw [hq, Int.toNat_natCast, List.getD_eq_getElem?_getD, List.getElem?_eq_getElem hq1]; rfl
    rw [hmq]
    obtain ⟨hkind, hs1, hs2⟩ := moved_kind (hmv _ (List.getElem_mem hq1)) (by omega)
    obtain ⟨bm, om, cm, um, hvm, hum, hrdm, rfl⟩ := hrj.at (List.getElem?_eq_getElem hq1)
    have hy2 : YBd n B (y.put i { p with pc := p.pc + 1 }) := hy.put ⟨hpi.lines, hpi.puts, hpi.holds, hpi.did, hpi.asks, hpi.made, hpi.hs, hpi.ks⟩
    generalize job[q] = m at *
    refine cK (xT (cS (cR (sV (vM rfl) (sV (vM rfl) (sV (vN rfl) (sV (vF rfl fa77_3 rfl) (sV (v_ldy rfl ld3) ?_))))))))
    refine sV (v_indexAddr (k := q) (congrArg some hvm) rfl sl108 hq hq1 rfl) (sV (v_ldn rfl ld110 hum hrdm) ?_)
    refine st_alc al110 fun b6 => ?_
    refine st_stoW rfl rfl sz110 rfl rfl ?_
    refine sN (nK [1, 2, 4, 6] rfl (nT (cS (cR (sV (vM rfl) (sV (vN rfl) (sV (vF rfl fa77_3 rfl) (sV (v_ldy rfl ld3) ?_))))))))
    refine sV (v_add rfl rfl (by unfold I64 at *; omega)) (sV (vN rfl) (sV (vF rfl fa77_3 rfl) (st_fp (k := 3) (cells' := hpC G { p with pc := p.pc + 1 }) rfl rfl sz3 rfl hi (by decide) rfl (by repeat (first | exact Sel.here | apply Sel.there)) ?_)))
    refine sN (nK [1, 2, 6] rfl (nT (cd_pv (pv_unfocus (y := y) (G := G) (p := { p with pc := p.pc + 1 }) hylen hi) ?_)))
    generalize upd H i G = H1
    generalize y.put i { p with pc := p.pc + 1 } = y1 at hy2 ⊢
    refine cd_drawh (ork [(1, 2), (2, 1), (4, 1), (5, 2), (6, 1), (0, 0), (3, 0), (7, 0)] .nil) (fun i => !(Nat.beq i 7)) mixed (by kernel_rfl) ?_
    refine dV rfl (vF rfl fa110_0 rfl) (dr_v rfl (v_ldy rfl ld3) ?_)
    refine dr_v rfl (v_ldn rfl ld179 rfl rds_pt) ?_
    refine dV rfl (vM rfl) (dr_v rfl (v_ldn rfl ld110 rfl rds_pt) ?_)
    refine dr_eff rfl (st_cl rfl rfl en147 rfl (deeds_ct) ?_)
    rintro u h' ⟨mb, rfl, rfl⟩
    refine dr_nx ?_
    simp only [List.cons_append, List.nil_append]
    obtain ⟨m1, m2, m3⟩ := m
    simp only at hkind hs1 hs2
    rcases hkind with rfl | rfl | rfl | rfl | rfl | rfl
    · skip
      refine dr_eff rfl (sV (v_lookup rfl rfl mp200 inf199 (by repeat (first | exact Sel.here | apply Sel.there))) (dr_nx ?_))
      refine dr_eff rfl (st_cl rfl rfl en174 rfl (enter_ct (1, m2, m3) hy2 (by omega) hi hs1 hs2) ?_)
      rintro u h' ⟨rfl, H', rfl⟩
      refine dr_nx ?_
      refine dr_nil (nK [] rfl (nx_xt ?_))
      exact xt_en rfl ⟨rfl, _, rfl⟩
    · skip
      refine dr_eff rfl (sV (v_lookup rfl rfl mp200 inf199 (by repeat (first | exact Sel.here | apply Sel.there))) (dr_nx ?_))
      refine dr_eff rfl (st_cl rfl rfl en175 rfl (out_ct (2, m2, m3) hy2 (by omega) hi hs1 hs2) ?_)
      rintro u h' ⟨rfl, H', rfl⟩
      refine dr_nx ?_
      refine dr_nil (nK [] rfl (nx_xt ?_))
      exact xt_en rfl ⟨rfl, _, rfl⟩
    · skip
      refine dr_eff rfl (sV (v_lookup rfl rfl mp200 inf199 (by repeat (first | exact Sel.here | apply Sel.there))) (dr_nx ?_))
      refine dr_eff rfl (st_cl rfl rfl en176 rfl (ask_ct (3, m2, m3) hy2 (by omega) hi hs1 hs2) ?_)
      rintro u h' ⟨rfl, H', rfl⟩
      refine dr_nx ?_
      refine dr_nil (nK [] rfl (nx_xt ?_))
      exact xt_en rfl ⟨rfl, _, rfl⟩
    · skip
      refine dr_eff rfl (sV (v_lookup rfl rfl mp200 inf199 (by repeat (first | exact Sel.here | apply Sel.there))) (dr_nx ?_))
      refine dr_eff rfl (st_cl rfl rfl en176 rfl (ask_ct (4, m2, m3) hy2 (by omega) hi hs1 hs2) ?_)
      rintro u h' ⟨rfl, H', rfl⟩
      refine dr_nx ?_
      refine dr_nil (nK [] rfl (nx_xt ?_))
      exact xt_en rfl ⟨rfl, _, rfl⟩
    · skip
      refine dr_eff rfl (sV (v_lookup rfl rfl mp200 inf199 (by repeat (first | exact Sel.here | apply Sel.there))) (dr_nx ?_))
      refine dr_eff rfl (st_cl rfl rfl en177 rfl (spawn_ct (5, m2, m3) hy2 (by omega) hi hs1 hs2) ?_)
      rintro u h' ⟨rfl, H', rfl⟩
      refine dr_nx ?_
      refine dr_nil (nK [] rfl (nx_xt ?_))
      exact xt_en rfl ⟨rfl, _, rfl⟩
    · skip
      refine dr_eff rfl (sV (v_lookup rfl rfl mp200 inf199 (by repeat (first | exact Sel.here | apply Sel.there))) (dr_nx ?_))
      refine dr_eff rfl (st_cl rfl rfl en178 rfl (fail_ct (6, m2, m3) hy2 (by omega) hi hs1 hs2) ?_)
      rintro u h' ⟨rfl, H', rfl⟩
      refine dr_nx ?_
      refine dr_nil (nK [] rfl (nx_xt ?_))
      exact xt_en rfl ⟨rfl, _, rfl⟩
end Go.Wt
