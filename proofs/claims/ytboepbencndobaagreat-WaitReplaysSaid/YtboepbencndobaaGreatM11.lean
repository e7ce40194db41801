/-
  The law's examples hold. No condition.
  The plain laws: runs of a script, by picks and by orders. No condition.
  What the arguments of the laws read as. No condition.
  The laws: few, grown, lasting. Conditions: what is read, that lists are not too long.
  The laws: grown. Conditions: what is read, that lists are not too long.
  The laws: played. Conditions: what is read, that lists are not too long.
  The laws: played. Conditions: what is read, that lists are not too long.
  The plain laws, as the walks of the laws use them. No condition.
  The reference: in, moved, balanced. Conditions: what is read.
  The reference: balanced, Check. Conditions: what is read.
  The reference: New. Conditions: what is read.
-/
import Derived.Test.YtboepbencndobaaGreatM10
import Derived.Test.YtboepbencndobaaGreatM7
import Derived.Test.YtboepbencndobaaGreatM5
import Derived.Test.YtboepbencndobaaGreatM2
import Derived.Test.YtboepbencndobaaGreatM6
import Derived.JoinedCond
set_option linter.unusedVariables false
set_option linter.unusedSimpArgs false
namespace Go.Wt
open Go Go.Ck Go.Proofs Go.Proofs.YtboepbencndobaaGreat Fx
attribute [local irreducible] St Cd Xt Nx DrL LsW
theorem exLive0 : Live (exY 0) 1 := Live.new (n := 3) (by decide)
theorem exLive_step {i : Nat} (h : Live (exY i) (i + 1)) (hs : (exY i).stepE 0 = (exY (i + 1), 0)) (hg : ((exY i).pr 0).goes = true) : Live (exY (i + 1)) (i + 2) := by
 have := h.stepE (i := 0) h.len_pos.1 hg (by rw [hs])
 rw [hs] at this; exact this
theorem exLive : ∀ i, i ≤ 4 → Live (exY i) (i + 1)
 | 0, _ => exLive0
 | 1, _ => exLive_step (exLive 0 (by decide)) ex_step.1 (by kernel_rfl)
 | 2, _ => exLive_step (exLive 1 (by decide)) ex_step.2.1 (by kernel_rfl)
 | 3, _ => exLive_step (exLive 2 (by decide)) ex_step.2.2.1 (by kernel_rfl)
 | 4, _ => exLive_step (exLive 3 (by decide)) ex_step.2.2.2 (by kernel_rfl)
 | n + 5, h => by omega
theorem exStep : ∀ i, i < 4 → yStepE (exY i) 0 = (exY (i + 1), 0)
 | 0, _ => by kernel_rfl
 | 1, _ => by kernel_rfl
 | 2, _ => by kernel_rfl
 | 3, _ => by kernel_rfl
 | n + 4, h => by omega
theorem exFin1 : yFinE (exY 4) 100 = (exZ1, 0) := by kernel_rfl
theorem exFin2 : yFinE (Yard.new exJ2 3) 100 = (exZ2, 0) := by kernel_rfl
theorem exFin3 : yFinE (Yard.new exJ3 2) 100 = (exZ3, 0) := by kernel_rfl
theorem exLZ1 : Live exZ1 105 := (gos_live (fun _ _ => true) 100 (exLive 4 (by decide)) ex_gos1).1
theorem exLZ2 : Live exZ2 101 := (gos_live (fun _ _ => true) 100 (Live.new (n := 3) (jobs := exJ2) (by decide)) ex_gos2).1
theorem exLZ3 : Live exZ3 101 := (gos_live (fun _ _ => true) 100 (Live.new (n := 2) (jobs := exJ3) (by decide)) ex_gos3).1
theorem exSt : stateE (exY 4) 0 = (3, 0) ∧ stateE (exY 4) 1 = (2, 0) := ⟨by kernel_rfl, by kernel_rfl⟩
theorem exEnd : endedE exZ1 = (true, 0) := by kernel_rfl
def exO : List (List Key) := [[(0, 0)], [(0, 1)], []]
theorem exOrd : ordersE exZ1 = (exO, 0) := by kernel_rfl
def exB1 : List (List Did) := [[((0, 1), 1, false, false), ((0, 1), 2, false, false)]]
theorem exBlk1 : blocksE exZ1 1 = (exB1, 0) := by kernel_rfl
def exB3 : List (List Did) := [[((0, 1), 1, false, true), ((0, 1), 2, true, false), ((0, 1), 2, true, false)]]
theorem exBlk3 : blocksE exZ3 1 = (exB3, 0) := by kernel_rfl
theorem exRing : ringYE exZ2 = ([1, 2], true, 0) := by kernel_rfl
theorem exRdy : readyE (exY 0) = ([0], 0) := by kernel_rfl
theorem exRun : yRunE (exY 0) [0, 0, 0, 0] = (exY 4, 0) := by kernel_rfl
theorem exRdy2 : (readyE (exY 4)).2 = 0 := by kernel_rfl
theorem row_empty {α : Type} {S : Res} {sz : Nat} {X : List Value → α → Prop} {a : Option Addr} : Row S sz X (.slice a 0 0) [] := ⟨a, 0, rfl, Nat.le_refl _, Nat.zero_le _, fun _ => rfl, fun i x h => by simp at h⟩
theorem jobs_row {S : Res} {c n : Nat} {vs : List Value} {jobs : List (List Move)} (hc : ∀ (i : Nat) v, vs[i]? = some v → Rd S ⟨c, i, none⟩ v) (hl : vs.length = jobs.length) (hn : jobs.length = n) (hm : n ≤ maxLen) (hx : ∀ p ∈ vs.zip jobs, Row S 3 (eqC mC) p.1 p.2) :
  Row S 1 (jobR S) (.slice (some ⟨c, 0, none⟩) n n) jobs := row_cells hc hl hn hm fun i v x h1 h2 => ⟨v, rfl, hx (v, x) (List.mem_of_getElem? (i := i) (by rw [List.getElem?_zip_eq_some]; exact ⟨h1, h2⟩))⟩
theorem row_ptm {L : SH} {b n : Nat} {cells : List Value} {l : List Move} (hr : pt b (cl cells 110) ∈ L) (hc : cells = (l.map mC).flatten) (hn : l.length = n) (hm : n ≤ maxLen) : Row (Res.star L) 3 (eqC mC) (.slice (some ⟨b, 0, none⟩) n n) l :=
 (row_pt hc (fun _ _ => rfl) hn hm).mono (fun p u h => rd_mem hr p u h) fun _ _ _ h => h
theorem rd_ptm {L : SH} {b : Nat} {T : TypeId} {cells : List Value} (hr : pt b (cl cells T) ∈ L) : ∀ (i : Nat) v, cells[i]? = some v → Rd (Res.star L) ⟨b, i, none⟩ v := fun i v h => rd_mem hr _ _ (rd_cl h)
theorem vr_rowC {α : Type} {v : Value} {E : TypeId} {sz : Nat} {C : α → List Value} {l : List α} (hok : ∃ f, (VR v E sz (l.map C)).ok f) : Row (VR v E sz (l.map C)) sz (eqC C) v l := row_vr hok (by simp) (fun _ _ h => h) fun i us x h1 h2 => by simp [List.getElem?_map, h2] at h1; exact h1.symm
theorem vr_rowS {α : Type} {L : SH} {v : Value} {E : TypeId} {sz : Nat} {C : α → List Value} {l : List α} (hr : VR v E sz (l.map C) ∈ L) (hok : ∃ f, (VR v E sz (l.map C)).ok f) : Row (Res.star L) sz (eqC C) v l := (vr_rowC hok).mono (fun p u h => rd_mem hr p u h) fun _ _ _ h => h
theorem pt_rowS {α : Type} {L : SH} {b n : Nat} {E : TypeId} {sz : Nat} {cells : List Value} {C : α → List Value} {l : List α} (hr : pt b (cl cells E) ∈ L) (hc : cells = (l.map C).flatten) (hs : ∀ x ∈ l, (C x).length = sz) (hn : l.length = n) (hm : n ≤ maxLen) : Row (Res.star L) sz (eqC C) (.slice (some ⟨b, 0, none⟩) n n) l := (row_pt hc hs hn hm).mono (fun p u h => rd_mem hr p u h) fun _ _ _ h => h
theorem exMade {i : Nat} (h : i ≤ 4) : ∀ k, ((exY i).pr k).made ≤ 900000 := fun k => by have := ((exLive i h).hm k).2; omega
theorem exFits1 : Fits exJ1 := ⟨by decide, by simp [exJ1]⟩
theorem exFits2 : Fits exJ2 := ⟨by decide, by simp [exJ2]⟩
theorem exFits3 : Fits exJ3 := ⟨by decide, by simp [exJ3]⟩
theorem exFit {i : Nat} (h : i ≤ 4) : Fit (exY i) := (exLive i h).fit (by omega)
theorem exN1 : newY exJ1 3 = exY 0 := by kernel_rfl
theorem exN2 : newY exJ2 3 = Yard.new exJ2 3 := by kernel_rfl
theorem exN3 : newY exJ3 2 = Yard.new exJ3 2 := by kernel_rfl
theorem zeros (n : Int) (h : n ∈ [(0 : Int), 0, 0, 0]) : I64 n := by simp at h; subst h; unfold I64; omega
set_option maxHeartbeats 4000000 in
set_option maxRecDepth 100000 in
theorem sanity_ct : Ct Tryz.prog 13 #[] [] fun u h' => u = .bool true ∧ h' = [] := by
 refine ct_of (n := 300) Tryz.func13 rfl rfl (len rfl) fun hr w0 => ?_
 refine cS (cR (sV (vA rfl) (sN (nT (cS (cR (st_clr rfl rfl en48 rfl (menter_ct 1) ?_)))))))
 refine st_clr rfl rfl en49 rfl (mput_ct 1 1) ?_
 refine st_clr rfl rfl en50 rfl (mask_ct 1 2) ?_
 refine st_clr rfl rfl en51 rfl (mleave_ct ()) ?_
 refine st_buildSlice (cells := mC (1, 1, 0) ++ mC (3, 1, 1) ++ mC (4, 1, 2) ++ mC (2, 0, 0)) rfl Tryz.underlying108 inf110 rfl rfl (by kernel_rfl) (ltn rfl) fun b37 => ?_
 refine st_bs0 Tryz.underlying108 inf110 fun b38 => ?_
 refine st_bs0 Tryz.underlying108 inf110 fun b39 => ?_
 refine st_buildSlice (cells := [.slice (some ⟨b37, 0, none⟩) 4 4, .slice (some ⟨b38, 0, none⟩) 0 0, .slice (some ⟨b39, 0, none⟩) 0 0]) rfl Tryz.underlying22 inf108 rfl rfl (by kernel_rfl) (ltn rfl) fun b40 => ?_
 refine sV (vA rfl) (sN (nK [0, 1] rfl (nT (cS (cR (sV (vM rfl) (st_pv (pv_pack (L := [pt b37 (cl (mC (1, 1, 0) ++ mC (3, 1, 1) ++ mC (4, 1, 2) ++ mC (2, 0, 0)) 110), pt b40 (cl [.slice (some ⟨b37, 0, none⟩) 4 4, .slice (some ⟨b38, 0, none⟩) 0 0, .slice (some ⟨b39, 0, none⟩) 0 0] 108)])) ?_)))))))
 have hJ1 : Row (Res.star [pt b37 (cl (mC (1, 1, 0) ++ mC (3, 1, 1) ++ mC (4, 1, 2) ++ mC (2, 0, 0)) 110), pt b40 (cl [.slice (some ⟨b37, 0, none⟩) 4 4, .slice (some ⟨b38, 0, none⟩) 0 0, .slice (some ⟨b39, 0, none⟩) 0 0] 108)]) 1 (jobR _) (.slice (some ⟨b40, 0, none⟩) 3 3) exJ1 :=
  jobs_row (vs := [.slice (some ⟨b37, 0, none⟩) 4 4, .slice (some ⟨b38, 0, none⟩) 0 0, .slice (some ⟨b39, 0, none⟩) 0 0]) (rd_ptm (T := 108) (.tail _ (.head _))) rfl rfl (by decide)
   (List.forall_mem_cons.2 ⟨row_ptm (.head _) rfl rfl (by decide), List.forall_mem_cons.2 ⟨row_empty, List.forall_mem_cons.2 ⟨row_empty, fun _ h => nomatch h⟩⟩⟩)
 refine st_cl rfl rfl en14 rfl (new_ct hJ1 exFits1 (by unfold I64; decide)) ?_
 rintro u h' ⟨T1, rfl, ys1, rfl, hy1⟩
 rw [ex_chk.1]
 rw [exN1] at hy1
 obtain ⟨ja1, pa1, rfl, hc1, hc2⟩ := yardR_cells hy1
 refine sV (vM rfl) (sV (v_extract rfl rfl) (sV (v_extract rfl rfl) (st_alc al27 fun b2 => ?_)))
 refine st_stoW rfl rfl sz27 rfl (by simp [hc1, hc2]) ?_
 refine sV (vA rfl) (sN (nK [0, 2, 3] rfl (nT (cS (cR (sV (v_ldn rfl ld27 rfl rds_pt) ?_))))))
 refine st_cl rfl rfl en22 rfl (Ready_ct hy1 (exFit (by decide))) ?_
 rintro u h' ⟨T2, rfl, v2, rfl, hT2⟩
 subst hT2
 rw [exRdy]
 refine sV (vM rfl) (sV (v_extract rfl rfl) (sV (v_extract rfl rfl) (sV (vA rfl) (sV (vA rfl) (sN (nK [0, 2, 3, 4, 5] rfl (nT (cS (cR (sV (v_ldn rfl ld27 rfl rds_pt) ?_))))))))))
 refine st_buildSlice (cells := [.int .i64 0, .int .i64 0, .int .i64 0, .int .i64 0]) rfl Tryz.underlying43 inf3 rfl rfl (by kernel_rfl) (ltn rfl) fun b53 => ?_
 refine st_cl rfl rfl en31 rfl (ctn_star (Run_ct (S := Res.star [T1, pt b53 (cl [.int .i64 0, .int .i64 0, .int .i64 0, .int .i64 0] 3)]) (picks := [0, 0, 0, 0]) (hy1.mono (rd_in .here)) (exFit (by decide)) (fun _ => exLive 0 (by decide)) (by decide) ((row_pt (C := iC) (sz := 1) (l := [0, 0, 0, 0]) (n := 4) rfl (by simp [iC]) rfl (by decide)).mono (rd_in (.there .here)) fun _ _ _ h => h) zeros)) ?_
 rintro u h' ⟨T3, rfl, ys3, rfl, hy3⟩
 rw [exRun] at hy3 ⊢
 obtain ⟨ja3, pa3, rfl, hc1, hc2⟩ := yardR_cells hy3
 refine sV (vM rfl) (sV (v_extract rfl rfl) (sV (v_extract rfl rfl) (st_alc al27 fun b6 => ?_)))
 refine st_stoW rfl rfl sz27 rfl (by simp [hc1, hc2]) ?_
 refine sV (vA rfl) (sN (nK [0, 2, 3, 4, 5, 6, 7] rfl (nT (cS (cR (sV (v_ldn rfl ld27 rfl rds_pt) ?_))))))
 refine st_cl rfl rfl en22 rfl (Ready_ct hy3 (exFit (by decide))) ?_
 rintro u h' ⟨T4, rfl, v4, rfl, hT4⟩
 subst hT4
 rw [exRdy2]
 refine sV (vM rfl) (sV (v_extract rfl rfl) (sV (v_extract rfl rfl) (sV (vA rfl) (sV (vA rfl) (sN (nK [0, 2, 3, 4, 5, 7, 9] rfl (nT (cS (cS (cR (sV (vM rfl) (sV (v_neq rfl rfl) (sV (vM rfl) (sG rfl rfl (vM rfl) (sG rfl rfl (v_neq rfl rfl) ?_)))))))))))))))
 refine sV (vP rfl rfl) (sV (vM rfl) (sG rfl rfl (vM rfl) (sG rfl rfl (v_neq rfl rfl) (sV (vP rfl rfl) (sV (vM rfl) (sG rfl rfl (vM rfl) (sG rfl rfl (v_neq rfl rfl) (sV (vP rfl rfl) (sV (vM rfl) (sG rfl rfl (vM rfl) (st_grd rfl rfl (st_buildSlice (cells := [.int .i64 0]) rfl Tryz.underlying43 inf3 rfl rfl (by kernel_rfl) (ltn rfl) fun b78 => ?_))))))))))))
 refine st_ok (r := VR v2 3 1 ([0].map iC)) slq fun hk2 => ?_
 refine st_grd rfl rfl (st_cl rfl rfl en28 rfl (reads_star (same28_ct (S := Res.star [VR v2 3 1 ([0].map iC), pt b78 (cl [.int .i64 0] 3)]) (l := [0]) (l' := [0]) (vr_rowS (.head _) hk2) (pt_rowS (.tail _ (.head _)) rfl (by simp [iC]) rfl (by decide)) (by decide))) ?_)
 rintro u h' ⟨rfl, rfl⟩
 refine sG rfl rfl (v_not rfl) (sV (vP rfl rfl) (sN (nK [0, 2, 3, 81] rfl (nT (cd_false rfl ?_)))))
 refine cK (xT (cS (cS (cR (sV (vA rfl) (sN (nK [0, 2, 3, 10] rfl (nT (cB (cd_lp (σ := Nat × Value × Value × Res) (fun q => [(2, .pointer (some ⟨b2, 0, none⟩)), (3, .int .i64 0), (10, .int .i64 (q.1 : Nat))]) (fun q => pt b2 (cl [q.2.1, q.2.2.1] 27) :: q.2.2.2 :: hr) (fun q => q.1 ≤ 4 ∧ yardR q.2.2.2 [q.2.1, q.2.2.1] (exY q.1)) (fun q => 4 - q.1) (0, ja1, pa1, T1) ⟨Nat.zero_le _, hy1⟩ ?_))))))))))
 rintro ⟨k, ja, pa, T⟩ ⟨hk, hy⟩
 simp only at hk hy
 dsimp only
 refine cS (cS (cR (sV (vM rfl) (sV (v_lss rfl rfl) (sV (vM rfl) (st_cut (k := 6) (d := 87) (v := .bool (decide (((k : Nat) : Int) < 4) && ((0 : Int) == 0))) (fun hcut => bool_want (b := decide (((k : Nat) : Int) < 4)) true (fun hg => ?_) (fun hg => ?_)) ?_))))))
 ·refine st_sk rfl rfl hg ?_
  refine st_sk rfl rfl hg ?_
  refine sV (vP (bE rfl hg) rfl) ?_
  exact hcut _ (uH (by first | rfl | (rw [hg]; rfl) | simp_all) (uS rfl (uS rfl (uR))))
 ·skip
  refine sG rfl (bG rfl hg) (vM rfl) (sG rfl (bG rfl hg) (v_eql rfl rfl) (sV (vQ (bE rfl hg) rfl) ?_))
  exact hcut _ (uH (by first | rfl | (rw [hg]; rfl) | simp_all) (uS rfl (uS rfl (uR))))
 refine sN (nK [2, 3, 10, 87] rfl (nT (cC rfl (fun hd => ?_) (fun hd => ?_))))
 ·skip
  have hk4 : k < 4 := by
   rw [Bool.and_eq_true] at hd
   have := of_decide_eq_true hd.1
   omega
  refine cK (xT (cS (cB (cR (sV (v_ldn rfl ld27 rfl rds_pt) ?_)))))
  refine st_cl rfl rfl en34 rfl (Step_ct hy (exFit hk) (exMade hk) 0) ?_
  rintro u h' ⟨T5, rfl, ys5, rfl, hy5⟩
  rw [exStep k hk4] at hy5 ⊢
  obtain ⟨ja5, pa5, rfl, hc1, hc2⟩ := yardR_cells hy5
  refine sV (vM rfl) (sV (v_extract rfl rfl) (sV (v_extract rfl rfl) (st_stoW rfl rfl sz27 rfl (by simp [hc1, hc2]) ?_)))
  refine sV (vA rfl) (sN (nK [2, 3, 10] rfl (nx_xt (xB (xT (cR (sV (vM rfl) (sV (v_add rfl rfl (by unfold I64 at *; omega)) (sV (vA rfl) (sN (nK [2, 3, 10] rfl (nx_xt ?_))))))))))))
  refine xt_ag (k + 1, ja5, pa5, T5) ⟨hk4, hy5⟩ (by show _ - _ < _ - _; omega)
 ·skip
  have hk4 : k = 4 := by
   have h0 : ¬ ((k : Nat) : Int) < 4 := fun h => by rw [decide_eq_true h] at hd; exact absurd hd (by decide)
   omega
  subst hk4
  refine cd_exit (xE (xE (xY (xT (cS (cR (sV (v_ldn rfl ld27 rfl rds_pt) ?_)))))))
  refine st_clr rfl rfl en20 rfl (State_ct hy (exFit (by decide)) 0) ?_
  rw [exSt.1]
  refine sV (vM rfl) (sV (v_extract rfl rfl) (sV (v_extract rfl rfl) (sV (vA rfl) (sV (vA rfl) (sN (nK [2, 3, 11, 12] rfl (nT (cS (cR (sV (v_ldn rfl ld27 rfl rds_pt) ?_))))))))))
  refine st_clr rfl rfl en20 rfl (State_ct hy (exFit (by decide)) 1) ?_
  rw [exSt.2]
  refine sV (vM rfl) (sV (v_extract rfl rfl) (sV (v_extract rfl rfl) (sV (vA rfl) (sV (vA rfl) (sN (nK [2, 3, 11, 12, 13, 14] rfl (nT (cS (cR (sV (v_ldn rfl ld27 rfl rds_pt) ?_))))))))))
  refine st_cl rfl rfl en52 rfl (Finish_ct (steps := 100) hy (exFit (by decide)) (fun _ => exLive 4 (by decide)) (by decide)) ?_
  rintro u h' ⟨T6, rfl, ys6, rfl, hy6⟩
  rw [exFin1] at hy6 ⊢
  obtain ⟨ja6, pa6, rfl, hc1, hc2⟩ := yardR_cells hy6
  refine sV (vM rfl) (sV (v_extract rfl rfl) (sV (v_extract rfl rfl) (st_stoW rfl rfl sz27 rfl (by simp [hc1, hc2]) ?_)))
  refine sV (vA rfl) (sN (nK [2, 3, 11, 12, 13, 14, 15] rfl (nT (cS (cR (sV (v_ldn rfl ld27 rfl rds_pt) ?_))))))
  refine st_clr rfl rfl en24 rfl (Ended_ct hy6 (exLZ1.fit (by decide))) ?_
  rw [exEnd]
  refine sV (vM rfl) (sV (v_extract rfl rfl) (sV (v_extract rfl rfl) (sV (vA rfl) (sV (vA rfl) (sN (nK [2, 3, 11, 12, 13, 14, 15, 16, 17] rfl (nT (cS (cR (sV (v_ldn rfl ld27 rfl rds_pt) ?_))))))))))
  refine st_cl rfl rfl en38 rfl (Orders_ct hy6 (exLZ1.fit (by decide))) ?_
  rintro u h' ⟨T7, rfl, v7, rfl, hr7⟩
  rw [exOrd] at hr7 ⊢
  obtain ⟨o7, c7, rfl, _⟩ := id hr7
  refine sV (vM rfl) (sV (v_extract rfl rfl) (sV (v_extract rfl rfl) (sV (vA rfl) (sV (vA rfl) (sN (nK [2, 3, 11, 12, 13, 14, 15, 16, 17, 18, 19] rfl (nT (cS (cR (sV (v_ldn rfl ld27 rfl rds_pt) ?_))))))))))
  refine st_cl rfl rfl en26 rfl (Blocks_ct hy6 (exLZ1.fit (by decide)) 1) ?_
  rintro u h' ⟨T8, rfl, v8, rfl, hr8⟩
  rw [exBlk1] at hr8 ⊢
  obtain ⟨o8, c8, rfl, _⟩ := id hr8
  refine sV (vM rfl) (sV (v_extract rfl rfl) (sV (v_extract rfl rfl) (sV (vA rfl) (sV (vA rfl) (sN (nK [2, 3, 11, 12, 13, 14, 15, 16, 17, 18, 19, 20, 21] rfl (nT (cS (cS (cR (sV (vM rfl) (sV (v_neq rfl rfl) (sV (vM rfl) (sG rfl rfl (vM rfl) (sG rfl rfl (v_neq rfl rfl) ?_)))))))))))))))
  refine sV (vP rfl rfl) (sV (vM rfl) (sG rfl rfl (vM rfl) (sG rfl rfl (v_neq rfl rfl) (sV (vP rfl rfl) (sV (vM rfl) (sG rfl rfl (vM rfl) (sG rfl rfl (v_neq rfl rfl) (sV (vP rfl rfl) (sV (vM rfl) (sG rfl rfl (vM rfl) (sG rfl rfl (v_neq rfl rfl) (sV (vP rfl rfl) (sV (vM rfl) ?_)))))))))))))
  refine sG rfl rfl (vM rfl) (sG rfl rfl (v_neq rfl rfl) (sV (vP rfl rfl) (sV (vM rfl) (sG rfl rfl (vM rfl) (sG rfl rfl (v_neq rfl rfl) (sV (vP rfl rfl) (sV (vM rfl) (sG rfl rfl (vM rfl) (sG rfl rfl (v_neq rfl rfl) (sV (vP rfl rfl) (sV (vM rfl) (sG rfl rfl (vM rfl) (sG rfl rfl (v_neq rfl rfl) ?_)))))))))))))
  refine sV (vP rfl rfl) (sV (vM rfl) (sG rfl rfl (vM rfl) (sG rfl rfl (v_not rfl) (sV (vP rfl rfl) (sV (vM rfl) (sG rfl rfl (vM rfl) (sG rfl rfl (v_len rfl Tryz.underlying92) (sG rfl rfl (v_neq rfl rfl) (sV (vP rfl rfl) (sV (vM rfl) (sG rfl rfl (vM rfl) (sG rfl rfl (v_len rfl Tryz.underlying54) (sG rfl rfl (v_neq rfl rfl) ?_)))))))))))))
  refine sV (vP rfl rfl) (sN (nK [2, 18, 20, 172] rfl (nT (cd_false rfl ?_))))
  refine cK (xT (cS (cR (sV (vM rfl) ?_))))
  obtain ⟨ob, oo, oc, ou, hov, hrdo, ov, hou, hO⟩ := hr7.at1 (i := 1) (x := [(0, 1)]) rfl
  simp only [List.cons.injEq, and_true] at hou
  subst hou
  obtain ⟨ob2, oo2, oc2, ou2, hov2, hrdo2, ov2, hou2, hO2⟩ := hr7.at1 (i := 0) (x := [(0, 0)]) rfl
  simp only [List.cons.injEq, and_true] at hou2
  subst hou2
  obtain ⟨bb, bo, bc, bu, hbv, hrdb, bv, hbu, hB⟩ := hr8.at1 (i := 0) (x := [((0, 1), 1, false, false), ((0, 1), 2, false, false)]) rfl
  simp only [List.cons.injEq, and_true] at hbu
  subst hbu
  refine sV (vI (k := 1) (congrArg some hov) rfl sl92 rfl (by decide) rfl) ?_
  refine sV (vY rfl ld74) ?_
  refine sV (v_build (cells := kC (0, 1)) rfl (fun _ => by kernel_rfl)) ?_
  refine st_buildSlice (cells := kC (0, 1)) rfl Tryz.underlying74 inf79 rfl rfl (by kernel_rfl) (ltn rfl) fun b177 => ?_
  refine st_cl rfl rfl en42 rfl (reads_star (same42_ct (S := Res.star [T7, pt b177 (cl (kC (0, 1)) 79)]) (l := [(0, 1)]) (l' := [(0, 1)]) (hO.mono (rd_in .here) fun _ _ _ h => h) (pt_rowS (.tail _ (.head _)) rfl (by simp [kC]) rfl (by decide)) (by decide))) ?_
  rintro u h' ⟨rfl, rfl⟩
  refine sV (vM rfl) (sG rfl rfl (vM rfl) (sG rfl rfl (vI (k := 0) (congrArg some hov2) rfl sl92 rfl (by decide) rfl) ?_))
  refine sG rfl rfl (vY rfl ld74) ?_
  refine sG rfl rfl (v_build (cells := kC (0, 0)) rfl (fun _ => by kernel_rfl)) ?_
  refine st_grd rfl rfl (st_buildSlice (cells := kC (0, 0)) rfl Tryz.underlying74 inf79 rfl rfl (by kernel_rfl) (ltn rfl) fun b184 => ?_)
  refine st_grd rfl rfl (st_cl rfl rfl en42 rfl (reads_star (same42_ct (S := Res.star [T7, pt b184 (cl (kC (0, 0)) 79)]) (l := [(0, 0)]) (l' := [(0, 0)]) (hO2.mono (rd_in .here) fun _ _ _ h => h) (pt_rowS (.tail _ (.head _)) rfl (by simp [kC]) rfl (by decide)) (by decide))) ?_)
  rintro u h' ⟨rfl, rfl⟩
  refine sV (vQ rfl rfl) (sV (vM rfl) (sG rfl rfl (vM rfl) (sG rfl rfl (vI (k := 0) (congrArg some hbv) rfl sl54 rfl (by decide) rfl) ?_)))
  refine sG rfl rfl (vY rfl ld62) ?_
  refine sG rfl rfl (v_build (cells := kC (0, 1)) rfl (fun _ => by kernel_rfl)) ?_
  refine sG rfl rfl (v_build (cells := dC ((0, 1), 1, false, false)) rfl (fun _ => by kernel_rfl)) ?_
  refine sG rfl rfl (v_build (cells := kC (0, 1)) rfl (fun _ => by kernel_rfl)) ?_
  refine sG rfl rfl (v_build (cells := dC ((0, 1), 2, false, false)) rfl (fun _ => by kernel_rfl)) ?_
  refine st_grd rfl rfl (st_buildSlice (cells := dC ((0, 1), 1, false, false) ++ dC ((0, 1), 2, false, false)) rfl Tryz.underlying62 inf81 rfl rfl (by kernel_rfl) (ltn rfl) fun b195 => ?_)
  refine st_grd rfl rfl (st_cl rfl rfl en29 rfl (reads_star (same29_ct (S := Res.star [T8, pt b195 (cl (dC ((0, 1), 1, false, false) ++ dC ((0, 1), 2, false, false)) 81)]) (l := [((0, 1), 1, false, false), ((0, 1), 2, false, false)]) (l' := [((0, 1), 1, false, false), ((0, 1), 2, false, false)]) (hB.mono (rd_in .here) fun _ _ _ h => h) (pt_rowS (.tail _ (.head _)) rfl (by simp [dC]) rfl (by decide)) (by decide))) ?_)
  rintro u h' ⟨rfl, rfl⟩
  refine sV (vQ rfl rfl) (sV (vA rfl) (sN (nK [2, 22] rfl (nT (cS (cR (st_clr rfl rfl en53 rfl (mspawn_ct 1 1) ?_)))))))
  refine st_clr rfl rfl en53 rfl (mspawn_ct 2 2) ?_
  refine st_buildSlice (cells := mC (5, 1, 1) ++ mC (5, 2, 2)) rfl Tryz.underlying108 inf110 rfl rfl (by kernel_rfl) (ltn rfl) fun b201 => ?_
  refine st_clr rfl rfl en48 rfl (menter_ct 2) ?_
  refine st_clr rfl rfl en50 rfl (mask_ct 2 3) ?_
  refine st_clr rfl rfl en51 rfl (mleave_ct ()) ?_
  refine st_buildSlice (cells := mC (1, 2, 0) ++ mC (4, 2, 3) ++ mC (2, 0, 0)) rfl Tryz.underlying108 inf110 rfl rfl (by kernel_rfl) (ltn rfl) fun b205 => ?_
  refine st_clr rfl rfl en48 rfl (menter_ct 1) ?_
  refine st_clr rfl rfl en50 rfl (mask_ct 1 3) ?_
  refine st_clr rfl rfl en51 rfl (mleave_ct ()) ?_
  refine st_buildSlice (cells := mC (1, 1, 0) ++ mC (4, 1, 3) ++ mC (2, 0, 0)) rfl Tryz.underlying108 inf110 rfl rfl (by kernel_rfl) (ltn rfl) fun b209 => ?_
  refine st_bs0 Tryz.underlying108 inf110 fun b210 => ?_
  refine st_buildSlice (cells := [.slice (some ⟨b201, 0, none⟩) 2 2, .slice (some ⟨b205, 0, none⟩) 3 3, .slice (some ⟨b209, 0, none⟩) 3 3, .slice (some ⟨b210, 0, none⟩) 0 0]) rfl Tryz.underlying22 inf108 rfl rfl (by kernel_rfl) (ltn rfl) fun b211 => ?_
  refine st_pv (pv_pack (L := [pt b201 (cl (mC (5, 1, 1) ++ mC (5, 2, 2)) 110), pt b205 (cl (mC (1, 2, 0) ++ mC (4, 2, 3) ++ mC (2, 0, 0)) 110), pt b209 (cl (mC (1, 1, 0) ++ mC (4, 1, 3) ++ mC (2, 0, 0)) 110), pt b211 (cl [.slice (some ⟨b201, 0, none⟩) 2 2, .slice (some ⟨b205, 0, none⟩) 3 3, .slice (some ⟨b209, 0, none⟩) 3 3, .slice (some ⟨b210, 0, none⟩) 0 0] 108)])) ?_
  have hJ2 : Row (Res.star [pt b201 (cl (mC (5, 1, 1) ++ mC (5, 2, 2)) 110), pt b205 (cl (mC (1, 2, 0) ++ mC (4, 2, 3) ++ mC (2, 0, 0)) 110), pt b209 (cl (mC (1, 1, 0) ++ mC (4, 1, 3) ++ mC (2, 0, 0)) 110), pt b211 (cl [.slice (some ⟨b201, 0, none⟩) 2 2, .slice (some ⟨b205, 0, none⟩) 3 3, .slice (some ⟨b209, 0, none⟩) 3 3, .slice (some ⟨b210, 0, none⟩) 0 0] 108)]) 1 (jobR _) (.slice (some ⟨b211, 0, none⟩) 4 4) exJ2 :=
   jobs_row (vs := [.slice (some ⟨b201, 0, none⟩) 2 2, .slice (some ⟨b205, 0, none⟩) 3 3, .slice (some ⟨b209, 0, none⟩) 3 3, .slice (some ⟨b210, 0, none⟩) 0 0]) (rd_ptm (T := 108) (.tail _ (.tail _ (.tail _ (.head _))))) rfl rfl (by decide) (List.forall_mem_cons.2 ⟨row_ptm (.head _) rfl rfl (by decide), List.forall_mem_cons.2 ⟨row_ptm (.tail _ (.head _)) rfl rfl (by decide), List.forall_mem_cons.2 ⟨row_ptm (.tail _ (.tail _ (.head _))) rfl rfl (by decide), List.forall_mem_cons.2 ⟨row_empty, fun _ h => nomatch h⟩⟩⟩⟩)
  refine st_cl rfl rfl en14 rfl (new_ct hJ2 exFits2 (by unfold I64; decide)) ?_
  rintro u h' ⟨T9, rfl, ys9, rfl, hy9⟩
  rw [ex_chk.2.1]
  rw [exN2] at hy9
  obtain ⟨ja9, pa9, rfl, hc1, hc2⟩ := yardR_cells hy9
  refine sV (vM rfl) (sV (v_extract rfl rfl) (sV (v_extract rfl rfl) (st_stoW rfl rfl sz27 rfl (by simp [hc1, hc2]) ?_)))
  refine sV (vA rfl) (sN (nK [2, 22, 23] rfl (nT (cS (cR (sV (v_ldn rfl ld27 rfl rds_pt) ?_))))))
  refine st_cl rfl rfl en52 rfl (Finish_ct (steps := 100) hy9 ((Live.new (n := 3) (jobs := exJ2) ex_chk.2.1).fit (by decide)) (fun _ => Live.new (n := 3) (jobs := exJ2) ex_chk.2.1) (by decide)) ?_
  rintro u h' ⟨T10, rfl, ys10, rfl, hy10⟩
  rw [exFin2] at hy10 ⊢
  obtain ⟨ja10, pa10, rfl, hc1, hc2⟩ := yardR_cells hy10
  refine sV (vM rfl) (sV (v_extract rfl rfl) (sV (v_extract rfl rfl) (st_stoW rfl rfl sz27 rfl (by simp [hc1, hc2]) ?_)))
  refine sV (vA rfl) (sN (nK [2, 22, 23, 24] rfl (nT (cS (cR (sV (v_ldn rfl ld27 rfl rds_pt) ?_))))))
  refine st_cl rfl rfl en32 rfl (Ring_ct hy10 (exLZ2.fit (by decide))) ?_
  rintro u h' ⟨T11, rfl, v11, rfl, hT11⟩
  subst hT11
  rw [exRing]
  refine sV (vM rfl) (sV (v_extract rfl rfl) (sV (v_extract rfl rfl) (sV (v_extract rfl rfl) (sV (vA rfl) (sV (vA rfl) (sV (vA rfl) (sN (nK [22, 23, 24, 25, 26, 27] rfl (nT (cS (cR (st_clr rfl rfl en48 rfl (menter_ct 1) ?_))))))))))))
  refine st_clr rfl rfl en49 rfl (mput_ct 1 1) ?_
  refine st_clr rfl rfl en49 rfl (mput_ct 1 2) ?_
  refine st_clr rfl rfl en50 rfl (mask_ct 1 2) ?_
  refine st_clr rfl rfl en51 rfl (mleave_ct ()) ?_
  refine st_buildSlice (cells := mC (1, 1, 0) ++ mC (3, 1, 1) ++ mC (3, 1, 2) ++ mC (4, 1, 2) ++ mC (2, 0, 0)) rfl Tryz.underlying108 inf110 rfl rfl (by kernel_rfl) (ltn rfl) fun b232 => ?_
  refine sV (v_build (cells := mC (6, 0, 0)) rfl (fun _ => by kernel_rfl)) ?_
  refine st_buildSlice (cells := mC (6, 0, 0)) rfl Tryz.underlying108 inf110 rfl rfl (by kernel_rfl) (ltn rfl) fun b234 => ?_
  refine st_bs0 Tryz.underlying108 inf110 fun b235 => ?_
  refine st_buildSlice (cells := [.slice (some ⟨b232, 0, none⟩) 5 5, .slice (some ⟨b234, 0, none⟩) 1 1, .slice (some ⟨b235, 0, none⟩) 0 0]) rfl Tryz.underlying22 inf108 rfl rfl (by kernel_rfl) (ltn rfl) fun b236 => ?_
  refine st_pv (pv_pack (L := [pt b232 (cl (mC (1, 1, 0) ++ mC (3, 1, 1) ++ mC (3, 1, 2) ++ mC (4, 1, 2) ++ mC (2, 0, 0)) 110), pt b234 (cl (mC (6, 0, 0)) 110), pt b236 (cl [.slice (some ⟨b232, 0, none⟩) 5 5, .slice (some ⟨b234, 0, none⟩) 1 1, .slice (some ⟨b235, 0, none⟩) 0 0] 108)])) ?_
  have hJ3 : Row (Res.star [pt b232 (cl (mC (1, 1, 0) ++ mC (3, 1, 1) ++ mC (3, 1, 2) ++ mC (4, 1, 2) ++ mC (2, 0, 0)) 110), pt b234 (cl (mC (6, 0, 0)) 110), pt b236 (cl [.slice (some ⟨b232, 0, none⟩) 5 5, .slice (some ⟨b234, 0, none⟩) 1 1, .slice (some ⟨b235, 0, none⟩) 0 0] 108)]) 1 (jobR _) (.slice (some ⟨b236, 0, none⟩) 3 3) exJ3 :=
   jobs_row (vs := [.slice (some ⟨b232, 0, none⟩) 5 5, .slice (some ⟨b234, 0, none⟩) 1 1, .slice (some ⟨b235, 0, none⟩) 0 0]) (rd_ptm (T := 108) (.tail _ (.tail _ (.head _)))) rfl rfl (by decide) (List.forall_mem_cons.2 ⟨row_ptm (.head _) rfl rfl (by decide), List.forall_mem_cons.2 ⟨row_ptm (.tail _ (.head _)) rfl rfl (by decide), List.forall_mem_cons.2 ⟨row_empty, fun _ h => nomatch h⟩⟩⟩)
  refine st_cl rfl rfl en14 rfl (new_ct hJ3 exFits3 (by unfold I64; decide)) ?_
  rintro u h' ⟨T12, rfl, ys12, rfl, hy12⟩
  rw [ex_chk.2.2]
  rw [exN3] at hy12
  obtain ⟨ja12, pa12, rfl, hc1, hc2⟩ := yardR_cells hy12
  refine sV (vM rfl) (sV (v_extract rfl rfl) (sV (v_extract rfl rfl) (st_alc al27 fun b28 => ?_)))
  refine st_stoW rfl rfl sz27 rfl (by simp [hc1, hc2]) ?_
  refine sV (vA rfl) (sN (nK [22, 23, 24, 25, 26, 27, 28, 29] rfl (nT (cS (cR (sV (v_ldn rfl ld27 rfl rds_pt) ?_))))))
  refine st_cl rfl rfl en52 rfl (Finish_ct (steps := 100) hy12 ((Live.new (n := 2) (jobs := exJ3) ex_chk.2.2).fit (by decide)) (fun _ => Live.new (n := 2) (jobs := exJ3) ex_chk.2.2) (by decide)) ?_
  rintro u h' ⟨T13, rfl, ys13, rfl, hy13⟩
  rw [exFin3] at hy13 ⊢
  obtain ⟨ja13, pa13, rfl, hc1, hc2⟩ := yardR_cells hy13
  refine sV (vM rfl) (sV (v_extract rfl rfl) (sV (v_extract rfl rfl) (st_stoW rfl rfl sz27 rfl (by simp [hc1, hc2]) ?_)))
  refine sV (vA rfl) (sN (nK [22, 23, 24, 25, 26, 27, 28, 29, 30] rfl (nT (cS (cR (sV (v_ldn rfl ld27 rfl rds_pt) ?_))))))
  refine st_cl rfl rfl en26 rfl (Blocks_ct hy13 (exLZ3.fit (by decide)) 1) ?_
  rintro u h' ⟨T14, rfl, v14, rfl, hr14⟩
  rw [exBlk3] at hr14 ⊢
  obtain ⟨o14, c14, rfl, _⟩ := id hr14
  refine sV (vM rfl) (sV (v_extract rfl rfl) (sV (v_extract rfl rfl) (sV (vA rfl) (sV (vA rfl) (sN (nK [22, 23, 24, 25, 26, 27, 29, 30, 31, 32] rfl (nT (cS (cS (cR (sV (vM rfl) (sV (v_neq rfl rfl) (sV (vM rfl) (sG rfl rfl (vM rfl) (sG rfl rfl (v_neq rfl rfl) ?_)))))))))))))))
  refine sV (vP rfl rfl) (sV (vM rfl) (sG rfl rfl (vM rfl) (sG rfl rfl (v_neq rfl rfl) (sV (vP rfl rfl) (sV (vM rfl) (sG rfl rfl (vM rfl) (sG rfl rfl (v_neq rfl rfl) (sV (vP rfl rfl) (sV (vM rfl) (sG rfl rfl (vM rfl) (sG rfl rfl (v_neq rfl rfl) (sV (vP rfl rfl) (sV (vM rfl) ?_)))))))))))))
  refine sG rfl rfl (vM rfl) (sG rfl rfl (v_neq rfl rfl) (sV (vP rfl rfl) (sV (vM rfl) (sG rfl rfl (vM rfl) (sG rfl rfl (v_not rfl) (sV (vP rfl rfl) (sV (vM rfl) (sG rfl rfl (vM rfl) (sG rfl rfl (v_len rfl Tryz.underlying54) (sG rfl rfl (v_neq rfl rfl) (sV (vP rfl rfl) (sN (nK [22, 25, 31, 280] rfl (nT (cd_false rfl ?_)))))))))))))))
  refine cK (xT (cS (cR (sV (vM rfl) (sV (vM rfl) (sG rfl rfl (vM rfl) (st_grd rfl rfl (st_buildSlice (cells := [.int .i64 1, .int .i64 2]) rfl Tryz.underlying43 inf3 rfl rfl (by kernel_rfl) (ltn rfl) fun b284 => ?_))))))))
  refine st_ok (r := VR v11 3 1 ([1, 2].map iC)) slq fun hk11 => ?_
  refine st_grd rfl rfl (st_cl rfl rfl en28 rfl (reads_star (same28_ct (S := Res.star [VR v11 3 1 ([1, 2].map iC), pt b284 (cl [.int .i64 1, .int .i64 2] 3)]) (l := [1, 2]) (l' := [1, 2]) (vr_rowS (.head _) hk11) (pt_rowS (.tail _ (.head _)) rfl (by simp [iC]) rfl (by decide)) (by decide))) ?_)
  rintro u h' ⟨rfl, rfl⟩
  refine sV (vQ rfl rfl) (sV (vM rfl) (sG rfl rfl (vM rfl) ?_))
  obtain ⟨bb3, bo3, bc3, bu3, hbv3, hrdb3, bv3, hbu3, hB3⟩ := hr14.at1 (i := 0) (x := [((0, 1), 1, false, true), ((0, 1), 2, true, false), ((0, 1), 2, true, false)]) rfl
  simp only [List.cons.injEq, and_true] at hbu3
  subst hbu3
  refine sG rfl rfl (vI (k := 0) (congrArg some hbv3) rfl sl54 rfl (by decide) rfl) ?_
  refine sG rfl rfl (vY rfl ld62) ?_
  refine sG rfl rfl (v_build (cells := kC (0, 1)) rfl (fun _ => by kernel_rfl)) ?_
  refine sG rfl rfl (v_build (cells := dC ((0, 1), 1, false, true)) rfl (fun _ => by kernel_rfl)) ?_
  refine sG rfl rfl (v_build (cells := kC (0, 1)) rfl (fun _ => by kernel_rfl)) ?_
  refine sG rfl rfl (v_build (cells := dC ((0, 1), 2, true, false)) rfl (fun _ => by kernel_rfl)) ?_
  refine sG rfl rfl (v_build (cells := kC (0, 1)) rfl (fun _ => by kernel_rfl)) ?_
  refine sG rfl rfl (v_build (cells := dC ((0, 1), 2, true, false)) rfl (fun _ => by kernel_rfl)) ?_
  refine st_grd rfl rfl (st_buildSlice (cells := dC ((0, 1), 1, false, true) ++ dC ((0, 1), 2, true, false) ++ dC ((0, 1), 2, true, false)) rfl Tryz.underlying62 inf81 rfl rfl (by kernel_rfl) (ltn rfl) fun b297 => ?_)
  refine st_grd rfl rfl (st_cl rfl rfl en29 rfl (reads_star (same29_ct (S := Res.star [T14, pt b297 (cl (dC ((0, 1), 1, false, true) ++ dC ((0, 1), 2, true, false) ++ dC ((0, 1), 2, true, false)) 81)]) (l := [((0, 1), 1, false, true), ((0, 1), 2, true, false), ((0, 1), 2, true, false)]) (l' := [((0, 1), 1, false, true), ((0, 1), 2, true, false), ((0, 1), 2, true, false)]) (hB3.mono (rd_in .here) fun _ _ _ h => h) (pt_rowS (.tail _ (.head _)) rfl (by simp [dC]) rfl (by decide)) (by decide))) ?_)
  rintro u h' ⟨rfl, rfl⟩
  refine sV (vQ rfl rfl) (sV (vA rfl) (sN (nK [0] rfl (nT (cT ?_)))))
  exact xt_rt rfl ⟨rfl, rfl⟩
end Go.Wt
namespace Go.Wt
/-! ## Runs -/
inductive HYard.Go : Nat → HYard → HYard → Prop
 | nil (h : HYard) : HYard.Go 0 h h
 | cons {m i : Nat} {h g : HYard} : i < h.procs.length → (h.pr i).goes = true → (h.step i).now.full = false → HYard.Go m (h.step i) g → HYard.Go (m + 1) h g
def Kept (P : HYard → Prop) : Prop := ∀ h i, HInv h → P h → i < h.procs.length → (h.pr i).goes = true → P (h.step i)
theorem HYard.Go.keep {P : HYard → Prop} (hP : Kept P) : ∀ {m : Nat} {h g : HYard}, HYard.Go m h g → HInv h → P h → HInv g ∧ P g ∧ g.procs.length = h.procs.length ∧ g.jobs = h.jobs
 | _, _, _, .nil _, H, p => ⟨H, p, rfl, rfl⟩
 | _, h, _, .cons (i := i) hi hg _ hr, H, p => by
  obtain ⟨a, b, c, d⟩ := HYard.Go.keep hP hr (H.step hi hg) (hP h i H p hi hg)
  exact ⟨a, b, c.trans HYard.step_len, d.trans (by unfold HYard.step; exact HYard.aps_jobs)⟩
theorem HYard.Go.full {m : Nat} {h g : HYard} (r : HYard.Go m h g) (h0 : h.now.full = false) : g.now.full = false := by
 induction r with
 | nil => exact h0
 | cons _ _ hf _ ih => exact ih hf
theorem HYard.Go.keys {t m : Nat} {h g : HYard} (r : HYard.Go m h g) : HInv h → t < h.procs.length → (h.pr t).hl.map HLine.key <+: (g.pr t).hl.map HLine.key := by
 induction r with
 | nil => exact fun _ _ => List.prefix_refl _
 | @cons m i h g hi hg _ hr ih =>
  intro H ht
  have := ih (H.step hi hg) (by rw [HYard.step_len]; exact ht)
  rw [H.step_keys hi hg ht] at this
  exact (List.prefix_append _ _).trans this
theorem HYard.Go.run {o : Nat → List Key} {m : Nat} {h g : HYard} (r : HYard.Go m h g) : HInv h → (∀ t, t < h.procs.length → o t = (g.pr t).hl.map HLine.key) → HYard.Run o m h g := by
 induction r with
 | nil => exact fun _ _ => .nil _
 | @cons m i h g hi hg hf hr ih =>
  intro H ho
  refine .cons ⟨hi, hg, fun t ht => ?_⟩ (ih (H.step hi hg) fun t ht => ho t (by rw [HYard.step_len] at ht; exact ht))
  have htl := H.tgt_lt hi ht
  have hk := HYard.Go.keys hr (t := t) (H.step hi hg) (by rw [HYard.step_len]; exact htl)
  rw [H.step_keys hi hg htl, if_pos ht, ← ho t htl] at hk
  obtain ⟨r, hr⟩ := hk
  rw [← hr]
  simp
/-! ## A yard's own step -/
theorem now_goes (h : HYard) (i : Nat) : (h.now.pr i).goes = (h.pr i).goes := by rw [HYard.now_pr]; rfl
theorem now_ready (h : HYard) : h.now.ready = (List.range h.procs.length).filter fun i => (h.pr i).goes := by
 unfold Yard.ready
 rw [HYard.now_len]
 congr 1
 funext i
 exact now_goes h i
theorem mem_ready {h : HYard} {i : Nat} : i ∈ h.now.ready ↔ i < h.procs.length ∧ (h.pr i).goes = true := by
 rw [now_ready, List.mem_filter, List.mem_range]
def Reach (P : HYard → Prop) (y : Yard) : Prop := ∃ h : HYard, HInv h ∧ P h ∧ h.now = y ∧ y.full = false
/-! ## Replays -/
/-! ## What is played -/
def upick (p : Int) (k : Nat) : Nat := (p % 18446744073709551616).toNat % k
def grownAll (y z : Yard) : List Logd := (List.range z.procs.length).flatMap fun t => (grownE y z t).map fun x => (t, x)
def playI (y : Yard) : List Int → Nat
 | [] => y.ready.getD 0 0
 | p :: _ => y.ready.getD (upick p y.ready.length) 0
def playE : Nat → List Int → Yard → List Logd → Option (Yard × List Logd)
 | 0, _, _, _ => none
 | f + 1, picks, y, log =>
  if y.ready = [] then some (y, log)
  else
   let z := y.stepE (playI y picks)
   if z.2 = 0 then playE f picks.tail z.1 (log ++ grownAll y z.1) else none
end Go.Wt
namespace Go.Ck
open Go Go.RowKit Go.ChangeShapes Go.WideShapes
theorem cells_one {v : Value} (h : v.oneCell' = true) : v.cells.toList = [v] := by
 cases v <;> first | rfl | (simp [Value.oneCell'] at h)
theorem arg_one {H : Type} {enc : TypeId × Value → H} {P : Program} {W : World} {ty : Ty} {t : TypeId} {v : Value} {d : DataW H} {ps : List MemPlace} {b : Nat} (hf : fitB P ty t = true)
  (hs : (match P.underlying t with | some (.struct _) | some (.array _ _) => false | some _ => true | none => false) = true) (hv : Value.okWide P W .any b t v) (h : DataW.Trod enc P W 0 (fun _ => true) true t v d ps) : ∃ y, Rep (old W) ty [v] y := by
 have := arg_rep hf h
 rwa [cells_one (okWide_one hs hv)] at this
theorem rep_kind {k : IntKind} {r : Res} {v : Value} {n : Int} (h : Rep r (.int k) [v] n) : v = .int k n ∧ (Lit.int k n).wf = true := by
 simp only [Rep] at h
 exact ⟨by simpa using h.1, h.2⟩
theorem wf_I64 {n : Int} (h : (Lit.int .i64 n).wf = true) : I64 n := by
 unfold Lit.wf at h
 simp [IntKind.min, IntKind.max, IntKind.signed, IntKind.bits] at h
 unfold I64; omega
theorem row_of {α : Type} {r : Res} {t : Ty} {v : Value} (f : t.D → α) (X : List Value → α → Prop) (hX : ∀ us x, Rep r t us x → X us (f x)) {y : (Ty.slice t).D} (h : Rep r (.slice t) [v] y) : Row r t.sz X v ((show List t.D from y).map f) := by
 unfold Rep at h
 obtain ⟨a, cap, h1, hl, hm, hn, h2⟩ := h
 refine ⟨a, cap, by rw [List.length_map]; exact (List.cons.inj h1).1, by rw [List.length_map]; exact hl, hm, hn, fun i x hi => ?_⟩
 rw [List.getElem?_map] at hi
 cases hy : (show List t.D from y)[i]? with
 | none => rw [hy] at hi; cases hi
 | some z =>
  rw [hy] at hi
  obtain rfl := Option.some.inj hi
  rcases h2 with h0 | ⟨b, o, h3, h4⟩
  ·rw [show (show List t.D from y) = [] from h0] at hy; simp at hy
  ·obtain ⟨us, h5, h6, h7⟩ := h4 i z hy
   exact ⟨b, o, us, h3, h5, h6, hX _ _ h7⟩
theorem one_cell {us : List Value} (h : us.length = 1) : ∃ u, us = [u] := by
 match us, h with
 | [u], _ => exact ⟨u, rfl⟩
end Go.Ck
namespace Go.Wt
open Go Go.RowKit Go.ChangeShapes Go.WideShapes Go.Ck
def moveTy : Ty := .struct [.int .i64, .int .i64, .int .i64]
def moveOf (x : moveTy.D) : Move := (x.1, x.2.1, x.2.2.1)
theorem move_of {r : Res} {us : List Value} {x : moveTy.D} (h : Rep r moveTy us x) : eqC mC us (moveOf x) := by
 obtain ⟨x1, x2, x3, x4⟩ := x
 simp only [moveTy, Rep, Reps] at h
 obtain ⟨u1, us1, e1, l1, r1, u2, us2, e2, l2, r2, u3, us3, e3, l3, r3, r4⟩ := h
 obtain ⟨rfl, _⟩ := r1
 obtain ⟨rfl, _⟩ := r2
 obtain ⟨rfl, _⟩ := r3
 subst r4 e3 e2
 exact e1
def keyTy : Ty := .struct [.int .i64, .int .i64]
def keyOf (x : keyTy.D) : Key := (x.1, x.2.1)
theorem key_of {r : Res} {us : List Value} {x : keyTy.D} (h : Rep r keyTy us x) : eqC kC us (keyOf x) := by
 obtain ⟨x1, x2, x3⟩ := x
 simp only [keyTy, Rep, Reps] at h
 obtain ⟨u1, us1, e1, l1, r1, u2, us2, e2, l2, r2, r4⟩ := h
 obtain ⟨rfl, _⟩ := r1
 obtain ⟨rfl, _⟩ := r2
 subst r4 e2
 exact e1
def askTy : Ty := .struct [.int .i64, .bool]
def askOf (x : askTy.D) : Ask := (x.1, x.2.1)
theorem ask_of {r : Res} {us : List Value} {x : askTy.D} (h : Rep r askTy us x) : eqC aC us (askOf x) := by
 obtain ⟨x1, x2, x3⟩ := x
 simp only [askTy, Rep, Reps] at h
 obtain ⟨u1, us1, e1, l1, r1, u2, us2, e2, l2, r2, r4⟩ := h
 obtain ⟨rfl, _⟩ := r1
 subst r2 r4 e2
 exact e1
def holdTy : Ty := .struct [.int .i64, keyTy, .bool]
def holdOf (x : holdTy.D) : Hold := (x.1, keyOf x.2.1, x.2.2.1)
theorem hold_of {r : Res} {us : List Value} {x : holdTy.D} (h : Rep r holdTy us x) : eqC holdC us (holdOf x) := by
 obtain ⟨x1, x2, x3, x4⟩ := x
 simp only [holdTy, Rep, Reps] at h
 obtain ⟨u1, us1, e1, l1, r1, u2, us2, e2, l2, r2, u3, us3, e3, l3, r3, r4⟩ := h
 obtain ⟨rfl, _⟩ := r1
 have hk : u2 = kC (keyOf x2) := key_of r2
 subst r3 r4 e3 hk e2
 exact e1
def didTy : Ty := .struct [keyTy, .int .i64, .bool, .bool]
def didOf (x : didTy.D) : Did := (keyOf x.1, x.2.1, x.2.2.1, x.2.2.2.1)
theorem did_of {r : Res} {us : List Value} {x : didTy.D} (h : Rep r didTy us x) : eqC dC us (didOf x) := by
 obtain ⟨x1, x2, x3, x4, x5⟩ := x
 simp only [didTy, Rep, Reps] at h
 obtain ⟨u1, us1, e1, l1, r1, u2, us2, e2, l2, r2, u3, us3, e3, l3, r3, u4, us4, e4, l4, r4, r5⟩ := h
 have hk : u1 = kC (keyOf x1) := key_of r1
 obtain ⟨rfl, _⟩ := r2
 subst r3 r4 r5 e4 e3 hk e2
 exact e1
def lineTy : Ty := .struct [keyTy, .slice askTy, .bool, .bool]
def lineOf (x : lineTy.D) : Line := ⟨keyOf x.1, (show List askTy.D from x.2.1).map askOf, x.2.2.1, x.2.2.2.1⟩
theorem line_of {r : Res} {us : List Value} {x : lineTy.D} (h : Rep r lineTy us x) : lineR r us (lineOf x) := by
 obtain ⟨x1, x2, x3, x4, x5⟩ := x
 simp only [lineTy, Rep, Reps] at h
 obtain ⟨u1, us1, e1, l1, r1, u2, us2, e2, l2, r2, u3, us3, e3, l3, r3, u4, us4, e4, l4, r4, r5⟩ := h
 have hk : u1 = kC (keyOf x1) := key_of r1
 obtain ⟨a, rfl⟩ := one_cell l2
 have hr : Rep r (.slice askTy) [a] x2 := by simp only [askTy, Rep]; exact r2
 subst r3 r4 r5 e4 e3 hk e2
 exact ⟨a, e1, row_of askOf (eqC aC) (fun _ _ h => ask_of h) hr⟩
def procTy : Ty := .struct [.slice lineTy, .slice keyTy, .int .i64, .int .i64, .bool, .slice holdTy, .int .i64, .int .i64, .slice didTy]
def procOf (x : procTy.D) : Proc := ⟨(show List lineTy.D from x.1).map lineOf, (show List keyTy.D from x.2.1).map keyOf, x.2.2.1, x.2.2.2.1, x.2.2.2.2.1, (show List holdTy.D from x.2.2.2.2.2.1).map holdOf, x.2.2.2.2.2.2.1, x.2.2.2.2.2.2.2.1, (show List didTy.D from x.2.2.2.2.2.2.2.2.1).map didOf⟩
theorem proc_of {r : Res} {us : List Value} {x : procTy.D} (h : Rep r procTy us x) : procR r us (procOf x) := by
 obtain ⟨x1, x2, x3, x4, x5, x6, x7, x8, x9, x10⟩ := x
 simp only [procTy, Rep, Reps] at h
 obtain ⟨u1, us1, e1, l1, r1, h⟩ := h
 obtain ⟨u2, us2, e2, l2, r2, h⟩ := h
 obtain ⟨u3, us3, e3, l3, r3, h⟩ := h
 obtain ⟨u4, us4, e4, l4, r4, h⟩ := h
 obtain ⟨u5, us5, e5, l5, r5, h⟩ := h
 obtain ⟨u6, us6, e6, l6, r6, h⟩ := h
 obtain ⟨u7, us7, e7, l7, r7, h⟩ := h
 obtain ⟨u8, us8, e8, l8, r8, h⟩ := h
 obtain ⟨u9, us9, e9, l9, r9, h⟩ := h
 obtain ⟨a1, rfl⟩ := one_cell l1
 obtain ⟨a2, rfl⟩ := one_cell l2
 obtain ⟨a6, rfl⟩ := one_cell l6
 obtain ⟨a9, rfl⟩ := one_cell l9
 have s1 : Rep r (.slice lineTy) [a1] x1 := by simp only [Rep]; exact r1
 have s2 : Rep r (.slice keyTy) [a2] x2 := by simp only [Rep]; exact r2
 have s6 : Rep r (.slice holdTy) [a6] x6 := by simp only [Rep]; exact r6
 have s9 : Rep r (.slice didTy) [a9] x9 := by simp only [Rep]; exact r9
 have r3 := r3.1
 have r4 := r4.1
 have r7 := r7.1
 have r8 := r8.1
 subst h r3 r4 r5 r7 r8 e9 e8 e7 e6 e5 e4 e3 e2
 exact ⟨a1, a2, a6, a9, e1, row_of lineOf (lineR r) (fun _ _ h => line_of h) s1, row_of keyOf (eqC kC) (fun _ _ h => key_of h) s2, row_of holdOf (eqC holdC) (fun _ _ h => hold_of h) s6, row_of didOf (eqC dC) (fun _ _ h => did_of h) s9⟩
def jobTy : Ty := .slice moveTy
def jobOf (x : jobTy.D) : List Move := (show List moveTy.D from x).map moveOf
theorem job_of {r : Res} {us : List Value} {x : jobTy.D} (hl : us.length = 1) (h : Rep r jobTy us x) : jobR r us (jobOf x) := by
 obtain ⟨a, rfl⟩ := one_cell hl
 exact ⟨a, rfl, row_of moveOf (eqC mC) (fun _ _ h => move_of h) h⟩
theorem rep_len {r : Res} {t : Ty} {us : List Value} {x : (Ty.slice t).D} (h : Rep r (.slice t) us x) : us.length = 1 := by
 unfold Rep at h
 obtain ⟨a, cap, h1, _⟩ := h
 rw [h1]; rfl
def jobsOf (y : (Ty.slice jobTy).D) : List (List Move) := (show List jobTy.D from y).map jobOf
theorem jobs_of {r : Res} {v : Value} {y : (Ty.slice jobTy).D} (h : Rep r (.slice jobTy) [v] y) : Row r 1 (jobR r) v (jobsOf y) := row_of jobOf (jobR r) (fun us x h => job_of (rep_len (t := moveTy) h) h) h
def yardTy : Ty := .struct [.slice jobTy, .slice procTy]
def yardOf (x : yardTy.D) : Yard := ⟨jobsOf x.1, (show List procTy.D from x.2.1).map procOf⟩
theorem yard_of {r : Res} {us : List Value} {x : yardTy.D} (h : Rep r yardTy us x) : yardR r us (yardOf x) := by
 obtain ⟨x1, x2, x3⟩ := x
 simp only [yardTy, Rep, Reps] at h
 obtain ⟨u1, us1, e1, l1, r1, h⟩ := h
 obtain ⟨u2, us2, e2, l2, r2, h⟩ := h
 obtain ⟨a1, rfl⟩ := one_cell l1
 obtain ⟨a2, rfl⟩ := one_cell l2
 have s1 : Rep r (.slice jobTy) [a1] x1 := by simp only [Rep]; exact r1
 have s2 : Rep r (.slice procTy) [a2] x2 := by simp only [Rep]; exact r2
 subst h e2
 exact ⟨a1, a2, e1, jobs_of s1, row_of procOf (procR r) (fun _ _ h => proc_of h) s2⟩
def intsTy : Ty := .slice (.int .i64)
def keysOf (y : (Ty.slice (.slice keyTy)).D) : List (List Key) := (show List (Ty.slice keyTy).D from y).map fun l => (show List keyTy.D from l).map keyOf
def itemTy : Ty := .struct [.int .u8, .int .u8, .int .u8]
def itemOf (x : itemTy.D) : Item := ((show Int from x.1).toNat, (show Int from x.2.1).toNat, (show Int from x.2.2.1).toNat)
def itemC (x : Item) : List Value := [.int .u8 x.1, .int .u8 x.2.1, .int .u8 x.2.2]
end Go.Wt
namespace Go.Wt
open Go Go.Ck Go.Proofs Go.Proofs.YtboepbencndobaaGreat Fx
attribute [local irreducible] St Cd Xt Nx DrL LsW
def fewE (jobs : List (List Move)) : Bool :=
 (jobs.all fun l => !((decide (10 < (l.length : Int)) && decide ((l.length : Int) ≤ 20)) || decide (40 < (l.length : Int)))) && (decide ((jobs.length : Int) ≤ 8) || (decide (30 < (jobs.length : Int)) && decide ((jobs.length : Int) ≤ 40)))
theorem few_fits {jobs : List (List Move)} (h : fewE jobs = true) : jobs.length ≤ 40 ∧ ∀ l ∈ jobs, l.length ≤ 40 := by
 unfold fewE at h
 simp only [Bool.and_eq_true, Bool.or_eq_true, decide_eq_true_eq, List.all_eq_true, Bool.not_eq_true', Bool.or_eq_false_iff, decide_eq_false_iff_not] at h
 exact ⟨by omega, fun l hl => by have := (h.1 l hl).2; omega⟩
theorem few_Fits {jobs : List (List Move)} (h : fewE jobs = true) : Fits jobs := ⟨by have := (few_fits h).1; omega, fun l hl => by have := (few_fits h).2 l hl; omega⟩
section
variable {S : Res}
set_option maxRecDepth 100000 in
theorem few_ct {jv : Value} {jobs : List (List Move)} (hj : Row S 1 (jobR S) jv jobs) : Reads Tryz.prog 12 #[jv] [S] (.bool (fewE jobs)) := by
 obtain ⟨a, cap, hv1, _⟩ := id hj
 have hlen : (jobs.length : Int) ≤ 9223372036854775807 := by have := hj.lenle; unfold maxLen at this; omega
 refine ct_of (n := 45) Tryz.func12 rfl rfl (len rfl) fun hr w0 => ?_
 refine cS (cR (sV (vA rfl) (sN (nT (cS (cS (cR (sV (vA rfl) (sN (nT (cB (cd_lp (σ := Nat) (fun i => [(0, jv), (3, .int .i64 (i : Nat))]) (fun _ => S :: hr) (fun i => i ≤ jobs.length ∧ ∀ (j : Nat) l, j < i → jobs[j]? = some l → ((decide (10 < (l.length : Int)) && decide ((l.length : Int) ≤ 20)) || decide (40 < (l.length : Int))) = false) (fun i => jobs.length - i) 0 ⟨Nat.zero_le _, fun j l hj => by omega⟩ ?_))))))))))))
 rintro i ⟨hi, hne⟩
 refine cS (cS (cR (sV (vM rfl) (sV (vM rfl) (sV (v_len (congrArg some hv1) Tryz.underlying22) (sV (v_lss rfl rfl) (sN (nK [0, 3, 7] rfl (nT (cC rfl (fun hd => ?_) (fun hd => ?_)))))))))))
 ·skip
  have hlt : i < jobs.length := by simpa using hd
  obtain ⟨b, o, cp2, u, hv2, hrd, v, hu, hA⟩ := hj.at1 (List.getElem?_eq_getElem hlt)
  simp only [List.cons.injEq, and_true] at hu
  subst hu
  obtain ⟨aa, ac, rfl, _⟩ := id hA
  have hget : jobs[i]? = some jobs[i] := List.getElem?_eq_getElem hlt
  generalize hx : jobs[i] = x at *
  refine cK (xT (cS (cB (cS (cR (sV (vM rfl) (sV (vM rfl) (sV (vI (k := i) (congrArg some hv2) rfl sl22 rfl hlt rfl) (sV (vY rfl ld108) ?_)))))))))
  refine sV (v_len rfl Tryz.underlying108) (sV (v_gtr rfl rfl) (sV (vM rfl) (st_cut (k := 14) (d := 23) (v := .bool (decide (10 < (x.length : Int)) && decide ((x.length : Int) ≤ 20))) (fun hcut => bool_want (b := decide (10 < (x.length : Int))) true (fun hg => ?_) (fun hg => ?_)) ?_)))
  ·refine st_sk rfl rfl hg ?_
   iterate 5 refine st_sk rfl rfl hg ?_
   refine sV (vP (bE rfl hg) rfl) ?_
   exact hcut _ (uH (by first | rfl | (rw [hg]; rfl) | simp_all) (uS rfl (uS rfl (uS rfl (uS rfl (uS rfl (uS rfl (uR))))))))
  ·skip
   refine sG rfl (bG rfl hg) (vM rfl) (sG rfl (bG rfl hg) (vM rfl) (sG rfl (bG rfl hg) (vI (k := i) (congrArg some hv2) rfl sl22 rfl hlt rfl) (sG rfl (bG rfl hg) (vY rfl ld108) ?_)))
   refine sG rfl (bG rfl hg) (v_len rfl Tryz.underlying108) (sG rfl (bG rfl hg) (v_leq rfl rfl) (sV (vQ (bE rfl hg) rfl) ?_))
   exact hcut _ (uH (by first | rfl | (rw [hg]; rfl) | simp_all) (uS rfl (uS rfl (uS rfl (uS rfl (uS rfl (uS rfl (uR))))))))
  refine sV (vM rfl) (st_cut (k := 22) (d := 31) (v := .bool ((decide (10 < (x.length : Int)) && decide ((x.length : Int) ≤ 20)) || decide (40 < (x.length : Int)))) (fun hcut => bool_want (b := (decide (10 < (x.length : Int)) && decide ((x.length : Int) ≤ 20))) false (fun hg => ?_) (fun hg => ?_)) ?_)
  ·refine st_sk rfl rfl hg ?_
   iterate 5 refine st_sk rfl rfl hg ?_
   refine sV (vQ (bE rfl hg) rfl) ?_
   exact hcut _ (uH (by first | rfl | (rw [hg]; rfl) | simp_all) (uS rfl (uS rfl (uS rfl (uS rfl (uS rfl (uS rfl (uR))))))))
  ·skip
   refine sG rfl (bG rfl hg) (vM rfl) (sG rfl (bG rfl hg) (vM rfl) (sG rfl (bG rfl hg) (vI (k := i) (congrArg some hv2) rfl sl22 rfl hlt rfl) (sG rfl (bG rfl hg) (vY rfl ld108) ?_)))
   refine sG rfl (bG rfl hg) (v_len rfl Tryz.underlying108) (sG rfl (bG rfl hg) (v_gtr rfl rfl) (sV (vP (bE rfl hg) rfl) ?_))
   exact hcut _ (uH (by first | rfl | (rw [hg]; rfl) | simp_all) (uS rfl (uS rfl (uS rfl (uS rfl (uS rfl (uS rfl (uR))))))))
  refine sN (nK [0, 3, 31] rfl (nT (cC rfl (fun hq => ?_) (fun hq => ?_))))
  ·skip
   refine cS (cR (sV (vA rfl) (sN (nK [0, 2, 3] rfl (nT (cT (xW (xR (xR (xW (xR ?_)))))))))))
   have hf : fewE jobs = false := by
    unfold fewE
    rw [Bool.and_eq_false_iff]
    left
    rw [List.all_eq_false]
    exact ⟨x, List.mem_of_getElem? hget, by simp [hq]⟩
   rw [hf]
   exact xt_rt rfl ⟨rfl, rfl⟩
  ·skip
   refine cK (xB (xT (cR (sV (vM rfl) (sV (v_add rfl rfl (by unfold I64 at *; omega)) (sV (vA rfl) (sN (nK [0, 3] rfl (nx_xt (xt_ag (i + 1) ⟨hlt, fun j l hj hl => ?_⟩ (by show _ - _ < _ - _; omega)))))))))))
   by_cases hji : j = i
   ·subst hji; rw [hget] at hl; cases hl; exact hq
   ·exact hne j l (by omega) hl
 ·skip
  refine cd_exit (xE (xE (xY (xT (cS (cR (sV (vM rfl) (sV (v_len (congrArg some hv1) Tryz.underlying22) (sV (v_leq rfl rfl) (sV (vM rfl) ?_))))))))))
  have hin : i = jobs.length := by
   have : ¬ i < jobs.length := by simpa using hd
   omega
  have hall : (jobs.all fun l => !((decide (10 < (l.length : Int)) && decide ((l.length : Int) ≤ 20)) || decide (40 < (l.length : Int)))) = true := by
   rw [List.all_eq_true]
   intro l hl
   obtain ⟨j, hj⟩ := List.getElem?_of_mem hl
   rw [hne j l (by have := (List.getElem?_eq_some_iff.1 hj).1; omega) hj]; rfl
  unfold fewE
  rw [hall, Bool.true_and]
  refine st_cut (k := 13) (d := 44) (v := .bool (decide ((jobs.length : Int) ≤ 8) || (decide (30 < (jobs.length : Int)) && decide ((jobs.length : Int) ≤ 40)))) (fun hcut => bool_want (b := decide ((jobs.length : Int) ≤ 8)) false (fun hg => ?_) (fun hg => ?_)) ?_
  ·refine st_sk rfl rfl hg ?_
   iterate 3 refine st_sk rfl rfl hg ?_
   refine st_sku rfl rfl ?_
   refine st_sku rfl rfl ?_
   refine st_sku rfl rfl ?_
   refine st_sk rfl rfl hg ?_
   refine sV (vQ (bE rfl hg) rfl) ?_
   exact hcut _ (uH (by first | rfl | (rw [hg]; rfl) | simp_all) (uS rfl (uS rfl (uS rfl (uS rfl (uS rfl (uS rfl (uS rfl (uS rfl (uR))))))))))
  ·skip
   refine sG rfl (bG rfl hg) (vM rfl) (sG rfl (bG rfl hg) (v_len (congrArg some hv1) Tryz.underlying22) (sG rfl (bG rfl hg) (v_gtr rfl rfl) (sG rfl (bG rfl hg) (vM rfl) (st_cut (k := 12) (d := 43) (v := .bool (decide (30 < (jobs.length : Int)) && decide ((jobs.length : Int) ≤ 40))) (fun hcut => bool_want (b := decide (30 < (jobs.length : Int))) true (fun hg1 => ?_) (fun hg1 => ?_)) ?_))))
   ·refine st_sk rfl rfl hg1 ?_
    iterate 2 refine st_sk rfl rfl hg1 ?_
    refine sG rfl (bG rfl hg) (vP (bE rfl hg1) rfl) ?_
    exact hcut _ (uH (by first | rfl | (rw [hg1]; rfl) | simp_all) (uS rfl (uS rfl (uS rfl (uR)))))
   ·skip
    refine sG rfl (bG rfl hg1) (vM rfl) (sG rfl (bG rfl hg1) (v_len (congrArg some hv1) Tryz.underlying22) (sG rfl (bG rfl hg1) (v_leq rfl rfl) (sG rfl (bG rfl hg) (vQ (bE rfl hg1) rfl) ?_)))
    exact hcut _ (uH (by first | rfl | (rw [hg1]; rfl) | simp_all) (uS rfl (uS rfl (uS rfl (uR)))))
   refine sV (vP (bE rfl hg) rfl) ?_
   exact hcut _ (uH (by first | rfl | (rw [hg]; rfl) | simp_all) (by repeat (first | exact uR | refine uS rfl ?_)))
  refine sV (vA rfl) (sN (nK [2] rfl (nT (cT ?_))))
  exact xt_rt rfl ⟨rfl, rfl⟩
end
end Go.Wt
namespace Go.Wt
open Go Go.Ck Go.Proofs Go.Proofs.YtboepbencndobaaGreat Fx
attribute [local irreducible] St Cd Xt Nx DrL LsW
def gC (x : Logd) : List Value := [.int .i64 x.1, .int .i64 x.2.1.1, .int .i64 x.2.1.2, .int .i64 x.2.2]
def growL (yl : List Line) (l : Line) : Option (Key × Int) := if wasIn yl l.key < l.asks.length then some (l.key, (l.asks.getLastD (0, false)).1) else none
section
variable {S : Res}
end
end Go.Wt
namespace Go.Ck
open Go Go.RowKit
section
variable {P : Program} {e : Env} {h : SH} {ty : TypeId}
end
end Go.Ck
namespace Go.Wt
open Go Go.Ck Go.Proofs Go.Proofs.YtboepbencndobaaGreat Fx
attribute [local irreducible] St Cd Xt Nx DrL LsW
def playedE (jobs : List (List Move)) (n : Nat) (picks : List Int) : Option (Yard × List Logd) := if check jobs n = 0 then playE 400 picks (Yard.new jobs n) [(0, (0, 0), 0)] else none
def logT (log : List Logd) (y z : Yard) (t : Nat) : List Logd := log ++ (List.range t).flatMap fun t => (grownE y z t).map fun x => (t, x)
section
variable {Q : Exit → Act → World → Prop} {w0 : World} {hr : SH}
end
end Go.Wt
namespace Go.Wt
open Go Go.Ck Go.Proofs Go.Proofs.YtboepbencndobaaGreat Fx
attribute [local irreducible] Go.Ck.Sub St Cd Xt Nx DrL LsW
section
variable {S : Res}
end
end Go.Wt
namespace Go.Wt
open Go Go.Ck
def spN (s : Int) : Nat := 1 + s.toNat % 6
abbrev Any : HYard → Prop := fun _ => True
end Go.Wt
namespace Go.Wt
open Go Go.Ck Go.Proofs Go.Proofs.YtboepbencndobaaGreat Fx
attribute [local irreducible] Go.Ck.Sub St Cd Xt Nx DrL LsW
section
variable {S : Res} {v : Value}
set_option maxRecDepth 100000 in
theorem in_ct (n lo hi : Int) : Reads Tryz.prog 89 #[.int .i64 n, .int .i64 lo, .int .i64 hi] [] (.bool (within n lo hi)) := by
 refine ct_of (n := 15) Tryz.func89 rfl rfl (len rfl) fun hr w0 => ?_
 refine cS (cR (sV (vA rfl) (sN (nT (cS (cR (sV (vM rfl) (sV (vM rfl) (sV (v_geq rfl rfl) (sV (vM rfl) (st_cut (k := 8) (d := 14) (v := .bool (decide (lo ≤ n) && decide (n ≤ hi))) (fun hcut => bool_want (b := decide (lo ≤ n)) true (fun hg => ?_) (fun hg => ?_)) ?_)))))))))))
 ·refine st_sk rfl rfl hg ?_
  iterate 2 refine st_sk rfl rfl hg ?_
  refine sV (vP (bE rfl hg) rfl) ?_
  exact hcut _ (uH (by first | rfl | (rw [hg]; rfl) | simp_all) (uS rfl (uS rfl (uS rfl (uR)))))
 ·skip
  refine sG rfl (bG rfl hg) (vM rfl) (sG rfl (bG rfl hg) (vM rfl) (sG rfl (bG rfl hg) (v_leq rfl rfl) (sV (vQ (bE rfl hg) rfl) ?_)))
  exact hcut _ (uH (by first | rfl | (rw [hg]; rfl) | simp_all) (uS rfl (uS rfl (uS rfl (uR)))))
 refine sV (vA rfl) (sN (nK [6] rfl (nT (cT ?_))))
 exact xt_rt rfl ⟨rfl, rfl⟩ sbq
set_option maxRecDepth 100000 in
theorem rmoved_ct (m : Move) (spots jobs : Int) (hs : 0 ≤ spots ∧ spots ≤ 1000000) (hj : 0 ≤ jobs ∧ jobs ≤ 1000000) : Reads Tryz.prog 65 #[.agg (mC m).toArray, .int .i64 spots, .int .i64 jobs] [] (.int .i64 (if moved m jobs spots = true then 0 else 1)) := by
 generalize hr0 : (if moved m jobs spots = true then (0 : Int) else 1) = r0
 have key : ∀ (a b : Bool), moved m jobs spots = (a && b) → r0 = if (a && b) = true then 0 else 1 := fun a b h => by rw [← hr0, h]
 unfold moved at key
 have e1 : ∀ x : Int, (x == 0) = decide (x = 0) := fun x => rfl
 refine ct_of (n := 43) Tryz.func65 rfl rfl (len rfl) fun hr w0 => ?_
 refine cS (cR (st_bx rfl rfl fun b3 => ?_))
 refine sV (vA rfl) (sN (nK [1, 2, 3, 6] rfl (nT (cS (cR (sV (vF rfl fa110_1 rfl) (sV (vY rfl ld3) ?_)))))))
 refine sV (vM rfl) (sV (v_sub rfl rfl (by unfold I64 at *; omega)) (st_clr rfl rfl en89 rfl (in_ct m.2.1 0 (spots - 1)) ?_))
 refine sV (vA rfl) (sN (nK [2, 3, 6, 7] rfl (nT (cS (cR (sV (vF rfl fa110_2 rfl) (sV (vY rfl ld3) ?_)))))))
 refine sV (vM rfl) (sV (v_sub rfl rfl (by unfold I64 at *; omega)) (st_clr rfl rfl en89 rfl (in_ct m.2.2 0 (jobs - 1)) ?_))
 refine sV (vA rfl) (sN (nK [3, 6, 7, 8] rfl (nT (cS (cS (cR (sV (vF rfl fa110_0 rfl) (sV (vY rfl ld3) ?_))))))))
 refine sN (nK [3, 6, 7, 8, 20] rfl (nT (cB (cS (cR (sV (v_eql rfl rfl) (sV (vA rfl) (sN (nK [3, 6, 7, 8, 20, 21] rfl (nT (cC rfl (fun h1 => ?_) (fun h1 => ?_))))))))))))
 ·skip
  have q1 : m.1 = 1 := by simpa using h1
  rw [if_pos q1] at key
  have hk := key (within m.2.1 0 (spots - 1)) (m.2.2 == 0) rfl
  refine cR (sV (vF rfl fa110_2 rfl) (sV (vY rfl ld3) ?_))
  refine sV (v_eql rfl rfl) (sV (vA rfl) (sN (nK [6, 7, 8] rfl (nx_xt (xB (xT (cS (cS (cR (sV (vM rfl) (sV (vM rfl) (st_cut (k := 4) (d := 42) (v := .bool (within m.2.1 0 (spots - 1) && (m.2.2 == 0))) (fun hcut => bool_want (b := within m.2.1 0 (spots - 1)) true (fun hg => ?_) (fun hg => ?_)) ?_))))))))))))
  ·refine st_sk rfl rfl hg ?_
   refine sV (vP (bE rfl hg) rfl) ?_
   exact hcut _ (uH (by first | rfl | (rw [hg]; rfl) | simp_all) (uS rfl (uR)))
  ·skip
   refine sG rfl (bG rfl hg) (vM rfl) (sV (vQ (bE rfl hg) rfl) ?_)
   exact hcut _ (uH (by first | rfl | (rw [hg]; rfl) | simp_all) (uS rfl (uR)))
  refine sN (nK [6, 42] rfl (nT (cC rfl (fun h9 => ?_) (fun h9 => ?_))))
  ·skip
   rw [if_pos h9] at hk
   subst hk
   refine cS (cR (sV (vA rfl) (sN (nK [6] rfl (nT (cT (xR ?_)))))))
   exact xt_rt rfl ⟨rfl, rfl⟩ sbq
  ·skip
   rw [if_neg (by rw [h9]; simp)] at hk
   subst hk
   refine cK (xT (cS (cR (sV (vA rfl) (sN (nK [6] rfl (nT (cT ?_))))))))
   exact xt_rt rfl ⟨rfl, rfl⟩ sbq
 ·skip
  have q1 : m.1 ≠ 1 := by simpa using h1
  rw [if_neg q1] at key
  refine cS (cS (cR (sV (v_eql rfl rfl) (sV (vA rfl) (sN (nK [3, 6, 7, 8, 20, 26] rfl (nT (cC rfl (fun h2 => ?_) (fun h2 => ?_)))))))))
  ·skip
   have q2 : m.1 = 2 := by simpa using h2
   rw [if_pos (.inl q2)] at key
   have hk := key (m.2.1 == 0) (m.2.2 == 0) rfl
   refine cK (xT (cC rfl (fun h3 => ?_) (fun h3 => ?_)))
   ·skip
    refine cS (cR (sV (vF rfl fa110_1 rfl) (sV (vY rfl ld3) ?_)))
    refine sV (v_eql rfl rfl) (sV (vA rfl) (sN (nK [3, 6, 7, 8] rfl (nT (cR (sV (vF rfl fa110_2 rfl) (sV (vY rfl ld3) ?_)))))))
    refine sV (v_eql rfl rfl) (sV (vA rfl) (sN (nK [6, 7, 8] rfl (nx_xt (xB (xT (cS (cS (cR (sV (vM rfl) (sV (vM rfl) (st_cut (k := 4) (d := 42) (v := .bool ((m.2.1 == 0) && (m.2.2 == 0))) (fun hcut => bool_want (b := (m.2.1 == 0)) true (fun hg => ?_) (fun hg => ?_)) ?_))))))))))))
    ·refine st_sk rfl rfl hg ?_
     refine sV (vP (bE rfl hg) rfl) ?_
     exact hcut _ (uH (by first | rfl | (rw [hg]; rfl) | simp_all) (uS rfl (uR)))
    ·skip
     refine sG rfl (bG rfl hg) (vM rfl) (sV (vQ (bE rfl hg) rfl) ?_)
     exact hcut _ (uH (by first | rfl | (rw [hg]; rfl) | simp_all) (uS rfl (uR)))
    refine sN (nK [6, 42] rfl (nT (cC rfl (fun h9 => ?_) (fun h9 => ?_))))
    ·skip
     rw [if_pos h9] at hk
     subst hk
     refine cS (cR (sV (vA rfl) (sN (nK [6] rfl (nT (cT (xR ?_)))))))
     exact xt_rt rfl ⟨rfl, rfl⟩ sbq
    ·skip
     rw [if_neg (by rw [h9]; simp)] at hk
     subst hk
     refine cK (xT (cS (cR (sV (vA rfl) (sN (nK [6] rfl (nT (cT ?_))))))))
     exact xt_rt rfl ⟨rfl, rfl⟩ sbq
   ·skip
    rw [h2] at h3; cases h3
  ·skip
   have q2 : m.1 ≠ 2 := by simpa using h2
   refine cR (sV (v_eql rfl rfl) (sV (vA rfl) (sN (nK [3, 6, 7, 8, 20, 26] rfl (nT (cC rfl (fun h3 => ?_) (fun h3 => ?_)))))))
   ·skip
    have q3 : m.1 = 6 := by simpa using h3
    rw [if_pos (.inr q3)] at key
    have hk := key (m.2.1 == 0) (m.2.2 == 0) rfl
    refine cS (cR (sV (vF rfl fa110_1 rfl) (sV (vY rfl ld3) ?_)))
    refine sV (v_eql rfl rfl) (sV (vA rfl) (sN (nK [3, 6, 7, 8] rfl (nT (cR (sV (vF rfl fa110_2 rfl) (sV (vY rfl ld3) ?_)))))))
    refine sV (v_eql rfl rfl) (sV (vA rfl) (sN (nK [6, 7, 8] rfl (nx_xt (xB (xT (cS (cS (cR (sV (vM rfl) (sV (vM rfl) (st_cut (k := 4) (d := 42) (v := .bool ((m.2.1 == 0) && (m.2.2 == 0))) (fun hcut => bool_want (b := (m.2.1 == 0)) true (fun hg => ?_) (fun hg => ?_)) ?_))))))))))))
    ·refine st_sk rfl rfl hg ?_
     refine sV (vP (bE rfl hg) rfl) ?_
     exact hcut _ (uH (by first | rfl | (rw [hg]; rfl) | simp_all) (uS rfl (uR)))
    ·skip
     refine sG rfl (bG rfl hg) (vM rfl) (sV (vQ (bE rfl hg) rfl) ?_)
     exact hcut _ (uH (by first | rfl | (rw [hg]; rfl) | simp_all) (uS rfl (uR)))
    refine sN (nK [6, 42] rfl (nT (cC rfl (fun h9 => ?_) (fun h9 => ?_))))
    ·skip
     rw [if_pos h9] at hk
     subst hk
     refine cS (cR (sV (vA rfl) (sN (nK [6] rfl (nT (cT (xR ?_)))))))
     exact xt_rt rfl ⟨rfl, rfl⟩ sbq
    ·skip
     rw [if_neg (by rw [h9]; simp)] at hk
     subst hk
     refine cK (xT (cS (cR (sV (vA rfl) (sN (nK [6] rfl (nT (cT ?_))))))))
     exact xt_rt rfl ⟨rfl, rfl⟩ sbq
   ·skip
    have q3 : m.1 ≠ 6 := by simpa using h3
    rw [if_neg (by omega)] at key
    refine cS (cS (cR (sV (v_eql rfl rfl) (sV (vA rfl) (sN (nK [6, 7, 8, 20, 35] rfl (nT (cC rfl (fun h4 => ?_) (fun h4 => ?_)))))))))
    ·skip
     have q4 : m.1 = 3 := by simpa using h4
     rw [if_pos (by omega)] at key
     have hk := key (within m.2.1 0 (spots - 1)) (within m.2.2 0 (jobs - 1)) rfl
     refine cK (xT (cC rfl (fun h5 => ?_) (fun h5 => ?_)))
     ·skip
      refine cK (xB (xT (cS (cS (cR (sV (vM rfl) (sV (vM rfl) (st_cut (k := 4) (d := 42) (v := .bool (within m.2.1 0 (spots - 1) && within m.2.2 0 (jobs - 1))) (fun hcut => bool_want (b := within m.2.1 0 (spots - 1)) true (fun hg => ?_) (fun hg => ?_)) ?_))))))))
      ·refine st_sk rfl rfl hg ?_
       refine sV (vP (bE rfl hg) rfl) ?_
       exact hcut _ (uH (by first | rfl | (rw [hg]; rfl) | simp_all) (uS rfl (uR)))
      ·skip
       refine sG rfl (bG rfl hg) (vM rfl) (sV (vQ (bE rfl hg) rfl) ?_)
       exact hcut _ (uH (by first | rfl | (rw [hg]; rfl) | simp_all) (uS rfl (uR)))
      refine sN (nK [6, 42] rfl (nT (cC rfl (fun h9 => ?_) (fun h9 => ?_))))
      ·skip
       rw [if_pos h9] at hk
       subst hk
       refine cS (cR (sV (vA rfl) (sN (nK [6] rfl (nT (cT (xR ?_)))))))
       exact xt_rt rfl ⟨rfl, rfl⟩ sbq
      ·skip
       rw [if_neg (by rw [h9]; simp)] at hk
       subst hk
       refine cK (xT (cS (cR (sV (vA rfl) (sN (nK [6] rfl (nT (cT ?_))))))))
       exact xt_rt rfl ⟨rfl, rfl⟩ sbq
     ·skip
      rw [h4] at h5; cases h5
    ·skip
     have q4 : m.1 ≠ 3 := by simpa using h4
     refine cS (cR (sV (v_eql rfl rfl) (sV (vA rfl) (sN (nK [6, 7, 8, 20, 35] rfl (nT (cC rfl (fun h6 => ?_) (fun h6 => ?_))))))))
     ·skip
      have q5 : m.1 = 4 := by simpa using h6
      rw [if_pos (by omega)] at key
      have hk := key (within m.2.1 0 (spots - 1)) (within m.2.2 0 (jobs - 1)) rfl
      refine cK (xT (cC rfl (fun h7 => ?_) (fun h7 => ?_)))
      ·skip
       refine cK (xB (xT (cS (cS (cR (sV (vM rfl) (sV (vM rfl) (st_cut (k := 4) (d := 42) (v := .bool (within m.2.1 0 (spots - 1) && within m.2.2 0 (jobs - 1))) (fun hcut => bool_want (b := within m.2.1 0 (spots - 1)) true (fun hg => ?_) (fun hg => ?_)) ?_))))))))
       ·refine st_sk rfl rfl hg ?_
        refine sV (vP (bE rfl hg) rfl) ?_
        exact hcut _ (uH (by first | rfl | (rw [hg]; rfl) | simp_all) (uS rfl (uR)))
       ·skip
        refine sG rfl (bG rfl hg) (vM rfl) (sV (vQ (bE rfl hg) rfl) ?_)
        exact hcut _ (uH (by first | rfl | (rw [hg]; rfl) | simp_all) (uS rfl (uR)))
       refine sN (nK [6, 42] rfl (nT (cC rfl (fun h9 => ?_) (fun h9 => ?_))))
       ·skip
        rw [if_pos h9] at hk
        subst hk
        refine cS (cR (sV (vA rfl) (sN (nK [6] rfl (nT (cT (xR ?_)))))))
        exact xt_rt rfl ⟨rfl, rfl⟩ sbq
       ·skip
        rw [if_neg (by rw [h9]; simp)] at hk
        subst hk
        refine cK (xT (cS (cR (sV (vA rfl) (sN (nK [6] rfl (nT (cT ?_))))))))
        exact xt_rt rfl ⟨rfl, rfl⟩ sbq
      ·skip
       rw [h6] at h7; cases h7
     ·skip
      have q5 : m.1 ≠ 4 := by simpa using h6
      refine cR (sV (v_eql rfl rfl) (sV (vA rfl) (sN (nK [6, 7, 8, 35] rfl (nT (cC rfl (fun h7 => ?_) (fun h7 => ?_)))))))
      ·skip
       have q6 : m.1 = 5 := by simpa using h7
       rw [if_pos (by omega)] at key
       have hk := key (within m.2.1 0 (spots - 1)) (within m.2.2 0 (jobs - 1)) rfl
       refine cK (xB (xT (cS (cS (cR (sV (vM rfl) (sV (vM rfl) (st_cut (k := 4) (d := 42) (v := .bool (within m.2.1 0 (spots - 1) && within m.2.2 0 (jobs - 1))) (fun hcut => bool_want (b := within m.2.1 0 (spots - 1)) true (fun hg => ?_) (fun hg => ?_)) ?_))))))))
       ·refine st_sk rfl rfl hg ?_
        refine sV (vP (bE rfl hg) rfl) ?_
        exact hcut _ (uH (by first | rfl | (rw [hg]; rfl) | simp_all) (uS rfl (uR)))
       ·skip
        refine sG rfl (bG rfl hg) (vM rfl) (sV (vQ (bE rfl hg) rfl) ?_)
        exact hcut _ (uH (by first | rfl | (rw [hg]; rfl) | simp_all) (uS rfl (uR)))
       refine sN (nK [6, 42] rfl (nT (cC rfl (fun h9 => ?_) (fun h9 => ?_))))
       ·skip
        rw [if_pos h9] at hk
        subst hk
        refine cS (cR (sV (vA rfl) (sN (nK [6] rfl (nT (cT (xR ?_)))))))
        exact xt_rt rfl ⟨rfl, rfl⟩ sbq
       ·skip
        rw [if_neg (by rw [h9]; simp)] at hk
        subst hk
        refine cK (xT (cS (cR (sV (vA rfl) (sN (nK [6] rfl (nT (cT ?_))))))))
        exact xt_rt rfl ⟨rfl, rfl⟩ sbq
      ·skip
       have q6 : m.1 ≠ 5 := by simpa using h7
       rw [if_neg (by omega)] at key
       have hk := key false false rfl
       subst hk
       refine cS (cR (sV (vA rfl) (sN (nK [6] rfl (nT (cT (xW (xR ?_))))))))
       exact xt_rt rfl ⟨rfl, rfl⟩ sbq
end
end Go.Wt
namespace Go.Wt
open Go Go.Ck Go.Proofs Go.Proofs.YtboepbencndobaaGreat Fx
attribute [local irreducible] Go.Ck.Sub St Cd Xt Nx DrL LsW
theorem all_bad {α : Type} {l : List α} {g : α → Bool} {i : Nat} (hi : i < l.length) (h : g l[i] = false) : l.all g = false := by
 rw [List.all_eq_false]
 exact ⟨l[i], List.getElem_mem hi, by simp [h]⟩
theorem all_good {α : Type} {l : List α} {g : α → Bool} (h : ∀ (j : Nat) (hj : j < l.length), g l[j] = true) : l.all g = true := by
 rw [List.all_eq_true]
 intro x hx
 obtain ⟨j, hj, rfl⟩ := List.getElem_of_mem hx
 exact h j hj
section
variable {S : Res} {v jv : Value}
set_option maxRecDepth 100000 in
theorem rbalanced_ct {l : List Move} (hv : Row S 3 (eqC mC) v l) (hl : l.length ≤ 1000000) : Reads Tryz.prog 66 #[v] [S] (.bool (bal 0 l)) := by
 obtain ⟨a, cap, hv1, _⟩ := id hv
 refine ct_of (n := 35) Tryz.func66 rfl rfl (len rfl) fun hr w0 => ?_
 refine cS (cR (sV (vA rfl) (sN (nT (cS (cR (sV (vA rfl) (sN (nT (cS (cS (cR (sV (vA rfl) (sN (nT (cB ?_))))))))))))))))
 refine cd_lq (σ := Nat × Int) (fun s => [(0, v), (3, .int .i64 s.2), (4, .int .i64 (s.1 : Nat))]) (fun _ => S :: hr) (fun s => s.1 ≤ l.length ∧ 0 ≤ s.2 ∧ s.2 ≤ s.1 ∧ bal 0 l = bal s.2 (l.drop s.1)) (fun s => l.length - s.1) (0, 0) ⟨Nat.zero_le _, by decide, by decide, rfl⟩ ?_
 rintro ⟨i, o⟩ ⟨hi, ho, hoi, hb⟩
 simp only at hi ho hoi hb
 refine cS (cS (cR (sV (vM rfl) (sV (vM rfl) (sV (v_len (congrArg some hv1) Tryz.underlying108) (sV (v_lss rfl rfl) (sN (nK [0, 3, 4, 8] rfl (nT (cC rfl (fun hd => ?_) (fun hd => ?_)))))))))))
 ·skip
  have hlt : i < l.length := by simpa using hd
  obtain ⟨b, off, cp2, us, hv2, hus, hrd, rfl⟩ := hv.at (List.getElem?_eq_getElem hlt)
  have hrd0 : Rd S ⟨b, off + i * 3, none⟩ (.int .i64 l[i].1) := rds_at (k := 0) hrd rfl
  refine cK (xT (cS (cB (cS (cS (cR (sV (vM rfl) (sV (vM rfl) (sV (vI (k := i) (congrArg some hv2) rfl sl108 rfl hlt rfl) (sV (vF rfl fa110_0 rfl) (sV (vY rfl ld3) ?_)))))))))))
  refine sN (nK [0, 3, 4, 15] rfl (nT (cB (cS (cR (sV (v_eql rfl rfl) (sV (vA rfl) (sN (nK [0, 3, 4, 15, 16] rfl (nT ?_))))))))))
  rw [drop_at hlt, bal_cons] at hb
  refine cC rfl (fun h1 => ?_) (fun h1 => ?_)
  ·skip
   refine cR (sV (vM rfl) (sV (v_add rfl rfl (by unfold I64 at *; omega)) (sV (vA rfl) (sN (nK [0, 3, 4] rfl (nx_xt (xB (xT (cS (cR (sV (vM rfl) (sV (v_lss rfl rfl) (sN (nK [0, 3, 4, 32] rfl (nT ?_)))))))))))))))
   rw [if_pos (by simpa using h1)] at hb
   refine cC rfl (fun h5 => ?_) (fun h5 => ?_)
   ·skip
    exact absurd (of_decide_eq_true h5) (by omega)
   ·skip
    refine cK (xB (xT (cR (sV (vM rfl) (sV (v_add rfl rfl (by unfold I64 at *; omega)) (sV (vA rfl) (sN (nK [0, 3, 4] rfl (nx_xt ?_)))))))))
    refine xt_aq (i + 1, o + 1) ⟨hlt, by show 0 ≤ o + 1; omega, by show o + 1 ≤ ((i + 1 : Nat) : Int); omega, hb⟩ (by show _ - _ < _ - _; omega)
  ·skip
   rw [if_neg (by simpa using h1)] at hb
   refine cS (cR (sV (v_eql rfl rfl) (sV (vA rfl) (sN (nK [0, 3, 4, 15, 20] rfl (nT (cC rfl (fun h2 => ?_) (fun h2 => ?_))))))))
   ·skip
    refine cR (sV (vM rfl) (sV (v_sub rfl rfl (by unfold I64 at *; omega)) (sV (vA rfl) (sN (nK [0, 3, 4] rfl (nx_xt (xB (xT (cS (cR (sV (vM rfl) (sV (v_lss rfl rfl) (sN (nK [0, 3, 4, 32] rfl (nT ?_)))))))))))))))
    rw [if_pos (by simpa using h2)] at hb
    refine cC rfl (fun h3 => ?_) (fun h3 => ?_)
    ·skip
     refine cS (cR (sV (vA rfl) (sN (nK [2] rfl (nT (cT (xW (xR (xR (xW (xR ?_)))))))))))
     rw [if_pos (by simpa using h3)] at hb
     rw [hb]
     exact xt_rt rfl ⟨rfl, rfl⟩ sbq
    ·skip
     refine cK (xB (xT (cR (sV (vM rfl) (sV (v_add rfl rfl (by unfold I64 at *; omega)) (sV (vA rfl) (sN (nK [0, 3, 4] rfl (nx_xt ?_)))))))))
     have h3' : ¬ o - 1 < 0 := by simpa using h3
     rw [if_neg h3'] at hb
     refine xt_aq (i + 1, o - 1) ⟨hlt, by show 0 ≤ o - 1; omega, by show o - 1 ≤ ((i + 1 : Nat) : Int); omega, hb⟩ (by show _ - _ < _ - _; omega)
   ·skip
    rw [if_neg (by simpa using h2)] at hb
    refine cS (cR (sV (v_eql rfl rfl) (sV (vA rfl) (sN (nK [0, 3, 4, 24] rfl (nT (cC rfl (fun h4 => ?_) (fun h4 => ?_))))))))
    ·skip
     refine cS (cR (sV (vM rfl) (sV (vM rfl) (sV (v_len (congrArg some hv1) Tryz.underlying108) (sV (v_sub rfl rfl (by unfold I64 at *; omega)) (sV (v_eql rfl rfl) (sV (vA rfl) (sN (nK [2] rfl (nT (cT (xW (xR (xW (xR ?_)))))))))))))))
     refine xR (xW (xR ?_))
     rw [if_pos (by simpa using h4)] at hb
     have hq : bal 0 l = ((i : Int) == (l.length : Int) - 1) := by
      rw [hb]
      by_cases he : i + 1 = l.length
      ·rw [List.drop_of_length_le (by omega)]
       exact (beq_iff_eq.2 (by omega)).symm
      ·rw [drop_at (show i + 1 < l.length by omega)]
       exact (beq_eq_false_iff_ne.2 (by omega)).symm
     rw [hq]
     exact xt_rt rfl ⟨rfl, rfl⟩ sbq
    ·skip
     rw [if_neg (by simpa using h4)] at hb
     refine cK (xB (xT (cS (cR (sV (vM rfl) (sV (v_lss rfl rfl) (sN (nK [0, 3, 4, 32] rfl (nT (cC rfl (fun h5 => ?_) (fun h5 => ?_)))))))))))
     ·skip
      exact absurd (of_decide_eq_true h5) (by omega)
     ·skip
      refine cK (xB (xT (cR (sV (vM rfl) (sV (v_add rfl rfl (by unfold I64 at *; omega)) (sV (vA rfl) (sN (nK [0, 3, 4] rfl (nx_xt ?_)))))))))
      refine xt_aq (i + 1, o) ⟨hlt, ho, by show o ≤ ((i + 1 : Nat) : Int); omega, hb⟩ (by show _ - _ < _ - _; omega)
 ·skip
  refine cd_exit (xE (xE (xY (xT (cS (cR (sV (vM rfl) (sV (v_eql rfl rfl) (sV (vA rfl) (sN (nK [2] rfl (nT (cT ?_)))))))))))))
  have hil : i = l.length := by
   have : ¬ i < l.length := by simpa using hd
   omega
  rw [List.drop_of_length_le (by omega)] at hb
  have hq : bal 0 l = (o == 0) := by rw [hb]; rfl
  rw [hq]
  exact xt_rt rfl ⟨rfl, rfl⟩ sbq
theorem jobs_at {jobs : List (List Move)} (hj : Row S 1 (jobR S) jv jobs) {i : Nat} (hi : i < jobs.length) : ∃ b o cap u a c, jv = .slice (some ⟨b, o, none⟩) jobs.length cap ∧ Rd S ⟨b, o + i * 1, none⟩ u ∧ u = .slice a (jobs[i]).length c ∧ Row S 3 (eqC mC) u jobs[i] := by
 obtain ⟨b, o, cap, u, h1, h2, u', hu, hX⟩ := hj.at1 (List.getElem?_eq_getElem hi)
 simp only [List.cons.injEq, and_true] at hu
 subst hu
 obtain ⟨a, c, h3, _⟩ := id hX
 exact ⟨b, o, cap, u, a, c, h1, h2, h3, hX⟩
set_option maxHeartbeats 1000000 in
set_option maxRecDepth 100000 in
theorem rcheck_ct {jobs : List (List Move)} {spots : Int} (hj : Row S 1 (jobR S) jv jobs) (hf : Fits jobs) (hs : I64 spots) : Reads Tryz.prog 18 #[jv, .int .i64 spots] [S] (.int .i64 (check jobs spots)) := by
 obtain ⟨hl, hll⟩ := hf
 obtain ⟨a, cap, hv1, _⟩ := id hj
 generalize hr0 : check jobs spots = r0
 unfold check at hr0
 refine ct_of (n := 79) Tryz.func18 rfl rfl (len rfl) fun hr w0 => ?_
 refine cS (cR (sV (vA rfl) (sN (nT (cS (cS (cR (sV (vM rfl) (sV (v_gtr rfl rfl) (sV (vM rfl) (st_cut (k := 7) (d := 17) (v := .bool (decide (12 < spots) || decide (30 < (jobs.length : Int)))) (fun hcut => bool_want (b := decide (12 < spots)) false (fun hg => ?_) (fun hg => ?_)) ?_)))))))))))
 ·refine st_sk rfl rfl hg ?_
  iterate 2 refine st_sk rfl rfl hg ?_
  refine sV (vQ (bE rfl hg) rfl) ?_
  exact hcut _ (uH (by first | rfl | (rw [hg]; rfl) | simp_all) (uS rfl (uS rfl (uS rfl (uR)))))
 ·skip
  refine sG rfl (bG rfl hg) (vM rfl) (sG rfl (bG rfl hg) (v_len (congrArg some hv1) Tryz.underlying22) (sG rfl (bG rfl hg) (v_gtr rfl rfl) (sV (vP (bE rfl hg) rfl) ?_)))
  exact hcut _ (uH (by first | rfl | (rw [hg]; rfl) | simp_all) (uS rfl (uS rfl (uS rfl (uR)))))
 refine sN (nK [0, 1, 4, 17] rfl (nT (cC rfl (fun hA => ?_) (fun hA => ?_))))
 ·skip
  refine cS (cR (sV (vA rfl) (sN (nK [4] rfl (nT (cT (xR ?_)))))))
  rw [if_pos (by rw [hA]; rfl)] at hr0
  subst hr0
  exact xt_rt rfl ⟨rfl, rfl⟩ sbq
 ·skip
  rw [hA, Bool.false_or] at hr0
  refine cK (xT (cS (cS (cR (sV (vA rfl) (sN (nK [0, 1, 4, 5] rfl (nT (cB (cd_lq (σ := Nat) (fun i => [(0, jv), (1, .int .i64 spots), (5, .int .i64 (i : Nat))]) (fun _ => S :: hr) (fun i => i ≤ jobs.length ∧ ∀ (j : Nat) (hj : j < jobs.length), j < i → decide (((jobs[j]).length : Int) ≤ 20) = true) (fun i => jobs.length - i) 0 ⟨Nat.zero_le _, fun j _ hj => by omega⟩ ?_))))))))))
  rintro i ⟨hi, hall⟩
  refine cS (cS (cR (sV (vM rfl) (sV (vM rfl) (sV (v_len (congrArg some hv1) Tryz.underlying22) (sV (v_lss rfl rfl) (sN (nK [0, 1, 5, 21] rfl (nT (cC rfl (fun hd => ?_) (fun hd => ?_)))))))))))
  ·skip
   have hlt : i < jobs.length := by simpa using hd
   obtain ⟨b, o, cp2, u, ua, uc, hv2, hrd, hu, hX⟩ := jobs_at hj hlt
   subst hu
   refine cK (xT (cS (cB (cS (cR (sV (vM rfl) (sV (vM rfl) (sV (vI (k := i) (congrArg some hv2) rfl sl22 rfl hlt rfl) (sV (vY rfl ld108) ?_)))))))))
   refine sV (v_len rfl Tryz.underlying108) (sV (v_gtr rfl rfl) (sN (nK [0, 1, 5, 29] rfl (nT (cC rfl (fun h3 => ?_) (fun h3 => ?_))))))
   ·skip
    refine cS (cR (sV (vA rfl) (sN (nK [4] rfl (nT (cT (xW (xR (xR (xW (xR ?_)))))))))))
    rw [if_pos (by rw [all_bad (g := fun l : List Move => decide ((l.length : Int) ≤ 20)) hlt (by rw [decide_eq_false_iff_not]; simpa using h3)]; rfl)] at hr0
    subst hr0
    exact xt_rt rfl ⟨rfl, rfl⟩ sbq
   ·skip
    refine cK (xB (xT (cR (sV (vM rfl) (sV (v_add rfl rfl (by unfold I64 at *; omega)) (sV (vA rfl) (sN (nK [0, 1, 5] rfl (nx_xt (xt_aq (i + 1) ⟨hlt, fun j hj' hji => ?_⟩ (by show _ - _ < _ - _; omega)))))))))))
    by_cases hjk : j = i
    ·subst hjk; simpa using h3
    ·exact hall j hj' (by omega)
  ·skip
   have hil : i = jobs.length := by
    have : ¬ i < jobs.length := by simpa using hd
    omega
   rw [all_good (g := fun l : List Move => decide ((l.length : Int) ≤ 20)) (fun j hj' => hall j hj' (by omega)), if_neg (by decide)] at hr0
   refine cd_exit (xE (xE (xY (xT (cS (cS (cR (sV (vM rfl) (sV (v_lss rfl rfl) (sV (vM rfl) (st_cut (k := 7) (d := 36) (v := .bool (decide (spots < 1) || decide ((jobs.length : Int) < 1))) (fun hcut => bool_want (b := decide (spots < 1)) false (fun hg => ?_) (fun hg => ?_)) ?_)))))))))))
   ·refine st_sk rfl rfl hg ?_
    iterate 2 refine st_sk rfl rfl hg ?_
    refine sV (vQ (bE rfl hg) rfl) ?_
    exact hcut _ (uH (by first | rfl | (rw [hg]; rfl) | simp_all) (uS rfl (uS rfl (uS rfl (uR)))))
   ·skip
    refine sG rfl (bG rfl hg) (vM rfl) (sG rfl (bG rfl hg) (v_len (congrArg some hv1) Tryz.underlying22) (sG rfl (bG rfl hg) (v_lss rfl rfl) (sV (vP (bE rfl hg) rfl) ?_)))
    exact hcut _ (uH (by first | rfl | (rw [hg]; rfl) | simp_all) (uS rfl (uS rfl (uS rfl (uR)))))
   refine sN (nK [0, 1, 36] rfl (nT (cC rfl (fun hB => ?_) (fun hB => ?_))))
   ·skip
    refine cS (cR (sV (vA rfl) (sN (nK [4] rfl (nT (cT (xR ?_)))))))
    rw [if_pos (by
     rw [Bool.or_eq_true, decide_eq_true_eq, decide_eq_true_eq] at hB
     rw [Bool.and_eq_false_iff, decide_eq_false_iff_not, decide_eq_false_iff_not]
     omega)] at hr0
    subst hr0
    exact xt_rt rfl ⟨rfl, rfl⟩ sbq
   ·skip
    rw [Bool.or_eq_false_iff, decide_eq_false_iff_not, decide_eq_false_iff_not] at hA hB
    rw [if_neg (by
     rw [Bool.and_eq_false_iff, decide_eq_false_iff_not, decide_eq_false_iff_not]
     omega)] at hr0
    refine cK (xT (cS (cS (cR (sV (vA rfl) (sN (nK [0, 1, 6] rfl (nT (cB (cd_lq (σ := Nat) (fun i => [(0, jv), (1, .int .i64 spots), (6, .int .i64 (i : Nat))]) (fun _ => S :: hr) (fun i => i ≤ jobs.length ∧ ∀ (j : Nat) (hj : j < jobs.length), j < i → ((jobs[j]).all fun m => moved m jobs.length spots) = true) (fun i => jobs.length - i) 0 ⟨Nat.zero_le _, fun j _ hj => by omega⟩ ?_))))))))))
    rintro i2 ⟨hi2, hall2⟩
    refine cS (cS (cR (sV (vM rfl) (sV (vM rfl) (sV (v_len (congrArg some hv1) Tryz.underlying22) (sV (v_lss rfl rfl) (sN (nK [0, 1, 6, 40] rfl (nT (cC rfl (fun hd2 => ?_) (fun hd2 => ?_)))))))))))
    ·skip
     have hlt : i2 < jobs.length := by simpa using hd2
     obtain ⟨b, o, cp2, u, ua, uc, hv2, hrd, hu, hX⟩ := jobs_at hj hlt
     subst hu
     refine cK (xT (cS (cB (cS (cR (sV (vA rfl) (sN (nK [0, 1, 6, 7] rfl (nT (cB ?_))))))))))
     have hmb := fun (k : Nat) (hk : k < (jobs[i2]).length) (h : moved (jobs[i2][k]) jobs.length spots = false) => all_bad (l := jobs) (g := fun l => l.all fun m => moved m jobs.length spots) hlt (all_bad (g := fun m => moved m jobs.length spots) hk h)
     have hmg : ((jobs[i2]).all fun m => moved m jobs.length spots) = true → ∀ (j : Nat) (hj : j < jobs.length), j < i2 + 1 → ((jobs[j]).all fun m => moved m jobs.length spots) = true := fun h j hj' hji => by
      by_cases hjk : j = i2
      ·subst hjk; exact h
      ·exact hall2 j hj' (by omega)
     have hxl := hll _ (List.getElem_mem hlt)
     generalize jobs[i2] = x at *
     refine cd_lq (σ := Nat) (fun k => [(0, jv), (1, .int .i64 spots), (6, .int .i64 (i2 : Nat)), (7, .int .i64 (k : Nat))]) (fun _ => S :: hr) (fun k => k ≤ x.length ∧ ∀ (j : Nat) (hj : j < x.length), j < k → moved x[j] jobs.length spots = true) (fun k => x.length - k) 0 ⟨Nat.zero_le _, fun j _ hj => by omega⟩ ?_
     rintro k ⟨hk, hallk⟩
     refine cS (cS (cR (sV (vM rfl) (sV (vM rfl) (sV (vM rfl) (sV (vI (k := i2) (congrArg some hv2) rfl sl22 rfl hlt rfl) (sV (vY rfl ld108) ?_)))))))
     refine sV (v_len rfl Tryz.underlying108) (sV (v_lss rfl rfl) (sN (nK [0, 1, 6, 7, 49] rfl (nT (cC rfl (fun hd3 => ?_) (fun hd3 => ?_))))))
     ·skip
      have hkt : k < x.length := by simpa using hd3
      obtain ⟨c1, c2, c3, cus, hcv, hcus, hcrd, rfl⟩ := hX.at (List.getElem?_eq_getElem hkt)
      refine cK (xT (cS (cB (cS (cR (sV (vM rfl) (sV (vM rfl) (sV (vI (k := i2) (congrArg some hv2) rfl sl22 rfl hlt rfl) (sV (vY rfl ld108) ?_)))))))))
      refine sV (vM rfl) (sV (vI (k := k) (congrArg some hcv) rfl sl108 rfl hkt rfl) (sV (v_ldn rfl ld110 hcus hcrd) ?_))
      refine sV (vM rfl) (sV (vM rfl) (sV (v_len (congrArg some hv1) Tryz.underlying22) (st_clr rfl rfl en65 rfl (rmoved_ct x[k] spots jobs.length ⟨by omega, by omega⟩ ⟨by omega, by omega⟩) ?_)))
      refine sV (vA rfl) (sN (nK [0, 1, 6, 7, 8] rfl (nT (cS (cR (sV (vM rfl) (sV (v_neq rfl rfl) (sN (nK [0, 1, 6, 7, 8, 64] rfl (nT ?_))))))))))
      cases hmv : moved x[k] jobs.length spots with
      | true =>
       rw [if_pos rfl]
       refine cC rfl (fun hq => ?_) (fun hq => ?_)
       ·skip
        exact absurd hq (by decide)
       ·skip
        refine cK (xB (xT (cR (sV (vM rfl) (sV (v_add rfl rfl (by unfold I64 at *; omega)) (sV (vA rfl) (sN (nK [0, 1, 6, 7] rfl (nx_xt (xt_aq (k + 1) ⟨hkt, fun j hj' hji => ?_⟩ (by show _ - _ < _ - _; omega)))))))))))
        by_cases hjk : j = k
        ·subst hjk; exact hmv
        ·exact hallk j hj' (by omega)
      | false =>
       rw [if_pos (hmb k hkt hmv)] at hr0
       rw [if_neg (by decide)]
       subst hr0
       refine cC rfl (fun hq => ?_) (fun hq => ?_)
       ·skip
        refine cS (cR (sV (vM rfl) (sV (vA rfl) (sN (nK [4] rfl (nT (cT (xW (xR (xR (xW (xW (xR (xR (xW ?_)))))))))))))))
        refine xR ?_
        exact xt_rt rfl ⟨rfl, rfl⟩ sbq
       ·skip
        exact absurd hq (by decide)
     ·skip
      have hkl : k = x.length := by
       have : ¬ k < x.length := by simpa using hd3
       omega
      refine cd_exit (xE (xE (xY (xB (xT (cR (sV (vM rfl) (sV (v_add rfl rfl (by unfold I64 at *; omega)) (sV (vA rfl) (sN (nK [0, 1, 6] rfl (nx_xt ?_))))))))))))
      refine xt_aq (i2 + 1) ⟨hlt, hmg (all_good fun j hj' => hallk j hj' (by omega))⟩ (by show _ - _ < _ - _; omega)
    ·skip
     have hil2 : i2 = jobs.length := by
      have : ¬ i2 < jobs.length := by simpa using hd2
      omega
     rw [all_good (g := fun l : List Move => l.all fun m => moved m jobs.length spots) (fun j hj' => hall2 j hj' (by omega)), if_neg (by decide)] at hr0
     refine cd_exit (xE (xE (xY (xT (cS (cS (cR (sV (vA rfl) (sN (nK [0, 9] rfl (nT (cB (cd_lq (σ := Nat) (fun i => [(0, jv), (9, .int .i64 (i : Nat))]) (fun _ => S :: hr) (fun i => i ≤ jobs.length ∧ ∀ (j : Nat) (hj : j < jobs.length), j < i → bal 0 jobs[j] = true) (fun i => jobs.length - i) 0 ⟨Nat.zero_le _, fun j _ hj => by omega⟩ ?_)))))))))))))
     rintro i3 ⟨hi3, hall3⟩
     refine cS (cS (cR (sV (vM rfl) (sV (vM rfl) (sV (v_len (congrArg some hv1) Tryz.underlying22) (sV (v_lss rfl rfl) (sN (nK [0, 9, 69] rfl (nT (cC rfl (fun hd3 => ?_) (fun hd3 => ?_)))))))))))
     ·skip
      have hlt : i3 < jobs.length := by simpa using hd3
      obtain ⟨b, o, cp2, u, ua, uc, hv2, hrd, hu, hX⟩ := jobs_at hj hlt
      subst hu
      refine cK (xT (cS (cB (cS (cR (sV (vM rfl) (sV (vM rfl) (sV (vI (k := i3) (congrArg some hv2) rfl sl22 rfl hlt rfl) (sV (vY rfl ld108) ?_)))))))))
      refine st_clr rfl rfl en66 rfl (rbalanced_ct hX (hll _ (List.getElem_mem hlt))) ?_
      refine sV (vA rfl) (sN (nK [0, 9, 10] rfl (nT (cS (cR (sV (vM rfl) (sV (v_not rfl) (sN (nK [0, 9, 78] rfl (nT (cC rfl (fun hq => ?_) (fun hq => ?_))))))))))))
      ·skip
       refine cS (cR (sV (vA rfl) (sN (nK [4] rfl (nT (cT (xW (xR (xR (xW (xR ?_)))))))))))
       rw [if_pos (all_bad (g := fun l => bal 0 l) hlt (by simpa using hq))] at hr0
       subst hr0
       exact xt_rt rfl ⟨rfl, rfl⟩ sbq
      ·skip
       refine cK (xB (xT (cR (sV (vM rfl) (sV (v_add rfl rfl (by unfold I64 at *; omega)) (sV (vA rfl) (sN (nK [0, 9] rfl (nx_xt (xt_aq (i3 + 1) ⟨hlt, fun j hj' hji => ?_⟩ (by show _ - _ < _ - _; omega)))))))))))
       by_cases hjk : j = i3
       ·subst hjk; simpa using hq
       ·exact hall3 j hj' (by omega)
     ·skip
      have hil3 : i3 = jobs.length := by
       have : ¬ i3 < jobs.length := by simpa using hd3
       omega
      rw [all_good (g := fun l : List Move => bal 0 l) (fun j hj' => hall3 j hj' (by omega)), if_neg (by decide)] at hr0
      subst hr0
      refine cd_exit (xE (xE (xY (xT (cS (cR (sV (vA rfl) (sN (nK [4] rfl (nT (cT ?_)))))))))))
      exact xt_rt rfl ⟨rfl, rfl⟩ sbq
end
end Go.Wt
namespace Go.Wt
open Go Go.Ck Go.Proofs Go.Proofs.YtboepbencndobaaGreat Fx
attribute [local irreducible] Go.Ck.Sub St Cd Xt Nx DrL LsW
section
variable {S : Res} {jv : Value}
def newV (jv : Value) (jobs : List (List Move)) (spots : Int) (u : Value) (T : Res) : Prop := (check jobs spots ≠ 0 ∧ u = .agg #[.slice none 0 0, .slice none 0 0, .int .i64 (check jobs spots)]) ∨ (check jobs spots = 0 ∧ ∃ pv, u = .agg #[jv, pv, .int .i64 0] ∧ Row T 9 (procR T) pv (Yard.new jobs spots.toNat).procs)
set_option maxRecDepth 100000 in
theorem rnew0_ct {jobs : List (List Move)} {spots : Int} (hj : Row S 1 (jobR S) jv jobs) (hf : Fits jobs) (hs : I64 spots) : CtN Tryz.prog 15 #[jv, .int .i64 spots] [S] (newV jv jobs spots) := by
 obtain ⟨a, cap, rfl, _⟩ := id hj
 refine ct_of (n := 48) Tryz.func15 rfl rfl (len rfl) fun hr w0 => ?_
 refine cS (cR (st_alc al32 fun b4 => ?_))
 refine sN (nT (cS (cR (sV (vM rfl) (sV (vM rfl) (st_clr rfl rfl en18 rfl (rcheck_ct hj hf hs) ?_))))))
 refine sV (vA rfl) (sN (nK [0, 1, 4, 5] rfl (nT (cS (cS (cR (sV (vM rfl) (sV (v_neq rfl rfl) (sN (nK [0, 1, 4, 5, 12] rfl (nT ?_)))))))))))
 generalize hcc : check jobs spots = cc
 refine cC rfl (fun hc => ?_) (fun hc => ?_)
 ·skip
  refine cS (cR (sV (vM rfl) (sV (v_build (cells := [.slice none 0 0, .slice none 0 0, .int .i64 cc]) rfl (fun _ => by kernel_rfl)) ?_)))
  refine st_stoW rfl rfl sz32 rfl rfl ?_
  refine sN (nK [4] rfl (nT (cT (xR (xt_vw (vw_pure (φ := True) trivial) ?_)))))
  exact xt_retV (.cellN rfl ld32 rfl slq .nil) ⟨pureR True, rfl, .inl ⟨by rw [hcc]; simpa using hc, by rw [hcc]; rfl⟩⟩ sbr
 ·skip
  have hc0 : cc = 0 := by simpa using hc
  subst hc0
  obtain ⟨hs0, hs12, hj0, hj30, hl20⟩ := check_pos hcc
  obtain ⟨m, rfl⟩ : ∃ m : Nat, spots = ((m + 1 : Nat) : Int) := ⟨spots.toNat - 1, by omega⟩
  refine cK (xT (cS (cR (sV (vM rfl) (sV (v_build (cells := [.slice a jobs.length cap, .slice none 0 0]) rfl (fun _ => by kernel_rfl)) ?_)))))
  refine st_alc al27 fun b6 => ?_
  refine st_stoW rfl rfl sz27 rfl rfl ?_
  refine sN (nK [1, 4, 6] rfl (nT (cS (cS (cR (sV (vA rfl) (sN (nT (cB (cd_vw (vw_nil 77 9) (cd_lq (σ := Nat × Value) (fun s => [(1, .int .i64 ((m + 1 : Nat) : Int)), (4, .pointer (some ⟨b4, 0, none⟩)), (6, .pointer (some ⟨b6, 0, none⟩)), (7, .int .i64 (s.1 : Nat))]) (fun s => pt b6 (cl [.slice a jobs.length cap, s.2] 27) :: VR s.2 77 9 (List.replicate s.1 (hpC PH.nil Proc.empty)) :: pt b4 (cl [.slice none 0 0, .slice none 0 0, .int .i64 0] 32) :: S :: hr) (fun s => s.1 ≤ m + 1 ∧ s.2.oneCell' = true) (fun s => m + 1 - s.1) (0, .slice none 0 0) ⟨Nat.zero_le _, rfl⟩ ?_)))))))))))
  rintro ⟨q, pv⟩ ⟨hq, h2⟩
  simp only at hq h2
  refine cS (cS (cR (sV (vM rfl) (sV (vM rfl) (sV (v_lss rfl rfl) (sN (nK [1, 4, 6, 7, 19] rfl (nT (cC rfl (fun hd2 => ?_) (fun hd2 => ?_))))))))))
  ·skip
   have hlt : q < m + 1 := by simp at hd2; omega
   refine cK (xT (cS (cB (cR (sV (vF rfl fa27_1 rfl) (sV (vY rfl ld25) ?_))))))
   refine sV (v_build (cells := hpC PH.nil Proc.empty) rfl (fun _ => by kernel_rfl)) ?_
   refine st_buildSlice (cells := hpC PH.nil Proc.empty) rfl Tryz.underlying25 inf77 rfl rfl (by kernel_rfl) (ltn rfl) fun b25 => ?_
   refine st_app [hpC PH.nil Proc.empty] rfl rfl Tryz.underlying25 inf77 rfl (by decide) slq (by simp [hpC, pC]) rfl (fun j u2 hu2 => at_here (rd_cl (by simpa using hu2))) (by simp [hpC, pC, PH.nil, Value.oneCell']) (by simp; omega) (by simp; omega) (ltn rfl) fun v' hv' _ => ?_
   refine sV (vF rfl fa27_1 rfl) (st_sto rfl rfl sz25 ?_)
   refine sN (nK [1, 4, 6, 7] rfl (nx_xt (xB (xT (cR (sV (vM rfl) (sV (v_add rfl rfl (by unfold I64 at *; omega)) (sV (vA rfl) (sN (nK [1, 4, 6, 7] rfl (nx_xt ?_)))))))))))
   rw [replicate_snoc]
   refine xt_aq (q + 1, v') ⟨hlt, hv'⟩ (by show _ - _ < _ - _; omega)
  ·skip
   have hqm : q = m + 1 := by simp at hd2; omega
   subst hqm
   refine cd_row (v := pv) slq (fun h0 hr0 => by simp at hr0) (fun pb po cp hpv hle hm => ?_)
   simp only [List.length_replicate] at hpv hle
   subst hpv
   rw [List.replicate_succ]
   refine cd_exit (xE (xE (xY (xT (cS (cR (sV (vF rfl fa27_1 rfl) (sV (vY rfl ld25) ?_))))))))
   refine sV (v_build (cells := [.int .i64 0, .bool false]) rfl (fun _ => by kernel_rfl)) ?_
   refine st_buildSlice (cells := [.int .i64 0, .bool false]) rfl Tryz.underlying118 inf117 rfl rfl (by kernel_rfl) (ltn rfl) fun b50 => ?_
   refine sV (v_build (cells := [.int .i64 0, .int .i64 0, .slice (some ⟨b50, 0, none⟩) 1 1, .bool true, .bool false]) rfl (fun _ => by kernel_rfl)) ?_
   refine st_buildSlice (cells := [.int .i64 0, .int .i64 0, .slice (some ⟨b50, 0, none⟩) 1 1, .bool true, .bool false]) rfl Tryz.underlying73 inf120 rfl rfl (by kernel_rfl) (ltn rfl) fun b52 => ?_
   refine sV (vI (k := 0) rfl rfl sl25 rfl (by omega) rfl) (sV (vF rfl fa77_0 rfl) (st_vr (sz := 9) (m := 0) (k := 0) rfl rfl sz73 rfl rfl (by decide) rfl slq ?_))
   refine sN (nK [4, 6] rfl (nT (cS (cR (sV (vF rfl fa27_1 rfl) (sV (vY rfl ld25) ?_))))))
   refine sV (v_build (cells := [.int .i64 0, .int .i64 0]) rfl (fun _ => by kernel_rfl)) ?_
   refine st_buildSlice (cells := [.int .i64 0, .int .i64 0]) rfl Tryz.underlying74 inf79 rfl rfl (by kernel_rfl) (ltn rfl) fun b54 => ?_
   refine sV (vI (k := 0) rfl rfl sl25 rfl (by omega) rfl) (sV (vF rfl fa77_1 rfl) (st_vr (sz := 9) (m := 0) (k := 1) rfl rfl sz74 rfl rfl (by decide) rfl slq ?_))
   refine sN (nK [4, 6] rfl (nT (cS (cR (sV (vF rfl fa27_1 rfl) (sV (vY rfl ld25) ?_))))))
   refine sV (vI (k := 0) rfl rfl sl25 rfl (by omega) rfl) (sV (vF rfl fa77_7 rfl) (st_vr (sz := 9) (m := 0) (k := 7) rfl rfl sz3 rfl rfl (by decide) rfl slq ?_))
   refine sN (nK [4, 6] rfl (nT (cS (cR (sV (v_ldn rfl ld27 rfl rds_pt) ?_)))))
   refine sV (v_build (cells := [.slice a jobs.length cap, .slice (some ⟨pb, po, none⟩) (m + 1) cp, .int .i64 0]) rfl (fun _ => by kernel_rfl)) ?_
   refine st_stoW rfl rfl sz32 rfl rfl ?_
   refine sN (nK [4] rfl (nT (cT (xt_pv (pv_new (jobs := jobs) (m := m) (b50 := b50) (b52 := b52) (b54 := b54)) ?_))))
   refine xt_pv (pv_pack (L := YO _ (m + 1) _ (Yard.new jobs (m + 1)).pr)) ?_
   refine xt_ok .here fun hok => ?_
   have hrow : Row (Res.star (YO (.slice (some ⟨pb, po, none⟩) (m + 1) cp) (m + 1) (upd (fun _ => PH.nil) 0 ⟨.slice (some ⟨b52, 0, none⟩) 1 1, .slice (some ⟨b54, 0, none⟩) 1 1, .slice none 0 0, .slice none 0 0, [.slice (some ⟨b50, 0, none⟩) 1 1]⟩) (Yard.new jobs (m + 1)).pr)) 9 (procR _) (.slice (some ⟨pb, po, none⟩) (m + 1) cp) ((List.range (m + 1)).map (Yard.new jobs (m + 1)).pr) := YO_row hok fun r hr a u h => rd_mem hr a u h
   have hnr : (List.range (m + 1)).map (Yard.new jobs (m + 1)).pr = (Yard.new jobs (m + 1)).procs := congrArg Yard.procs (new_range jobs (m + 1))
   rw [hnr] at hrow
   exact xt_retV (.cellN rfl ld32 rfl slq .nil) ⟨_, rfl, .inr ⟨hcc, .slice (some ⟨pb, po, none⟩) (m + 1) cp, rfl, hrow⟩⟩ sbr
end
end Go.Wt
