/-
  Package wait: full, step, Step. Conditions: what is read, bounds.
  Package wait: full, step, Step. Conditions: what is read, bounds.
  Yards that have come about by steps: what bounds them, that they are right. No condition.
  Yards that have come about by steps are right. No condition.
  Package wait: Step, Run. Conditions: what is read, bounds; of Run that the yard has come about by steps.
  Package wait: Run. Conditions: what is read, that the yard has come about by steps.
  Package wait: goes. Conditions: what is read, that the yard has come about by steps.
  Package wait: counted, Finish, puts. Conditions: what is read, that the yard has come about by steps.
  Package wait: puts; Replay's choice. Conditions: what is read, that the processor is right.
  Package wait: Replay. Conditions: what is read.
  Package wait: Replay. Conditions: what is read.
  The reference: SameInts, SameKeys, SameDid, sameLines, sameProc, SameYards. Conditions: what is read, that lists are not too long.
-/
import Derived.Test.YtboepbencndobaaGreatM9
set_option linter.unusedVariables false
set_option linter.unusedSimpArgs false
namespace Go.Wt
open Go Go.Ck Go.Proofs Go.Proofs.YtboepbencndobaaGreat Fx
attribute [local irreducible] St Cd Xt Nx DrL LsW
/-! ## Which jobs there are -/
theorem close_jobs (y : Yard) (h : Hold) : (y.close h).jobs = y.jobs := by rcases close_cases y h with e | ⟨_, _, _, e⟩ <;> rw [e] <;> rfl
theorem leave_jobs (y : Yard) (i : Nat) : (y.leave i).jobs = y.jobs := by
  unfold Yard.leave; split
  · rfl
  · rw [close_jobs]; rfl
theorem leaves_jobs (i : Nat) : ∀ (k : Nat) (y : Yard), (y.leaves i k).jobs = y.jobs
  | 0, _ => rfl
  | k + 1, y => (leaves_jobs i k _).trans (leave_jobs y i)
theorem ends_jobs : ∀ (m : Nat) (y : Yard) (i : Nat) (failed : Bool), (Yard.ends m y i failed).jobs = y.jobs
  | 0, y, i, failed => rfl
  | m + 1, y, i, failed => by
    unfold Yard.ends
    simp only
    split
    · exact leaves_jobs ..
    · split
      · split
        · split
          · rw [ends_jobs]; exact leaves_jobs ..
          · exact leaves_jobs ..
        · exact leaves_jobs ..
      · exact leaves_jobs ..
theorem answer_jobs (m : Nat) (y : Yard) (s i : Nat) (failed : Bool) : (y.answer m s i failed).jobs = y.jobs := by
  unfold Yard.answer
  split
  · simp only
    split
    · rw [ends_jobs]; rfl
    · rfl
  · rfl
theorem take_jobs (y : Yard) (i : Nat) : (y.take i).jobs = y.jobs := by
  unfold Yard.take
  simp only
  split
  · rfl
  · split
    · rfl
    · split
      · split
        · rw [answer_jobs]; rfl
        · rfl
      · rfl
theorem enter_jobs (y : Yard) (i : Nat) (to : Int) : (y.enter i to).jobs = y.jobs := by unfold Yard.enter; split <;> rfl
theorem ask_jobs (y : Yard) (i : Nat) (m : Move) : (y.ask i m).jobs = y.jobs := by
  unfold Yard.ask
  split
  · rfl
  · split
    · exact ends_jobs ..
    · split
      · exact ends_jobs ..
      · simp only; split <;> rfl
theorem deed_jobs (y : Yard) (i : Nat) (m : Move) : (y.deed i m).jobs = y.jobs := by
  unfold Yard.deed
  split
  · exact enter_jobs ..
  · split
    · exact leave_jobs ..
    · split
      · exact ask_jobs ..
      · split
        · rfl
        · exact ends_jobs ..
theorem move_jobs (y : Yard) (i : Nat) : (y.move i).jobs = y.jobs := by
  unfold Yard.move
  simp only
  split
  · exact ends_jobs ..
  · rw [deed_jobs]; rfl
theorem step_jobs (y : Yard) (i : Nat) : (y.step i).jobs = y.jobs := by
  unfold Yard.step
  split
  · exact move_jobs ..
  · exact take_jobs ..
/-! ## Bounds behind a step -/
theorem PB.job {n B : Nat} {p : Proc} (h : PB n B p) (j pc w : Int) (wt : Bool) : PB n B { p with job := j, pc := pc, waited := wt, waits := w } := ⟨h.lines, h.puts, h.holds, h.did, h.asks, h.made, h.hs, h.ks⟩
theorem YBd.take {n B : Nat} {y : Yard} (hy : YBd n B y) {i : Nat} (hi : i < n) : YBd n (B + (n + 2)) (y.take i) := by
  have hp := hy.pb i hi
  cases hl : (y.pr i).lines with
  | nil =>
    have : y.take i = y := by unfold Yard.take; simp only [hl]
    rw [this]; exact hy.le (by omega)
  | cons l t =>
    rw [take_eq hl]
    have hlm : l ∈ (y.pr i).lines := by rw [hl]; simp
    have htl : ∀ x ∈ t, x ∈ (y.pr i).lines := fun x hx => by rw [hl]; simp [hx]
    have hll := hp.lines
    rw [hl] at hll
    simp only [List.length_cons] at hll
    cases ha : l.asks with
    | nil =>
      refine YBd.le (B := B) (hy.put ⟨by show t.length ≤ B; omega, hp.puts, hp.holds, hp.did, fun x hx => hp.asks x (htl x hx), hp.made, hp.hs, fun x hx => hp.ks x (htl x hx)⟩) (by omega)
    | cons a r =>
      have hal := hp.asks l hlm
      rw [ha] at hal
      simp only [List.length_cons] at hal
      have key : ∀ d : List Did, d.length ≤ B + 1 → ∀ j pc w wt, PB n (B + 1) { y.pr i with lines := { l with asks := r } :: t, did := d, job := j, pc := pc, waited := wt, waits := w } := fun d hd j pc w wt =>
        ⟨by simp only [List.length_cons]; omega, by have := hp.puts; simp; omega, by have := hp.holds; simp; omega, hd, fun x hx => by
          rcases List.mem_cons.1 hx with rfl | hx
          · simp; omega
          · have := hp.asks x (htl x hx); omega, by have := hp.made; simp; omega, hp.hs, fun x hx => by
          rcases List.mem_cons.1 hx with rfl | hx
          · exact hp.ks l hlm
          · exact hp.ks x (htl x hx)⟩
      have hd1 : ((y.pr i).did ++ [(l.key, a.1, true, false)]).length ≤ B + 1 := by have := hp.did; simp; omega
      have h1 : YBd n (B + 1) (y.put i { y.pr i with lines := { l with asks := r } :: t, did := (y.pr i).did ++ [(l.key, a.1, true, false)] }) := (hy.le (Nat.le_succ B)).put (key _ hd1 _ _ _ _)
      simp only
      split
      · split
        · have := YBd.answer (y.procs.length + 1) (B + 1) (i := i) (failed := true) h1 (s := l.key.1.toNat) (by have := hp.ks l hlm; omega)
          rw [hy.len] at this ⊢
          exact this.le (by omega)
        · exact h1.le (by omega)
      · exact YBd.le (B := B + 1) ((hy.le (Nat.le_succ B)).put (key (y.pr i).did (by have := hp.did; omega) _ _ _ _)) (by omega)
theorem YBd.fin {n B : Nat} {y : Yard} (hy : YBd n B y) {i : Nat} (hi : i < n) (f : Bool) : YBd n (B + (n + 1)) (y.fin i f) := by
  unfold Yard.fin; rw [hy.len]; exact YBd.ends (n + 1) B hy hi
theorem YBd.enter {n B : Nat} {y : Yard} (hy : YBd n B y) {i : Nat} (hi : i < n) {to : Int} (h0 : 0 ≤ to) (h1 : to < n) : YBd n (B + 1) (y.enter i to) := by
  unfold Yard.enter
  have hp := hy.pb i hi
  split
  · exact (hy.le (Nat.le_succ B)).put ⟨by have := hp.lines; simp; omega, by have := hp.puts; simp; omega, by have := hp.holds; simp; omega, by have := hp.did; simp; omega, fun l hl => by have := hp.asks l hl; omega, by have := hp.made; simp; omega, fun h hh => by
      rcases List.mem_append.1 hh with hh | hh
      · exact hp.hs h hh
      · simp at hh; subst hh; exact ⟨h0, h1⟩, hp.ks⟩
  · have hl := hy.lay hi (j := to.toNat) (by omega) false (asks := []) (Nat.zero_le _)
    have hq := hl.pb i hi
    have hh0 : ((y.lay i to.toNat false []).pr i).holds = (y.pr i).holds := by
      unfold Yard.lay
      simp only
      by_cases hit : i = to.toNat
      · rw [← hit, put_same (by rw [put_len, hy.len]; exact hi), put_same (by rw [hy.len]; exact hi)]
      · rw [put_ne _ hit, put_same (by rw [hy.len]; exact hi)]
    refine hl.put ⟨hq.lines, hq.puts, by simp only [hh0]; have := hp.holds; simp; omega, hq.did, hq.asks, hq.made, fun h hh => ?_, hq.ks⟩
    rcases List.mem_append.1 hh with hh | hh
    · exact hq.hs h hh
    · simp at hh; subst hh; exact ⟨h0, h1⟩
theorem YBd.ask {n B : Nat} {y : Yard} (hy : YBd n B y) {i : Nat} (hi : i < n) {m : Move} (h0 : 0 ≤ m.2.1) (h1 : m.2.1 < n) : YBd n (B + (n + 1)) (y.ask i m) := by
  unfold Yard.ask
  split
  · exact hy.le (by omega)
  · split
    · exact hy.fin hi true
    · split
      · exact hy.fin hi true
      · rename_i j hj
        unfold Proc.line at hj
        have hjl := (List.findIdx?_eq_some_iff_getElem.1 hj).1
        have hq := hy.pb m.2.1.toNat (by omega)
        have hgd : (y.pr m.2.1.toNat).lines.getD j Line.none = (y.pr m.2.1.toNat).lines[j] := by rw [List.getD_eq_getElem?_getD, List.getElem?_eq_getElem hjl]; rfl
        simp only [hgd]
        have ha := hq.asks _ (List.getElem_mem hjl)
        have hy1 : YBd n (B + 1) (y.put m.2.1.toNat ((y.pr m.2.1.toNat).setl j { (y.pr m.2.1.toNat).lines[j] with asks := (y.pr m.2.1.toNat).lines[j].asks ++ [(m.2.2, m.1 == 4)] })) :=
          (hy.le (Nat.le_succ B)).put ((hq.le (Nat.le_succ B)).setl (List.getElem?_eq_getElem hjl) (by simp; omega) rfl)
        split
        · exact (hy1.put ((hy1.pb i hi).job _ _ _ _)).le (by omega)
        · exact hy1.le (by omega)
theorem YBd.deed {n B : Nat} {y : Yard} (hy : YBd n B y) {i : Nat} (hi : i < n) {m : Move} (h0 : 0 ≤ m.2.1) (h1 : m.2.1 < n) : YBd n (B + (n + 1)) (y.deed i m) := by
  unfold Yard.deed
  split
  · exact (hy.enter hi h0 h1).le (by omega)
  · split
    · exact (hy.leave hi).le (by omega)
    · split
      · exact hy.ask hi h0 h1
      · split
        · exact (hy.lay hi (j := m.2.1.toNat) (by omega) true (asks := [(m.2.2, false)]) (by simp)).le (by omega)
        · exact hy.fin hi true
theorem YBd.move {n B : Nat} {y : Yard} (hy : YBd n B y) {i : Nat} (hi : i < n) (hok : JobOk y n i) : YBd n (B + (n + 2)) (y.move i) := by
  unfold Yard.move
  simp only
  split
  · exact (hy.fin hi false).le (by omega)
  · rename_i hne
    have hy1 : YBd n B (y.put i { y.pr i with pc := (y.pr i).pc + 1 }) := hy.put ((hy.pb i hi).job _ _ _ _)
    have hm : y.mv (y.pr i).job (y.pr i).pc ∈ y.jobs.getD (y.pr i).job.toNat [] := by
      unfold Yard.mv
      have h1 : (y.pr i).pc.toNat < (y.jobs.getD (y.pr i).job.toNat []).length := by
        have := hok.pc; unfold Yard.jlen at this hne; omega
      rw [List.getD_eq_getElem?_getD (l := y.jobs.getD (y.pr i).job.toNat []), List.getElem?_eq_getElem h1]
      exact List.getElem_mem h1
    have := moved_kind (hok.mv _ hm) (by omega)
    exact (hy1.deed hi this.2.1 this.2.2).le (by omega)
theorem YBd.step {n B : Nat} {y : Yard} (hy : YBd n B y) {i : Nat} (hi : i < n) (hok : 0 ≤ (y.pr i).job → JobOk y n i) : YBd n (B + (n + 2)) (y.step i) := by
  unfold Yard.step
  split
  · rename_i h; exact hy.move hi (hok h)
  · exact hy.take hi
theorem own_range {y : Yard} {n : Nat} (h : y.procs.length = n) : (⟨y.jobs, (List.range n).map y.pr⟩ : Yard) = y := by
  apply Yard.ext'
  · rfl
  · subst h
    apply List.ext_getElem
    · simp
    · intro i h1 h2
      simp at h1
      rw [List.getElem_map, List.getElem_range, pr_get h1]
end Go.Wt
namespace Go.Wt
open Go Go.Ck Go.Proofs Go.Proofs.YtboepbencndobaaGreat Fx
attribute [local irreducible] St Cd Xt Nx DrL LsW
section
variable {S : Res}
def notFull (p : Proc) : Bool := decide ((p.did.length : Int) ≤ 400) && decide ((p.puts.length : Int) ≤ 400) && decide ((p.lines.length : Int) ≤ 400) && p.lines.all fun l => decide ((l.asks.length : Int) ≤ 400)
set_option maxRecDepth 100000 in
theorem full1_ct {us : List Value} {l : Line} (hl : lineR S us l) : Reads Tryz.prog 151 #[.agg us.toArray] [S] (.bool (decide ((l.asks.length : Int) ≤ 400))) := by
  obtain ⟨av, rfl, hA⟩ := hl
  obtain ⟨aa, ca, rfl, _⟩ := id hA
  refine ct_of (n := 7) Tryz.func151 rfl rfl (len rfl) fun hr w0 => ?_
  refine cS (cR (st_bx rfl rfl fun b1 => ?_))
  refine sV (vA rfl) (sN (nK [1, 2] rfl (nT (cS (cR (sV (vF rfl fa120_1 rfl) (sV (v_ldy rfl ld118) ?_)))))))
  refine sV (v_len rfl Tryz.underlying118) (sV (v_leq rfl rfl) (sV (vA rfl) (sN (nK [2] rfl (nT (cT ?_))))))
  exact xt_rt rfl ⟨rfl, rfl⟩
set_option maxRecDepth 100000 in
theorem full2_ct {us : List Value} {p : Proc} (hp : procR S us p) (hf : FitP p) : Reads Tryz.prog 150 #[.agg us.toArray] [S] (.bool (notFull p)) := by
  obtain ⟨lv, pv, hv, dv, rfl, hL, hP, hH, hD⟩ := hp
  obtain ⟨al, cl', rfl, _⟩ := id hL
  obtain ⟨ap', cp', rfl, _⟩ := id hP
  obtain ⟨ah, ch', rfl, _⟩ := id hH
  obtain ⟨ad, cd', rfl, _⟩ := id hD
  unfold notFull
  refine ct_of (n := 24) Tryz.func150 rfl rfl (len rfl) fun hr w0 => ?_
  refine cS (cR (st_bx rfl rfl fun b1 => ?_))
  refine sV (vA rfl) (sN (nK [1, 2] rfl (nT (cS (cR (sV (vF rfl fa77_8 rfl) (sV (v_ldy rfl ld62) ?_)))))))
  refine sV (v_len rfl Tryz.underlying62) (sV (v_leq rfl rfl) (sV (vM rfl) (st_cut (k := 10) (d := 12) (v := .bool (decide ((p.did.length : Int) ≤ 400) && decide ((p.puts.length : Int) ≤ 400))) (fun hcut => bool_want (b := decide ((p.did.length : Int) ≤ 400)) true (fun hg => ?_) (fun hg => ?_)) ?_)))
  · refine st_sk rfl rfl hg ?_
    refine st_sk rfl rfl hg ?_
    refine st_sk rfl rfl hg ?_
    refine st_sk rfl rfl hg ?_
    refine sV (vP (bool_ev rfl hg) rfl) ?_
    exact hcut _ (ssub_head (by first | rfl | (rw [hg]; rfl) | simp_all) (uS rfl (uS rfl (uS rfl (uS rfl (ssub_refl))))))
  · skip
    refine st_vg rfl (bG rfl hg) (vF rfl fa77_1 rfl) (st_vg rfl (bG rfl hg) (v_ldy rfl ld74) ?_)
    refine st_vg rfl (bG rfl hg) (v_len rfl Tryz.underlying74) (st_vg rfl (bG rfl hg) (v_leq rfl rfl) (sV (v_pick_true (bool_ev rfl hg) rfl) ?_))
    exact hcut _ (ssub_head (by first | rfl | (rw [hg]; rfl) | simp_all) (uS rfl (uS rfl (uS rfl (uS rfl (ssub_refl))))))
  refine sV (vM rfl) (st_cut (k := 16) (d := 18) (v := .bool (decide ((p.did.length : Int) ≤ 400) && decide ((p.puts.length : Int) ≤ 400) && decide ((p.lines.length : Int) ≤ 400))) (fun hcut => bool_want (b := (decide ((p.did.length : Int) ≤ 400) && decide ((p.puts.length : Int) ≤ 400))) true (fun hg => ?_) (fun hg => ?_)) ?_)
  · refine st_sk rfl rfl hg ?_
    refine st_sk rfl rfl hg ?_
    refine st_sk rfl rfl hg ?_
    refine st_sk rfl rfl hg ?_
    refine sV (vP (bool_ev rfl hg) rfl) ?_
    exact hcut _ (ssub_head (by first | rfl | (rw [hg]; rfl) | simp_all) (uS rfl (uS rfl (uS rfl (uS rfl (ssub_refl))))))
  · skip
    refine st_vg rfl (bG rfl hg) (vF rfl fa77_0 rfl) (st_vg rfl (bG rfl hg) (v_ldy rfl ld73) ?_)
    refine st_vg rfl (bG rfl hg) (v_len rfl Tryz.underlying73) (st_vg rfl (bG rfl hg) (v_leq rfl rfl) (sV (v_pick_true (bool_ev rfl hg) rfl) ?_))
    exact hcut _ (ssub_head (by first | rfl | (rw [hg]; rfl) | simp_all) (uS rfl (uS rfl (uS rfl (uS rfl (ssub_refl))))))
  refine sV (vM rfl) (st_cut (k := 21) (d := 23) (v := .bool (decide ((p.did.length : Int) ≤ 400) && decide ((p.puts.length : Int) ≤ 400) && decide ((p.lines.length : Int) ≤ 400) && p.lines.all fun l => decide ((l.asks.length : Int) ≤ 400))) (fun hcut => bool_want (b := (decide ((p.did.length : Int) ≤ 400) && decide ((p.puts.length : Int) ≤ 400) && decide ((p.lines.length : Int) ≤ 400))) true (fun hg => ?_) (fun hg => ?_)) ?_)
  · refine st_sk rfl rfl hg ?_
    refine st_sk rfl rfl hg ?_
    refine st_sk rfl rfl hg ?_
    refine sV (vP (bool_ev rfl hg) rfl) ?_
    exact hcut _ (ssub_head (by first | rfl | (rw [hg]; rfl) | simp_all) (uS rfl (uS rfl (uS rfl (ssub_refl)))))
  · skip
    refine st_vg rfl (bG rfl hg) (vF rfl fa77_0 rfl) (st_vg rfl (bG rfl hg) (v_ldy rfl ld73) ?_)
    refine st_clrg rfl (bG rfl hg) rfl rfl en139 rfl (al139_ct (g := fun l : Line => decide ((l.asks.length : Int) ≤ 400)) hL hf.1 en151 fun x hx us hus hX => full1_ct hX) ?_
    refine sV (v_pick_true (bool_ev rfl hg) rfl) ?_
    exact hcut _ (ssub_head (by first | rfl | (rw [hg]; rfl) | simp_all) (uS rfl (uS rfl (uS rfl (ssub_refl)))))
  refine sV (vA rfl) (sN (nK [2] rfl (nT (cT ?_))))
  exact xt_rt rfl ⟨rfl, rfl⟩
set_option maxRecDepth 100000 in
theorem full_ct {jv pv : Value} {y : Yard} (hp : Row S 9 (procR S) pv y.procs) (hl : y.procs.length ≤ 1000000) (hf : ∀ p ∈ y.procs, FitP p) : Reads Tryz.prog 122 #[.agg #[jv, pv]] [S] (.bool y.full) := by
  have he : y.full = !y.procs.all notFull := rfl
  rw [he]
  refine ct_of (n := 7) Tryz.func122 rfl rfl (len rfl) fun hr w0 => ?_
  refine cS (cR (st_bx rfl rfl fun b1 => ?_))
  refine sV (vA rfl) (sN (nK [1, 2] rfl (nT (cS (cR (sV (vF rfl fa27_1 rfl) (sV (v_ldy rfl ld25) ?_)))))))
  refine st_clr rfl rfl en149 rfl (al149_ct (g := notFull) hp hl en150 fun x hx us hus hX => full2_ct hX (hf x hx)) ?_
  refine sV (v_not rfl) (sV (vA rfl) (sN (nK [2] rfl (nT (cT ?_)))))
  exact xt_rt rfl ⟨rfl, rfl⟩
theorem fit_of {n B : Nat} {y : Yard} (hy : YBd n B y) (hB : B ≤ 1000000) (hn : n ≤ 1000000) (hj : Fits y.jobs) : Fit y := ⟨hj, by rw [hy.len]; exact hn, fun p hp => by
  obtain ⟨i, hi, rfl⟩ := List.mem_iff_getElem.1 hp
  have := hy.pb i (by rw [← hy.len]; exact hi)
  rw [pr_get hi] at this
  exact ⟨by have := this.lines; omega, by have := this.puts; omega, by have := this.holds; omega, by have := this.did; omega, fun l hl => by have := this.asks l hl; omega⟩⟩
set_option maxHeartbeats 1000000 in
set_option maxRecDepth 100000 in
theorem step_ct {ys : List Value} {y : Yard} {n B i : Nat} (hy : yardR S ys y) (hf : Fit y) (hb : YBd n B y) (hB : B + (n + 3) ≤ 1000000) (hi : i < n) (hok : 0 ≤ (y.pr i).job → JobOk y n i) (hl : (y.pr i).job < 0 → (y.pr i).lines ≠ []) :
    CtN Tryz.prog 76 #[.agg ys.toArray, .int .i64 i] [S] fun u T => ∃ ys', u = .tuple #[.agg ys'.toArray, .int .i64 (y.stepE i).2] ∧ yardR T ys' (y.stepE i).1 := by
  obtain ⟨jv, pv, rfl, hj, hp⟩ := id hy
  have hlen := hb.len
  have hn : 0 < n := by omega
  have he : y.stepE i = if (y.step i).full = true then (Yard.nil, 3) else (y.step i, 0) := rfl
  have hst : y.step i = if 0 ≤ (y.pr i).job then y.move i else y.take i := rfl
  have hbs := hb.step hi hok
  have hfs : Fit (y.step i) := fit_of hbs (by omega) (by omega) (by rw [step_jobs]; exact hf.1)
  have hrange : (List.range n).map (y.step i).pr = (y.step i).procs := congrArg Yard.procs (own_range hbs.len)
  have hfc : ∀ (jv' : Value) (pb po pc : Nat) (H' : Nat → PH), Reads Tryz.prog 122 #[.agg #[jv', .slice (some ⟨pb, po, none⟩) n pc]] (YO (.slice (some ⟨pb, po, none⟩) n pc) n H' (y.step i).pr) (.bool (y.step i).full) := fun jv' pb po pc H' => reads_YO (x := []) fun hok => by
    have h1 := YO_row (S := Res.star (YO (.slice (some ⟨pb, po, none⟩) n pc) n H' (y.step i).pr)) hok fun r hr a u hu => rd_mem hr a u hu
    rw [hrange] at h1
    exact full_ct (jv := jv') h1 hfs.2.1 hfs.2.2
  have hown : (⟨y.jobs, (List.range n).map (y.step i).pr⟩ : Yard) = y.step i := by rw [← step_jobs y i]; exact own_range hbs.len
  refine ct_of (n := 26) Tryz.func76 rfl rfl (len rfl) fun hr w0 => ?_
  refine cS (cR (st_bx rfl rfl fun b2 => ?_))
  refine st_alc al27 fun b4 => ?_
  refine sV (vA rfl) (sN (nK [1, 2, 4, 5] rfl (nT (cS (cR (sV (v_ldn rfl ld27 rfl rds_pt) ?_))))))
  refine st_cl rfl rfl en75 rfl (copied_ct hy hf) ?_
  rintro u h' ⟨jv', pv', H, hs, rfl, rfl⟩
  rw [hlen]
  simp only [List.append_assoc, List.cons_append, List.nil_append]
  refine st_rowf (v := jv') (E := 108) (sz := 1) (rows := hs.map fun h => [h]) (by repeat (first | exact Sel.here | apply Sel.there)) fun ja jc hje _ _ => ?_
  subst hje
  refine st_row (v := pv') (E := 77) (sz := 9) (rows := (List.range n).map fun k => hpC (H k) (y.pr k)) (by repeat (first | exact Sel.here | apply Sel.there)) (fun _ h0 => by simp at h0; omega) fun pb po pc hpe _ _ => ?_
  simp only [List.length_map, List.length_range] at hpe
  subst hpe
  generalize hjv : Value.slice ja (hs.map fun h => [h]).length jc = jv'
  have hj1 : jv'.oneCell' = true := by rw [← hjv]; rfl
  clear hjv
  refine st_pv (pv_pack (L := JO jv' hs y.jobs)) ?_
  refine st_ok (r := Res.star (JO jv' hs y.jobs)) (by repeat (first | exact Sel.here | apply Sel.there)) fun hok1 => ?_
  have hJ : Row (Res.star (JO jv' hs y.jobs)) 1 (jobR (Res.star (JO jv' hs y.jobs))) jv' y.jobs := JO_row hok1 fun r hr a u hu => rd_mem hr a u hu
  refine st_alc al27 fun b6 => ?_
  refine st_stoW rfl rfl sz27 rfl (by rw [List.all_cons, hj1]; rfl) ?_
  refine sN (nK [1, 4, 5, 6] rfl (nT (cS (cS (cd_pv (pv_focus (pv := .slice (some ⟨pb, po, none⟩) n pc) (H := H) (f := y.pr) hi) ?_)))))
  generalize hG : H i = G
  have hself := put_self (y := y) (i := i) (by omega)
  generalize hq : y.pr i = q at *
  refine cR (sV (vF rfl fa27_1 rfl) (sV (v_ldy rfl ld25) ?_))
  refine sV (vM rfl) (sV (v_indexAddr (k := i) rfl rfl sl25 rfl hi rfl) (sV (vF rfl fa77_2 rfl) (sV (v_ldy rfl ld3) ?_)))
  refine sV (v_geq rfl rfl) (sN (nK [1, 4, 5, 6, 15] rfl (nT (cC rfl (fun hc => ?_) (fun hc => ?_)))))
  · skip
    have hc2 : 0 ≤ q.job := by simpa using hc
    rw [if_pos hc2] at hst
    refine cd_pv (pv_unfocus (y := y) (G := G) (p := q) hlen hi) ?_
    rw [hself]
    refine cR (sV (v_build (cells := [.pointer (some ⟨b6, 0, none⟩)]) rfl (fun _ => by kernel_rfl)) ?_)
    refine sV (vM rfl) (st_cl rfl rfl en120 rfl (move_ct hb hB hi hJ hf.1 (hok hc2)) ?_)
    rintro u h' ⟨rfl, H', rfl⟩
    rw [← hst]
    refine sN (nK [4, 5, 6] rfl (nT (cS (cS (cR (sV (v_ldn rfl ld27 rfl rds_pt) ?_))))))
    refine st_clr rfl rfl en122 rfl (hfc jv' pb po pc H') ?_
    refine sN (nK [4, 5, 6, 23] rfl (nT (cC rfl (fun hfull => ?_) (fun hfull => ?_))))
    · skip
      rw [if_pos hfull] at he
      rw [he]
      refine cS (cR (sV (v_build (cells := [.slice none 0 0, .slice none 0 0]) rfl (fun _ => by kernel_rfl)) ?_))
      refine st_stoW rfl rfl sz27 rfl rfl ?_
      refine sV (vA rfl) (sN (nK [4, 5, 6] rfl (nT (cT (xR (xt_vw (vw_pure (φ := True) trivial) ?_))))))
      exact xt_retV (.cellN rfl ld27 rfl (by repeat (first | exact Sel.here | apply Sel.there)) (.tmp rfl .nil)) ⟨pureR True, rfl, _, rfl, nil_yard _⟩ (by repeat (first | exact Sub.refl _ | exact Sub.nil _ | refine Sub.sel (by repeat (first | exact Sel.here | apply Sel.there)) ?_ | apply Sub.cons))
    · skip
      rw [if_neg (by simpa using hfull)] at he
      rw [he]
      refine cK (xT (cS (cR (sV (v_ldn rfl ld27 rfl rds_pt) ?_))))
      refine st_stoW rfl rfl sz27 rfl (by rw [List.all_cons, hj1]; rfl) ?_
      refine sV (vA rfl) (sN (nK [4, 5] rfl (nT (cT (xt_pv (pv_unpack (L := JO jv' hs y.jobs)) ?_)))))
      refine xt_pv (pv_pack (L := JO jv' hs y.jobs ++ YO (.slice (some ⟨pb, po, none⟩) n pc) n H' (y.step i).pr)) ?_
      refine xt_ok .here fun hok2 => ?_
      have hyy := own_yard (jv := jv') (pv := .slice (some ⟨pb, po, none⟩) n pc) hok2 (fun r h => h) (fun g hg => (HoldsF.append.1 hg).1) (fun g hg => (HoldsF.append.1 hg).2.1)
      rw [hown] at hyy
      exact xt_retV (.cellN rfl ld27 rfl (by repeat (first | exact Sel.here | apply Sel.there)) (.tmp rfl .nil)) ⟨_, rfl, _, rfl, hyy⟩ (by repeat (first | exact Sub.refl _ | exact Sub.nil _ | refine Sub.sel (by repeat (first | exact Sel.here | apply Sel.there)) ?_ | apply Sub.cons))
  · skip
    have hc2 : q.job < 0 := by have : ¬ 0 ≤ q.job := by simpa using hc
                               omega
    rw [if_neg (by omega)] at hst
    refine cd_pv (pv_unfocus (y := y) (G := G) (p := q) hlen hi) ?_
    rw [hself]
    refine cR (sV (v_build (cells := [.pointer (some ⟨b6, 0, none⟩)]) rfl (fun _ => by kernel_rfl)) ?_)
    refine sV (vM rfl) (st_cl rfl rfl en121 rfl (take_ct hb hB hi (by rw [hq]; exact hl hc2)) ?_)
    rintro u h' ⟨rfl, H', rfl⟩
    rw [← hst]
    refine sN (nK [4, 5, 6] rfl (nT (cS (cS (cR (sV (v_ldn rfl ld27 rfl rds_pt) ?_))))))
    refine st_clr rfl rfl en122 rfl (hfc jv' pb po pc H') ?_
    refine sN (nK [4, 5, 6, 23] rfl (nT (cC rfl (fun hfull => ?_) (fun hfull => ?_))))
    · skip
      rw [if_pos hfull] at he
      rw [he]
      refine cS (cR (sV (v_build (cells := [.slice none 0 0, .slice none 0 0]) rfl (fun _ => by kernel_rfl)) ?_))
      refine st_stoW rfl rfl sz27 rfl rfl ?_
      refine sV (vA rfl) (sN (nK [4, 5, 6] rfl (nT (cT (xR (xt_vw (vw_pure (φ := True) trivial) ?_))))))
      exact xt_retV (.cellN rfl ld27 rfl (by repeat (first | exact Sel.here | apply Sel.there)) (.tmp rfl .nil)) ⟨pureR True, rfl, _, rfl, nil_yard _⟩ (by repeat (first | exact Sub.refl _ | exact Sub.nil _ | refine Sub.sel (by repeat (first | exact Sel.here | apply Sel.there)) ?_ | apply Sub.cons))
    · skip
      rw [if_neg (by simpa using hfull)] at he
      rw [he]
      refine cK (xT (cS (cR (sV (v_ldn rfl ld27 rfl rds_pt) ?_))))
      refine st_stoW rfl rfl sz27 rfl (by rw [List.all_cons, hj1]; rfl) ?_
      refine sV (vA rfl) (sN (nK [4, 5] rfl (nT (cT (xt_pv (pv_unpack (L := JO jv' hs y.jobs)) ?_)))))
      refine xt_pv (pv_pack (L := JO jv' hs y.jobs ++ YO (.slice (some ⟨pb, po, none⟩) n pc) n H' (y.step i).pr)) ?_
      refine xt_ok .here fun hok2 => ?_
      have hyy := own_yard (jv := jv') (pv := .slice (some ⟨pb, po, none⟩) n pc) hok2 (fun r h => h) (fun g hg => (HoldsF.append.1 hg).1) (fun g hg => (HoldsF.append.1 hg).2.1)
      rw [hown] at hyy
      exact xt_retV (.cellN rfl ld27 rfl (by repeat (first | exact Sel.here | apply Sel.there)) (.tmp rfl .nil)) ⟨_, rfl, _, rfl, hyy⟩ (by repeat (first | exact Sub.refl _ | exact Sub.nil _ | refine Sub.sel (by repeat (first | exact Sel.here | apply Sel.there)) ?_ | apply Sub.cons))
end
end Go.Wt
namespace Go.Wt
theorem put_cases (y : Yard) (i : Nat) (p : Proc) (k : Nat) : (y.put i p).pr k = y.pr k ∨ (k = i ∧ (y.put i p).pr k = p) := by
  by_cases hk : k = i
  · by_cases hi : i < y.procs.length
    · subst hk; exact .inr ⟨rfl, put_same hi p⟩
    · left
      have : y.put i p = y := by
        apply Yard.ext'
        · rfl
        · exact List.set_eq_of_length_le (by omega)
      rw [this]
  · exact .inl (put_ne p hk)
structure HM (M : Nat) (y : Yard) : Prop where
  all : ∀ i, ((y.pr i).holds.length : Int) ≤ (y.pr i).pc ∧ (y.pr i).made ≤ M
instance {M : Nat} {y : Yard} : CoeFun (HM M y) fun _ => ∀ i, ((y.pr i).holds.length : Int) ≤ (y.pr i).pc ∧ (y.pr i).made ≤ M := ⟨HM.all⟩
theorem HM.put {M : Nat} {y : Yard} (h : HM M y) {i : Nat} {p : Proc} (h1 : (p.holds.length : Int) ≤ p.pc) (h2 : p.made ≤ M) : HM M (y.put i p) := ⟨fun k => by
  rcases put_cases y i p k with e | ⟨_, e⟩
  · rw [e]; exact h k
  · rw [e]; exact ⟨h1, h2⟩⟩
theorem HM.le {M M' : Nat} {y : Yard} (h : HM M y) (hm : M ≤ M') : HM M' y := ⟨fun k => ⟨(h k).1, by have := (h k).2; omega⟩⟩
theorem HM.close {M : Nat} {y : Yard} (h : HM M y) (x : Hold) : HM M (y.close x) := by
  rcases close_cases y x with e | ⟨j, l, _, e⟩
  · rw [e]; exact h
  · rw [e]; exact h.put (h _).1 (h _).2
theorem HM.leave {M : Nat} {y : Yard} (h : HM M y) (i : Nat) : HM M (y.leave i) := by
  unfold Yard.leave
  split
  · exact h
  · refine (h.put (i := i) (p := { y.pr i with holds := (y.pr i).holds.dropLast }) ?_ (h i).2).close _
    have := (h i).1
    simp only [List.length_dropLast]
    omega
theorem HM.leaves {M : Nat} (i : Nat) : ∀ (k : Nat) {y : Yard}, HM M y → HM M (y.leaves i k)
  | 0, _, h => h
  | k + 1, _, h => HM.leaves i k (h.leave i)
theorem leaves_nil {i : Nat} : ∀ (k : Nat) {y : Yard}, (y.pr i).holds.length = k → ((y.leaves i k).pr i).holds = []
  | 0, y, h => List.eq_nil_of_length_eq_zero h
  | k + 1, y, h => by
    have hi : i < y.procs.length := by
      rcases Nat.lt_or_ge i y.procs.length with hi | hi
      · exact hi
      · have : y.pr i = Proc.empty := by unfold Yard.pr; rw [List.getD_eq_getElem?_getD, List.getElem?_eq_none hi]; rfl
        rw [this] at h; cases h
    exact leaves_nil k (y := y.leave i) (by rw [leave_holds hi, List.length_dropLast]; omega)
theorem HM.ends {M : Nat} : ∀ (m : Nat) {y : Yard} {i : Nat} {f : Bool}, HM M y → HM M (Yard.ends m y i f)
  | 0, _, _, _, h => h
  | m + 1, y, i, f, h => by
    unfold Yard.ends
    simp only
    have hz := HM.leaves i (y.pr i).holds.length h
    have hn := leaves_nil (i := i) (y.pr i).holds.length (y := y) rfl
    generalize y.leaves i (y.pr i).holds.length = z at hz hn ⊢
    have hp : HM M ((z.put i { z.pr i with job := -1, pc := 0, waited := false })) := hz.put (by simp [hn]) (hz i).2
    have hz0 : ∀ (q : Proc), q = (z.put i { z.pr i with job := -1, pc := 0, waited := false }).pr i → ((q.holds.length : Int) ≤ q.pc) ∧ q.made ≤ M := fun q hq => hq ▸ hp i
    split
    · exact hp
    · rename_i l t _
      have hp2 := hp.put (i := i) (p := { (z.put i { z.pr i with job := -1, pc := 0, waited := false }).pr i with did := (z.pr i).did ++ [(l.key, (z.pr i).job, false, f)], lines := { l with broken := l.broken || f } :: t }) (hp i).1 (hp i).2
      generalize (z.put i { z.pr i with job := -1, pc := 0, waited := false }).put i _ = w at hp2 ⊢
      split
      · split
        · have hp3 := hp2.put (i := l.key.1.toNat) (p := { w.pr l.key.1.toNat with waits := -1 }) (hp2 _).1 (hp2 _).2
          split
          · exact HM.ends m hp3
          · exact hp3
        · exact hp2
      · exact hp2
theorem HM.answer {M : Nat} {m : Nat} {y : Yard} (h : HM M y) (s i : Nat) (f : Bool) : HM M (y.answer m s i f) := by
  unfold Yard.answer
  split
  · have h2 := h.put (i := s) (p := { y.pr s with waits := -1 }) (h s).1 (h s).2
    simp only
    split
    · exact HM.ends m h2
    · exact h2
  · exact h
theorem HM.take {M : Nat} {y : Yard} (h : HM M y) {i : Nat} (hj : (y.pr i).holds = []) : HM M (y.take i) := by
  unfold Yard.take
  simp only
  split
  · exact h
  · split
    · exact h.put (h i).1 (h i).2
    · split
      · have h2 := fun p (hp : p.holds = (y.pr i).holds ∧ p.pc = (y.pr i).pc ∧ p.made = (y.pr i).made) => h.put (i := i) (p := p) (by rw [hp.1, hp.2.1]; exact (h i).1) (by rw [hp.2.2]; exact (h i).2)
        split
        · refine HM.answer (h2 _ ⟨?_, ?_, ?_⟩) _ _ _ <;> rfl
        · refine h2 _ ⟨?_, ?_, ?_⟩ <;> rfl
      · exact h.put (by simp [hj]) (h i).2
theorem HM.lay {M : Nat} {y : Yard} (h : HM M y) (i j : Nat) (c : Bool) (l : List Ask) : HM (M + 1) (y.lay i j c l) := by
  unfold Yard.lay
  simp only
  have h1 := (h.le (Nat.le_succ M)).put (i := i) (p := { y.pr i with made := (y.pr i).made + 1 }) (h i).1 (by have := (h i).2; simp; omega)
  exact h1.put (h1 j).1 (h1 j).2
theorem lay_holds (y : Yard) (i j k : Nat) (c : Bool) (l : List Ask) : ((y.lay i j c l).pr k).holds = (y.pr k).holds ∧ ((y.lay i j c l).pr k).pc = (y.pr k).pc := by
  unfold Yard.lay
  simp only
  have h1 : ∀ k, ((y.put i { y.pr i with made := (y.pr i).made + 1 }).pr k).holds = (y.pr k).holds ∧ ((y.put i { y.pr i with made := (y.pr i).made + 1 }).pr k).pc = (y.pr k).pc := fun k => by
    rcases put_cases y i { y.pr i with made := (y.pr i).made + 1 } k with e | ⟨rfl, e⟩
    · rw [e]; exact ⟨rfl, rfl⟩
    · rw [e]; exact ⟨rfl, rfl⟩
  generalize y.put i { y.pr i with made := (y.pr i).made + 1 } = z at h1 ⊢
  rcases put_cases z j { z.pr j with lines := (z.pr j).lines ++ [⟨((i : Int), (y.pr i).made), l, c, false⟩], puts := (z.pr j).puts ++ [((i : Int), (y.pr i).made)] } k with e | ⟨rfl, e⟩
  · rw [e]; exact h1 k
  · rw [e]; exact h1 k
theorem HM.deed {M : Nat} {y : Yard} (h : HM M y) {i : Nat} (hs : ((y.pr i).holds.length : Int) + 1 ≤ (y.pr i).pc) (m : Move) : HM (M + 1) (y.deed i m) := by
  have hM := h.le (Nat.le_succ M)
  unfold Yard.deed
  split
  · unfold Yard.enter
    split
    · exact hM.put (by simp; omega) (hM i).2
    · have h1 := h.lay i m.2.1.toNat false []
      have h2 := lay_holds y i m.2.1.toNat i false []
      simp only
      exact h1.put (by simp only [h2.1, h2.2]; simp; omega) (h1 i).2
  · split
    · exact hM.leave i
    · split
      · unfold Yard.ask
        split
        · exact hM
        · split
          · exact HM.ends _ hM
          · split
            · exact HM.ends _ hM
            · simp only
              have h1 := fun j l => hM.put (i := m.2.1.toNat) (p := (y.pr m.2.1.toNat).setl j l) (hM _).1 (hM _).2
              split
              · exact (h1 _ _).put (h1 _ _ i).1 (h1 _ _ i).2
              · exact h1 _ _
      · split
        · exact h.lay i _ _ _
        · exact HM.ends _ hM
theorem HM.step {M : Nat} {y : Yard} (h : HM M y) {i : Nat} (hi : i < y.procs.length) (hj : (y.pr i).job < 0 → (y.pr i).holds = []) : HM (M + 1) (y.step i) := by
  unfold Yard.step
  split
  · unfold Yard.move
    simp only
    split
    · exact (HM.ends _ h).le (Nat.le_succ M)
    · have h1 := h.put (i := i) (p := { y.pr i with pc := (y.pr i).pc + 1 }) (by have := (h i).1; simp; omega) (h i).2
      exact h1.deed (by rw [put_same hi]; have := (h i).1; simp; omega) _
  · rename_i hn
    exact (h.take (hj (by omega))).le (Nat.le_succ M)
end Go.Wt
namespace Go.Wt
structure Live (y : Yard) (M : Nat) : Prop where
  hist : ∃ h : HYard, HInv h ∧ h.now = y
  nf : y.full = false
  hm : HM M y
theorem full_false {y : Yard} (h : y.full = false) {i : Nat} (hi : i < y.procs.length) : (y.pr i).did.length ≤ 400 ∧ (y.pr i).puts.length ≤ 400 ∧ (y.pr i).lines.length ≤ 400 ∧ ∀ l ∈ (y.pr i).lines, l.asks.length ≤ 400 := by
  unfold Yard.full at h
  simp only [Bool.not_eq_false', List.all_eq_true, Bool.and_eq_true, decide_eq_true_eq] at h
  have := h (y.pr i) (by rw [pr_get hi]; exact List.getElem_mem hi)
  exact ⟨by omega, by omega, by omega, fun l hl => by have := this.2 l hl; omega⟩
theorem keyed_of {k : Key} {n : Nat} (h : 0 ≤ k.1 ∧ k.1 < n ∧ 0 ≤ k.2) : keyed k n = true := by unfold keyed within; simp; omega
theorem dids_mem {l : HLine} {d : Did} (h : d ∈ l.dids) : d.1 = l.key ∧ ∃ a ∈ l.all, d.2.1 = a.1 := by
  unfold HLine.dids at h
  obtain ⟨⟨a, r⟩, hx, rfl⟩ := List.mem_map.1 h
  exact ⟨rfl, a, (List.of_mem_zip hx).1, rfl⟩
section
variable {y : Yard} {M : Nat}
theorem Live.right (H : Live y M) : y.right = true := by
  obtain ⟨⟨h, hI, rfl⟩, hnf, hhm⟩ := H
  have hchk := check_ok hI.chk
  have hn := hI.pos
  have hl : h.now.procs.length = h.procs.length := HYard.now_len h
  have hjb : h.now.jobs = h.jobs := rfl
  unfold Yard.right
  rw [hl, hjb, hI.chk]
  simp only [decide_true, Bool.true_and, List.all_eq_true, List.mem_range]
  intro i hi
  have ok := hI.ok i hi
  have hf := full_false hnf (i := i) (by omega)
  have hm := hhm i
  rw [HYard.now_pr] at hf hm ⊢
  have hline : ∀ l ∈ (h.pr i).hl, ∃ j, (h.pr i).hl[j]? = some l := fun l hl => by
    obtain ⟨j, hj, rfl⟩ := List.mem_iff_getElem.1 hl
    exact ⟨j, List.getElem?_eq_getElem hj⟩
  have hjl : ∀ j, h.now.jlen j = h.jlen j := fun _ => rfl
  have hj20 : ∀ j : Int, 0 ≤ j → j < h.jobs.length → h.jlen j ≤ 20 := fun j h0 h1 => by
    unfold HYard.jlen
    have h2 : j.toNat < h.jobs.length := by omega
    rw [List.getD_eq_getElem?_getD, List.getElem?_eq_getElem h2]
    exact hchk.2.2.2.2.1 _ (List.getElem_mem h2)
  have e1 : (h.pr i).now.job = (h.pr i).job := rfl
  have e2 : (h.pr i).now.pc = (h.pr i).pc := rfl
  have e3 : (h.pr i).now.holds = (h.pr i).holds := rfl
  have e4 : (h.pr i).now.waits = (h.pr i).waits := rfl
  have e5 : (h.pr i).now.made = (h.pr i).made := rfl
  rw [e2, e3] at hm
  rw [right_g]
  have g1 : (h.pr i).now.g1 h.now = false := by
    unfold Proc.g1 within
    rw [e1, e2, e3, hjb, hjl]
    by_cases hj : (h.pr i).job < 0
    · obtain ⟨a1, a2, a3, _⟩ := ok.idle hj
      rw [a1, a2, a3]; simp; omega
    · obtain ⟨b1, b2, b3, _⟩ := ok.busy (by omega)
      simp; omega
  have g2 : (h.pr i).now.g2 i h.now = false := by
    unfold Proc.g2 within
    rw [e1, e4, e5, hl]
    have hmade := ok.made
    rcases ok.waits with w | ⟨w1, w2, w3, w4⟩
    · rw [w]; simp; omega
    · simp; omega
  have g3 : (h.pr i).now.g3 = false := by
    unfold Proc.g3
    rw [e3]
    have h20 : (h.pr i).holds.length ≤ 20 := by
      by_cases hj : (h.pr i).job < 0
      · rw [(ok.idle hj).2.2.1]; simp
      · obtain ⟨b1, b2, b3, _⟩ := ok.busy (by omega)
        have := hj20 _ (by omega) b1
        have := hm.1
        omega
    simp; omega
  have g4 : (h.pr i).now.g4 h.now = false := by
    unfold Proc.g4
    rw [e3, hl, hjb]
    simp only [Bool.or_eq_false_iff, Bool.not_eq_false', List.all_eq_true]
    refine ⟨⟨⟨fun l hl2 => ?_, fun k hk => ?_⟩, fun x hx => ?_⟩, fun d hd => ?_⟩
    · have hl3 : l ∈ ((h.pr i).hl.drop (h.pr i).gone).map HLine.now := hl2
      obtain ⟨hl4, hm4, rfl⟩ := List.mem_map.1 hl3
      obtain ⟨j, hj⟩ := hline hl4 (List.mem_of_mem_drop hm4)
      have okl := ok.line j hl4 hj
      have hasl := hf.2.2.2 _ hl2
      unfold lineOk
      have ea : hl4.now.asks = hl4.all.drop hl4.tk := rfl
      rw [show keyed hl4.now.key h.procs.length = true from keyed_of okl.key, ea]
      rw [ea] at hasl
      simp only [Bool.true_and, Bool.and_eq_true, decide_eq_true_eq, List.all_eq_true]
      refine ⟨by omega, fun a ha => ?_⟩
      have := okl.ask a (List.mem_of_mem_drop ha)
      unfold within; simp; omega
    · have hk2 : k ∈ (h.pr i).hl.map HLine.key := hk
      obtain ⟨l, hl3, rfl⟩ := List.mem_map.1 hk2
      obtain ⟨j, hj⟩ := hline l hl3
      exact keyed_of (ok.line j l hj).key
    · have := ok.hold x hx
      unfold holdOk
      rw [Bool.and_eq_true]
      refine ⟨by unfold within; simp; omega, ?_⟩
      by_cases hx2 : x.2.2 = true
      · rw [if_pos hx2] at this
        rw [this.2.2]; exact keyed_of ⟨Int.le_refl _, by simp; omega, Int.le_refl _⟩
      · rw [if_neg hx2] at this
        exact keyed_of ⟨by omega, by omega, by omega⟩
    · have hd2 : d ∈ (h.pr i).hl.flatMap HLine.dids := hd
      obtain ⟨l, hl3, hd3⟩ := List.mem_flatMap.1 hd2
      obtain ⟨j, hj⟩ := hline l hl3
      have okl := ok.line j l hj
      obtain ⟨d1, a, ha, d2⟩ := dids_mem hd3
      unfold didOk
      rw [d1, d2, show keyed l.key h.procs.length = true from keyed_of okl.key]
      have := okl.ask a ha
      unfold within; simp; omega
  rw [g1, g2, g3, g4]; rfl
theorem right_bd (hr : y.right = true) {n B : Nat} (hn : y.procs.length = n) (hB : 400 ≤ B) (hm : ∀ i, i < n → (y.pr i).made ≤ B) : YBd n B y := ⟨hn, fun i hi => by
  have h := right_pr hr (i := i) (by omega)
  rw [← pr_get (by omega)] at h
  rw [right_g] at h
  simp only [Bool.and_eq_true, Bool.not_eq_true'] at h
  obtain ⟨⟨⟨_, h2⟩, h3⟩, h4⟩ := h
  have hmi := hm i hi
  unfold Proc.g3 at h3
  simp only [Bool.or_eq_false_iff, decide_eq_false_iff_not] at h3
  unfold Proc.g4 at h4
  simp only [Bool.or_eq_false_iff, Bool.not_eq_false', List.all_eq_true] at h4
  unfold Proc.g2 at h2
  simp only [Bool.or_eq_false_iff, decide_eq_false_iff_not] at h2
  refine ⟨by omega, by omega, by omega, by omega, fun l hl => ?_, ⟨by omega, by omega⟩, fun x hx => ?_, fun l hl => ?_⟩
  · have := h4.1.1.1 l hl
    unfold lineOk at this
    simp only [Bool.and_eq_true, decide_eq_true_eq] at this
    omega
  · have := h4.1.2 x hx
    unfold holdOk within at this
    simp only [Bool.and_eq_true, decide_eq_true_eq] at this
    omega
  · have := h4.1.1.1 l hl
    unfold lineOk keyed within at this
    simp only [Bool.and_eq_true, decide_eq_true_eq] at this
    omega⟩
theorem right_check (hr : y.right = true) : check y.jobs y.procs.length = 0 := by
  unfold Yard.right at hr
  rw [Bool.and_eq_true] at hr
  simpa using hr.1
theorem right_job (hr : y.right = true) {n i : Nat} (hn : y.procs.length = n) (hi : i < n) (hj : 0 ≤ (y.pr i).job) : JobOk y n i := by
  have h := right_pr hr (i := i) (by omega)
  rw [← pr_get (by omega)] at h
  rw [right_g] at h
  simp only [Bool.and_eq_true, Bool.not_eq_true'] at h
  obtain ⟨⟨⟨h1, _⟩, _⟩, _⟩ := h
  have hc := check_ok (right_check hr)
  unfold Proc.g1 within at h1
  simp only [Bool.or_eq_false_iff, Bool.not_eq_false', Bool.and_eq_true, decide_eq_true_eq, Bool.and_eq_false_iff, decide_eq_false_iff_not] at h1
  obtain ⟨⟨h2, _⟩, h4⟩ := h1
  have h5 : 0 ≤ (y.pr i).pc ∧ (y.pr i).pc ≤ y.jlen (y.pr i).job := by
    rcases h4 with h4 | h4
    · exact absurd hj h4
    · simpa using h4
  refine ⟨⟨hj, by omega⟩, h5, fun m hm => ?_⟩
  have hjl : (y.pr i).job.toNat < y.jobs.length := by omega
  rw [List.getD_eq_getElem?_getD, List.getElem?_eq_getElem hjl] at hm
  rw [← hn]
  exact hc.2.2.2.2.2.1 _ (List.getElem_mem hjl) m hm
theorem goes_lines {p : Proc} (h : p.goes = true) (hj : p.job < 0) : p.lines ≠ [] := by
  unfold Proc.goes Proc.state at h
  rw [if_neg (by omega), if_neg (by omega)] at h
  intro hl
  rw [hl] at h
  simp at h
theorem Live.len_pos (H : Live y M) : 0 < y.procs.length ∧ y.procs.length ≤ 12 := by
  have := check_ok (right_check H.right)
  omega
theorem Live.bd (H : Live y M) {B : Nat} (hM : M ≤ B) (hB : 400 ≤ B) : YBd y.procs.length B y := right_bd H.right rfl hB fun i _ => by have := (H.hm i).2; omega
theorem Live.fit (H : Live y M) (hM : M ≤ 1000000) : Fit y := by
  have hc := check_ok (right_check H.right)
  exact fit_of (H.bd (B := 1000000) hM (by omega)) (Nat.le_refl _) (by omega) ⟨by omega, fun l hl => by have := hc.2.2.2.2.1 l hl; omega⟩
theorem Live.step (H : Live y M) {i : Nat} (hi : i < y.procs.length) (hg : (y.pr i).goes = true) (hf : (y.step i).full = false) : Live (y.step i) (M + 1) := by
  obtain ⟨⟨h, hI, rfl⟩, hnf, hhm⟩ := H
  have hl : h.now.procs.length = h.procs.length := HYard.now_len h
  rw [HYard.now_pr] at hg
  have hi2 : i < h.procs.length := by omega
  have hg2 : (h.pr i).goes = true := hg
  refine ⟨⟨h.step i, hI.step hi2 hg2, hI.now_step hi2 hg2⟩, hf, hhm.step hi fun hj => ?_⟩
  rw [HYard.now_pr] at hj ⊢
  exact ((hI.ok i hi2).idle hj).2.2.1
theorem new_now {jobs : List (List Move)} {n : Nat} : (HYard.new jobs n).now = Yard.new jobs n := by
  unfold HYard.new HYard.now Yard.new
  congr 1
  rw [List.map_set, List.map_replicate]
  rfl
theorem Live.new {jobs : List (List Move)} {n : Nat} (h : check jobs n = 0) : Live (Yard.new jobs n) 1 := by
  have hc := check_ok h
  have hnl : (Yard.new jobs n).procs.length = n := by simp [Yard.new]
  have hpr : ∀ k, (Yard.new jobs n).pr k = newP ∨ (Yard.new jobs n).pr k = Proc.empty := fun k => by
    rcases Nat.lt_or_ge k n with hk | hk
    · obtain ⟨m, rfl⟩ : ∃ m, n = m + 1 := ⟨n - 1, by omega⟩
      rw [new_pr jobs m k hk]
      unfold Go.Ck.upd
      split
      · exact .inl rfl
      · exact .inr rfl
    · right
      unfold Yard.pr
      rw [List.getD_eq_getElem?_getD, List.getElem?_eq_none (by omega)]; rfl
  refine ⟨⟨_, HInv.new h, new_now⟩, ?_, ⟨fun k => ?_⟩⟩
  · unfold Yard.full
    simp only [Bool.not_eq_false', List.all_eq_true]
    intro p hp
    obtain ⟨k, hk, rfl⟩ := List.mem_iff_getElem.1 hp
    rw [← pr_get hk]
    rcases hpr k with e | e <;> rw [e] <;> decide
  · rcases hpr k with e | e <;> rw [e] <;> decide
end
end Go.Wt
namespace Go.Wt
open Go Go.Ck Go.Proofs Go.Proofs.YtboepbencndobaaGreat Fx
attribute [local irreducible] St Cd Xt Nx DrL LsW
def yStepE (y : Yard) (spot : Int) : YE := if openedE y [spot] = 0 then (if (y.pr spot.toNat).goes = true then y.stepE spot.toNat else (Yard.nil, 12)) else (Yard.nil, openedE y [spot])
section
variable {S : Res}
set_option maxRecDepth 100000 in
theorem Step_ct {ys : List Value} {y : Yard} (hy : yardR S ys y) (hf : Fit y) (hm : ∀ i, (y.pr i).made ≤ 900000) (spot : Int) : CtN Tryz.prog 34 #[.agg ys.toArray, .int .i64 spot] [S] fun u T => ∃ ys', u = .tuple #[.agg ys'.toArray, .int .i64 (yStepE y spot).2] ∧ yardR T ys' (yStepE y spot).1 := by
  obtain ⟨jv, pv, rfl, hj, hp⟩ := id hy
  unfold yStepE
  refine ct_of (n := 31) Tryz.func34 rfl rfl (len rfl) fun hr w0 => ?_
  refine cS (cR (st_bx rfl rfl fun b2 => ?_))
  refine st_alc al27 fun b4 => ?_
  refine sV (vA rfl) (sN (nK [1, 2, 4, 5] rfl (nT (cS (cS (cR (sV (v_ldn rfl ld27 rfl rds_pt) ?_)))))))
  refine sV (vM rfl) (st_buildSlice (cells := [.int .i64 spot]) rfl Tryz.underlying43 inf3 rfl rfl (by kernel_rfl) (ltn rfl) fun b10 => ?_)
  refine st_clr rfl rfl en67 rfl (reads_star (opened_ct (S := Res.star [pt b10 (cl [.int .i64 spot] 3), S]) (l := [spot]) (hy.mono (rd_in (.there .here))) hf ((row_pt (C := iC) (sz := 1) (l := [spot]) (n := 1) rfl (by simp [iC]) rfl (by decide)).mono (rd_in .here) fun _ _ _ h => h) (by simp))) ?_
  refine sV (vA rfl) (sN (nK [1, 2, 4, 5, 6] rfl (nT (cS (cR (sV (vM rfl) (sV (v_neq rfl rfl) (sN (nK [1, 2, 4, 5, 6, 13] rfl (nT (cC rfl (fun h1 => ?_) (fun h1 => ?_))))))))))))
  · skip
    refine cS (cR ?_)
    rw [if_neg (by simpa using h1)]
    refine sV (v_build (cells := [.slice none 0 0, .slice none 0 0]) rfl (fun _ => by kernel_rfl)) ?_
    refine sV (vM rfl) (st_stoW rfl rfl sz27 rfl rfl ?_)
    refine sV (vA rfl) (sN (nK [1, 2, 4, 5] rfl (nT (cT (xR (xt_vw (vw_pure (φ := True) trivial) ?_))))))
    exact xt_retV (.cellN rfl ld27 rfl (by repeat (first | exact Sel.here | apply Sel.there)) (.tmp rfl .nil)) ⟨pureR True, rfl, _, rfl, nil_yard _⟩ (by repeat (first | exact Sub.refl _ | exact Sub.nil _ | refine Sub.sel (by repeat (first | exact Sel.here | apply Sel.there)) ?_ | apply Sub.cons))
  · skip
    have h1' : openedE y [spot] = 0 := by simpa using h1
    rw [if_pos h1']
    obtain ⟨hyr, hsp⟩ := openedE_zero h1'
    obtain ⟨hs0, hs1⟩ := hsp spot (by simp)
    obtain ⟨i, rfl⟩ := Int.eq_ofNat_of_zero_le hs0
    rw [Int.toNat_natCast] at hs1 ⊢
    have hg : (y.pr i).goes = ((y.pr i).state == 1 || (y.pr i).state == 2) := rfl
    have hst := state_ct (jv := jv) hp hs1
    rw [← pr_get hs1] at hst
    refine cK (xT (cS (cS (cR (sV (v_ldn rfl ld27 rfl rds_pt) ?_)))))
    refine sV (vM rfl) (st_clr rfl rfl en68 rfl (hst) ?_)
    refine sV (vA rfl) (sN (nK [1, 2, 4, 5, 7] rfl (nT (cS (cR (sV (vM rfl) (sV (v_neq rfl rfl) (sV (vM rfl) (st_cut (k := 6) (d := 24) (v := .bool ((y.pr i).state != 1 && (y.pr i).state != 2)) (fun hcut => bool_want (b := ((y.pr i).state != 1)) true (fun hg => ?_) (fun hg => ?_)) ?_)))))))))
    · refine st_sk rfl rfl hg ?_
      refine st_sk rfl rfl hg ?_
      refine sV (vP (bool_ev rfl hg) rfl) ?_
      exact hcut _ (ssub_head (by first | rfl | (rw [hg]; rfl) | simp_all) (uS rfl (uS rfl (ssub_refl))))
    · skip
      refine st_vg rfl (bG rfl hg) (vM rfl) (st_vg rfl (bG rfl hg) (v_neq rfl rfl) (sV (v_pick_true (bool_ev rfl hg) rfl) ?_))
      exact hcut _ (ssub_head (by first | rfl | (rw [hg]; rfl) | simp_all) (uS rfl (uS rfl (ssub_refl))))
    refine sN (nK [1, 2, 4, 5, 24] rfl (nT ?_))
    have hg2 : ((y.pr i).state != 1 && (y.pr i).state != 2) = !(y.pr i).goes := by rw [hg, Bool.not_or]; rfl
    refine cC rfl (fun hgo => ?_) (fun hgo => ?_)
    · skip
      rw [hg2] at hgo
      rw [if_neg (by simpa using hgo)]
      refine cS (cR (sV (v_build (cells := [.slice none 0 0, .slice none 0 0]) rfl (fun _ => by kernel_rfl)) ?_))
      refine st_stoW rfl rfl sz27 rfl rfl ?_
      refine sV (vA rfl) (sN (nK [1, 2, 4, 5] rfl (nT (cT (xR (xt_vw (vw_pure (φ := True) trivial) ?_))))))
      exact xt_retV (.cellN rfl ld27 rfl (by repeat (first | exact Sel.here | apply Sel.there)) (.tmp rfl .nil)) ⟨pureR True, rfl, _, rfl, nil_yard _⟩ (by repeat (first | exact Sub.refl _ | exact Sub.nil _ | refine Sub.sel (by repeat (first | exact Sel.here | apply Sel.there)) ?_ | apply Sub.cons))
    · skip
      rw [hg2] at hgo
      have hgo2 : (y.pr i).goes = true := by simpa using hgo
      rw [if_pos hgo2]
      have hbd := right_bd hyr (n := y.procs.length) (B := 900000) rfl (by omega) fun i _ => hm i
      have hck := check_ok (right_check hyr)
      refine cK (xT (cS (cR (sV (v_ldn rfl ld27 rfl rds_pt) ?_))))
      refine sV (vM rfl) (st_cl rfl rfl en76 rfl (step_ct hy hf hbd (by omega) hs1 (fun h => right_job hyr rfl hs1 h) (goes_lines hgo2)) ?_)
      rintro u h' ⟨T, rfl, ys', rfl, hy'⟩
      refine sV (v_extract rfl rfl) (sV (v_extract rfl rfl) ?_)
      obtain ⟨jv', pv', rfl, hj', hp'⟩ := id hy'
      refine st_stoW rfl rfl sz27 rfl (by simp [hj'.one, hp'.one]) ?_
      refine sV (vA rfl) (sN (nK [4, 5] rfl (nT (cT ?_))))
      exact xt_retV (.cellN rfl ld27 rfl (by repeat (first | exact Sel.here | apply Sel.there)) (.tmp rfl .nil)) ⟨T, rfl, _, rfl, hy'⟩ (by repeat (first | exact Sub.refl _ | exact Sub.nil _ | refine Sub.sel (by repeat (first | exact Sel.here | apply Sel.there)) ?_ | apply Sub.cons))
end
end Go.Wt
namespace Go.Wt
open Go Go.Ck Go.Proofs Go.Proofs.YtboepbencndobaaGreat Fx
attribute [local irreducible] St Cd Xt Nx DrL LsW
theorem v_negi {P : Program} {e : Env} {h : SH} {ty : TypeId} {t : TypeId} {x : Operand} {a : Int} (hx : e.ev? x = some (.int .i64 a)) (hr : I64 (-a)) : Vop P e h (.unOp .neg t x) ty (.int .i64 (-a)) :=
  ⟨by simp, by simp, fun ρ w d pos after g hρ _ => by simp [execOp, hρ x _ hx, Op.unary, Op.intArith, I64.wrap hr]⟩
theorem copied_rd {S : Res} {ys : List Value} {y : Yard} (hy : yardR S ys y) (hf : Fit y) : Ct Tryz.prog 75 #[.agg ys.toArray] [S] fun u h' => ∃ jv pv T, u = .agg #[jv, pv] ∧ h' = [T, S] ∧ yardR T [jv, pv] y := fun hr w hh =>
  (copied_ct hy hf hr w hh).mono fun e w' ⟨v, h', he, ⟨jv, pv, H, hs, hv, hh'⟩, hH, hS⟩ => by
    subst hh' he
    have h1 : Holds w' (Res.star (JO jv hs y.jobs ++ YO pv y.procs.length H y.pr) :: ([S] ++ hr)) := holds_star1.2 (by simpa using hH)
    have h2 := own_yard (jv := jv) (pv := pv) (L := JO jv hs y.jobs ++ YO pv y.procs.length H y.pr) ⟨_, h1.1⟩ (fun r h => h) (fun g hg => (HoldsF.append.1 hg).1) (fun g hg => (HoldsF.append.1 hg).2.1)
    rw [own_range rfl] at h2
    exact ⟨v, [_, S], rfl, ⟨jv, pv, _, hv, rfl, h2⟩, h1, hS⟩
theorem yardR_cells {S : Res} {ys : List Value} {y : Yard} (hy : yardR S ys y) : ∃ jv pv, ys = [jv, pv] ∧ jv.oneCell' = true ∧ pv.oneCell' = true := by
  obtain ⟨jv, pv, rfl, hj, hp⟩ := hy
  exact ⟨jv, pv, rfl, hj.one, hp.one⟩
theorem rdy_get {y : Yard} {k : Nat} (h : k < (rdy y.procs y.procs.length).length) : ∃ i : Nat, (rdy y.procs y.procs.length)[k]? = some (i : Int) ∧ y.ready.getD k 0 = i ∧ i < y.procs.length ∧ (y.pr i).goes = true := by
  rw [← ready_rdy] at h ⊢
  have hk : k < y.ready.length := by simpa using h
  refine ⟨y.ready[k], by simp [List.getElem?_map, List.getElem?_eq_getElem hk], by rw [List.getD_eq_getElem?_getD, List.getElem?_eq_getElem hk]; rfl, ?_⟩
  have h2 : y.ready[k] ∈ (List.range y.procs.length).filter fun i => (y.pr i).goes := List.getElem_mem hk
  rw [List.mem_filter] at h2
  exact ⟨List.mem_range.1 h2.1, h2.2⟩
theorem pick_nn (n : Int) : 0 ≤ pick n := by unfold pick; split <;> omega
theorem Live.stepE {y : Yard} {M : Nat} (H : Live y M) {i : Nat} (hi : i < y.procs.length) (hg : (y.pr i).goes = true) (h0 : (y.stepE i).2 = 0) : Live (y.stepE i).1 (M + 1) := by
  have he : y.stepE i = if (y.step i).full = true then (Yard.nil, 3) else (y.step i, 0) := rfl
  cases hf : (y.step i).full with
  | true => rw [he, if_pos hf] at h0; cases h0
  | false =>
    rw [he, if_neg (by simp [hf])]
    exact H.step hi hg hf
set_option maxRecDepth 100000 in
theorem stepL_ct {S : Res} {ys : List Value} {y : Yard} {M i : Nat} (hy : yardR S ys y) (H : Live y M) (hM : M ≤ 900000) (hi : i < y.procs.length) (hg : (y.pr i).goes = true) :
    CtN Tryz.prog 76 #[.agg ys.toArray, .int .i64 i] [S] fun u T => ∃ ys', u = .tuple #[.agg ys'.toArray, .int .i64 (y.stepE i).2] ∧ yardR T ys' (y.stepE i).1 := by
  have := H.len_pos
  exact step_ct hy (H.fit (by omega)) (H.bd (B := 900000) hM (by omega)) (by omega) hi (fun h => right_job H.right rfl hi h) (goes_lines hg)
def yRunE (y : Yard) (picks : List Int) : YE := if y.right = true then y.run picks else (Yard.nil, 2)
theorem run_cons (y : Yard) (n : Int) (t : List Int) : y.run (n :: t) = if y.ready = [] then (y, 0) else if (y.stepE (y.ready.getD (pick n % y.ready.length).toNat 0)).2 = 0 then (y.stepE (y.ready.getD (pick n % y.ready.length).toNat 0)).1.run t else y.stepE (y.ready.getD (pick n % y.ready.length).toNat 0) := rfl
theorem stepE_err {y : Yard} {i : Nat} (h : (y.stepE i).2 ≠ 0) : (y.stepE i).1 = Yard.nil := by
  unfold Yard.stepE at h ⊢
  split
  · rfl
  · rename_i hf; rw [if_neg hf] at h; exact absurd rfl h
section
variable {S : Res}
set_option maxHeartbeats 1000000 in
set_option maxRecDepth 100000 in
theorem Run_ct {ys : List Value} {y : Yard} {M : Nat} {pv0 : Value} {picks : List Int} (hy : yardR S ys y) (hf : Fit y) (hL : y.right = true → Live y M) (hM : M + picks.length ≤ 900000) (hpk : Row S 1 (eqC iC) pv0 picks) (hi64 : ∀ n ∈ picks, I64 n) :
    CtN Tryz.prog 31 #[.agg ys.toArray, pv0] [S] fun u T => ∃ ys', u = .tuple #[.agg ys'.toArray, .int .i64 (yRunE y picks).2] ∧ yardR T ys' (yRunE y picks).1 := by
  obtain ⟨jv, pv, rfl, hj, hp⟩ := id hy
  obtain ⟨ak, ck, rfl, _⟩ := id hpk
  unfold yRunE
  refine ct_of (n := 54) Tryz.func31 rfl rfl (len rfl) fun hr w0 => ?_
  refine cS (cR (st_bx rfl rfl fun b2 => ?_))
  refine st_alc al27 fun b4 => ?_
  refine sV (vA rfl) (sN (nK [1, 2, 4, 5] rfl (nT (cS (cS (cR (sV (v_ldn rfl ld27 rfl rds_pt) ?_)))))))
  refine st_clr rfl rfl en67 rfl (opened_ct (l := []) hy hf Row.nil (by simp)) ?_
  refine sV (vA rfl) (sN (nK [1, 2, 4, 5, 6] rfl (nT (cS (cR (sV (vM rfl) (sV (v_neq rfl rfl) (sN (nK [1, 2, 4, 5, 6, 14] rfl (nT ?_))))))))))
  rw [openedE_nil]
  refine cC rfl (fun h1 => ?_) (fun h1 => ?_)
  · skip
    have h2 : ¬ y.right = true := fun h => by rw [if_pos h] at h1; cases h1
    refine cS (cR ?_)
    rw [if_neg h2, if_neg h2]
    refine sV (v_build (cells := [.slice none 0 0, .slice none 0 0]) rfl (fun _ => by kernel_rfl)) ?_
    refine sV (vM rfl) (st_stoW rfl rfl sz27 rfl rfl ?_)
    refine sV (vA rfl) (sN (nK [1, 2, 4, 5] rfl (nT (cT (xR (xt_vw (vw_pure (φ := True) trivial) ?_))))))
    exact xt_retV (.cellN rfl ld27 rfl (by repeat (first | exact Sel.here | apply Sel.there)) (.tmp rfl .nil)) ⟨pureR True, rfl, _, rfl, nil_yard _⟩ (by repeat (first | exact Sub.refl _ | exact Sub.nil _ | refine Sub.sel (by repeat (first | exact Sel.here | apply Sel.there)) ?_ | apply Sub.cons))
  · skip
    have h2 : y.right = true := by
      cases hr : y.right with
      | true => rfl
      | false => rw [hr] at h1; cases h1
    rw [if_pos h2]
    have hLy := hL h2
    refine cK (xT (cS (cR (sV (v_ldn rfl ld27 rfl rds_pt) ?_))))
    refine st_cl rfl rfl en75 rfl (copied_rd hy hf) ?_
    rintro u h' ⟨jv', pv', T0, rfl, rfl, hy0⟩
    obtain ⟨_, _, he0, hc1, hc2⟩ := yardR_cells hy0
    simp only [List.cons.injEq, and_true] at he0
    obtain ⟨rfl, rfl⟩ := he0
    refine st_stoW rfl rfl sz27 rfl (by simp [hc1, hc2]) ?_
    refine sN (nK [1, 2, 4, 5] rfl (nT (cS (cS (cR (sV (vM rfl) (sV (v_len rfl Tryz.underlying43) (sV (vM rfl) (sN (nK [2, 4, 5, 19, 20, 21] rfl (nT (cd_block (cd_lp (σ := Nat × Value × Value × Yard × Res) (fun q => [(2, .pointer (some ⟨b2, 0, none⟩)), (4, .pointer (some ⟨b4, 0, none⟩)), (19, .slice ak picks.length ck), (20, .int .i64 picks.length), (21, .int .i64 (q.1 : Nat))]) (fun q => pt b2 (cl [q.2.1, q.2.2.1] 27) :: q.2.2.2.2 :: pt b4 (cl [.slice none 0 0, .slice none 0 0] 27) :: S :: hr) (fun q => q.1 ≤ picks.length ∧ yardR q.2.2.2.2 [q.2.1, q.2.2.1] q.2.2.2.1 ∧ Live q.2.2.2.1 (M + q.1) ∧ q.2.2.2.1.run (picks.drop q.1) = y.run picks) (fun q => picks.length - q.1) (0, jv', pv', y, T0) ⟨Nat.zero_le _, hy0, hLy, rfl⟩ ?_)))))))))))))
    rintro ⟨k, jv, pv, z, T⟩ ⟨hk, hz, hzL, hzr⟩
    simp only at hk hz hzL hzr
    dsimp only
    refine cS (cR (sV (v_lss rfl rfl) (sN (nT (cS (cC rfl (fun hd => ?_) (fun hd => ?_)))))))
    · skip
      have hlt : k < picks.length := by simpa using hd
      obtain ⟨b, o, cp2, u0, hv2, hrd, hX⟩ := hpk.at1 (List.getElem?_eq_getElem hlt)
      cases hX
      have hni := hi64 _ (List.getElem_mem hlt)
      rw [List.drop_eq_getElem_cons hlt, run_cons] at hzr
      generalize hne : picks[k] = n at *
      have hzf := hzL.fit (by omega)
      obtain ⟨_, _, he0, hc1, hc2⟩ := yardR_cells hz
      simp only [List.cons.injEq, and_true] at he0
      obtain ⟨rfl, rfl⟩ := he0
      obtain ⟨_, _, he0, hzj, hzp⟩ := id hz
      simp only [List.cons.injEq, and_true] at he0
      obtain ⟨rfl, rfl⟩ := he0
      refine cK (xT (cS (cd_block (cS (cR (sV (v_indexAddr (k := k) (congrArg some hv2) rfl sl43 rfl hlt rfl) (sV (v_ldy rfl ld3) ?_)))))))
      refine sV (vA rfl) (sN (nK [2, 4, 8, 19, 20, 21] rfl (nT (cS (cR (sV (v_ldn rfl ld27 rfl rds_pt) ?_))))))
      refine st_cl rfl rfl en72 rfl (going_ct (jv := jv) (pv := pv)) ?_
      rintro u h' ⟨c1, rfl, rfl⟩
      refine st_cl rfl rfl en71 rfl (collect_ct (jv := jv) hzp hzf.2.1) ?_
      rintro u h' ⟨h3, rfl⟩
      refine sV (vA rfl) (sN (nK [2, 4, 8, 9, 19, 20, 21] rfl (nT (cS (cS ?_)))))
      have hrl := rdy_len z.procs z.procs.length
      have hzn := hzf.2.1
      have hrr : z.ready.length = (rdy z.procs z.procs.length).length := by rw [← ready_rdy, List.length_map]
      have hpn := pick_nn n
      refine cd_rowf (by repeat (first | exact Sel.here | apply Sel.there)) fun ra rc hre hrc _ => ?_
      rw [List.length_map] at hre
      subst hre
      refine cR (sV (vM rfl) (sV (v_len rfl Tryz.underlying43) (sV (v_eql rfl rfl) (sN (nK [2, 4, 8, 9, 19, 20, 21, 30] rfl (nT (cC rfl (fun h0 => ?_) (fun h0 => ?_))))))))
      · skip
        have hr0 : z.ready = [] := List.eq_nil_of_length_eq_zero (by have := eq_of_beq h0; omega)
        rw [if_pos hr0] at hzr
        rw [← hzr]
        refine cd_exit (xE (xt_exit_block_ne (by decide) ?_))
        refine xE (xE (xt_exit_block (xT (cS (cR (sV (v_ldn rfl ld27 rfl rds_pt) ?_))))))
        refine st_stoW rfl rfl sz27 rfl (by simp [hc1, hc2]) ?_
        refine sV (vA rfl) (sN (nK [4, 5] rfl (nT (cT ?_))))
        exact xt_retV (.cellN rfl ld27 rfl (by repeat (first | exact Sel.here | apply Sel.there)) (.tmp rfl .nil)) ⟨T, rfl, _, rfl, hz⟩ (by repeat (first | exact Sub.refl _ | exact Sub.nil _ | refine Sub.sel (by repeat (first | exact Sel.here | apply Sel.there)) ?_ | apply Sub.cons))
      · skip
        have hr0 : z.ready ≠ [] := fun h => by rw [h] at hrr; rw [← hrr] at h0; exact absurd h0 (by simp)
        have hrp : 0 < (rdy z.procs z.procs.length).length := by rw [← hrr]; exact List.length_pos_iff.2 hr0
        rw [if_neg hr0, hrr] at hzr
        have hkl := Int.emod_lt_of_pos (pick n) (show (0 : Int) < ((rdy z.procs z.procs.length).length : Int) by omega)
        have hk0 := Int.emod_nonneg (pick n) (show ((rdy z.procs z.procs.length).length : Int) ≠ 0 by omega)
        obtain ⟨q, hq1, hq2, hq3, hq4⟩ := rdy_get (y := z) (k := (pick n % ((rdy z.procs z.procs.length).length : Int)).toNat) (by omega)
        rw [hq2] at hzr
        refine cd_row (v := .slice ra (rdy z.procs z.procs.length).length rc) (by repeat (first | exact Sel.here | apply Sel.there)) (fun _ h00 => by rw [List.map_eq_nil_iff] at h00; rw [h00] at hrp; simp at hrp) fun rb ro rc2 hve _ _ => ?_
        rw [List.length_map] at hve
        simp only [Value.slice.injEq] at hve
        obtain ⟨rfl, _, rfl⟩ := hve
        have hrdq := rd_vrk (E := 3) (b := rb) (o := ro) (n := (rdy z.procs z.procs.length).length) (cp := rc) (sz := 1) (k := 0) (rows := (rdy z.procs z.procs.length).map iC) (m := (pick n % ((rdy z.procs z.procs.length).length : Int)).toNat) (r := iC q) (by rw [List.getElem?_map, hq1]; rfl) rfl
        refine cK (xT (cS (cS (cR (sV (vM rfl) (sV (v_lss rfl rfl) (sN (nK [2, 4, 8, 9, 19, 20, 21, 32] rfl (nT (cC rfl (fun hn0 => ?_) (fun hn0 => ?_)))))))))))
        · skip
          have hpe : pick n = -(n + 1) := by unfold pick; rw [if_pos (by simpa using hn0)]
          rw [hpe] at hkl hk0 hq1 hrdq hpn
          refine cR (sV (vM rfl) (sV (v_add rfl rfl (by unfold I64 at *; omega)) (sV (v_negi rfl (by unfold I64 at *; omega)) (sV (vA rfl) (sN (nK [2, 4, 8, 9, 19, 20, 21] rfl (nT (cS (cR (sV (vA rfl) (sN (nT (cS (cd_drawh (ork [(0, 1), (1, 2), (2, 2), (3, 2), (4, 2), (5, 2), (6, 2), (7, 1), (8, 0), (9, 2), (10, 2), (11, 2), (12, 0), (13, 2)] .nil) (fun i => !(Nat.beq i 8 || Nat.beq i 12)) mixed (by kernel_rfl) ?_))))))))))))))
          refine dr_v rfl (v_ldn rfl ld27 rfl rds_pt) ?_
          refine dV rfl (vM rfl) (dV rfl (vM rfl) (dV rfl (vM rfl) (dV rfl (v_len rfl Tryz.underlying43) (dV rfl (v_remp rfl rfl (by omega) (by omega) (by unfold I64; omega)) ?_))))
          refine dV rfl (v_indexAddr (k := (-(n + 1) % ((rdy z.procs z.procs.length).length : Int)).toNat) rfl rfl sl43 (by omega) (by omega) rfl) (dr_v rfl (v_ldy rfl ld3) ?_)
          refine dr_eff rfl (st_cl rfl rfl en76 rfl (stepL_ct hz hzL (by omega) hq3 hq4) ?_)
          rintro u h' ⟨T2, rfl, ys2, rfl, hz2⟩
          refine dr_nx ?_
          refine dV rfl (vM rfl) (dV rfl (v_extract rfl rfl) (dV rfl (v_extract rfl rfl) ?_))
          obtain ⟨jv2, pv2, rfl, hd1, hd2⟩ := yardR_cells hz2
          refine dr_eff rfl (st_stoW rfl rfl sz27 rfl (by simp [hd1, hd2]) (dr_nx ?_))
          refine dV rfl (vA rfl) (dr_nil (nK [2, 4, 10, 19, 20, 21] rfl (nT (cS (cR (sV (vM rfl) (sV (v_neq rfl rfl) (sN (nK [2, 4, 10, 19, 20, 21, 49] rfl (nT (cC rfl (fun he => ?_) (fun he => ?_))))))))))))
          · skip
            have hne2 : (z.stepE q).2 ≠ 0 := by simpa using he
            rw [if_neg hne2] at hzr
            have hnil := stepE_err hne2
            refine cS (cR (sV (v_build (cells := [.slice none 0 0, .slice none 0 0]) rfl (fun _ => by kernel_rfl)) ?_))
            refine sV (vM rfl) (st_stoW rfl rfl sz27 rfl rfl ?_)
            refine sV (vA rfl) (sN (nK [2, 4, 5, 19, 20, 21] rfl (nT (cT (xt_ret_block (xR (xR (xt_ret_block (xR (xt_vw (vw_pure (φ := True) trivial) ?_))))))))))
            exact xt_retV (.cellN rfl ld27 rfl (by repeat (first | exact Sel.here | apply Sel.there)) (.tmp rfl .nil)) ⟨pureR True, rfl, [.slice none 0 0, .slice none 0 0], by rw [← hzr]; rfl, by rw [← hzr, hnil]; exact nil_yard _⟩ (by repeat (first | exact Sub.refl _ | exact Sub.nil _ | refine Sub.sel (by repeat (first | exact Sel.here | apply Sel.there)) ?_ | apply Sub.cons))
          · skip
            have he2 : (z.stepE q).2 = 0 := by simpa using he
            rw [if_pos he2] at hzr
            refine cK (xB (xT (cR (sV (v_add rfl rfl (by unfold I64 at *; omega)) (sV (vM rfl) (sN (nK [2, 4, 19, 20, 21] rfl (nx_xt ?_))))))))
            refine xt_ag (k + 1, jv2, pv2, (z.stepE q).1, T2) ⟨hlt, hz2, hzL.stepE hq3 hq4 he2, hzr⟩ (by show _ - _ < _ - _; omega)
        · skip
          have hpe : pick n = n := by unfold pick; rw [if_neg (by simpa using hn0)]
          rw [hpe] at hkl hk0 hq1 hrdq hpn
          refine cK (xT (cS (cR (sV (vA rfl) (sN (nK [2, 4, 8, 9, 10, 19, 20, 21] rfl (nT (cS (cd_drawh (ork [(0, 1), (1, 2), (2, 2), (3, 2), (4, 2), (5, 2), (6, 2), (7, 1), (8, 0), (9, 2), (10, 2), (11, 2), (12, 0), (13, 2)] .nil) (fun i => !(Nat.beq i 8 || Nat.beq i 12)) mixed (by kernel_rfl) ?_)))))))))
          refine dr_v rfl (v_ldn rfl ld27 rfl rds_pt) ?_
          refine dV rfl (vM rfl) (dV rfl (vM rfl) (dV rfl (vM rfl) (dV rfl (v_len rfl Tryz.underlying43) (dV rfl (v_remp rfl rfl (by omega) (by omega) (by unfold I64; omega)) ?_))))
          refine dV rfl (v_indexAddr (k := (n % ((rdy z.procs z.procs.length).length : Int)).toNat) rfl rfl sl43 (by omega) (by omega) rfl) (dr_v rfl (v_ldy rfl ld3) ?_)
          refine dr_eff rfl (st_cl rfl rfl en76 rfl (stepL_ct hz hzL (by omega) hq3 hq4) ?_)
          rintro u h' ⟨T2, rfl, ys2, rfl, hz2⟩
          refine dr_nx ?_
          refine dV rfl (vM rfl) (dV rfl (v_extract rfl rfl) (dV rfl (v_extract rfl rfl) ?_))
          obtain ⟨jv2, pv2, rfl, hd1, hd2⟩ := yardR_cells hz2
          refine dr_eff rfl (st_stoW rfl rfl sz27 rfl (by simp [hd1, hd2]) (dr_nx ?_))
          refine dV rfl (vA rfl) (dr_nil (nK [2, 4, 10, 19, 20, 21] rfl (nT (cS (cR (sV (vM rfl) (sV (v_neq rfl rfl) (sN (nK [2, 4, 10, 19, 20, 21, 49] rfl (nT (cC rfl (fun he => ?_) (fun he => ?_))))))))))))
          · skip
            have hne2 : (z.stepE q).2 ≠ 0 := by simpa using he
            rw [if_neg hne2] at hzr
            have hnil := stepE_err hne2
            refine cS (cR (sV (v_build (cells := [.slice none 0 0, .slice none 0 0]) rfl (fun _ => by kernel_rfl)) ?_))
            refine sV (vM rfl) (st_stoW rfl rfl sz27 rfl rfl ?_)
            refine sV (vA rfl) (sN (nK [2, 4, 5, 19, 20, 21] rfl (nT (cT (xt_ret_block (xR (xR (xt_ret_block (xR (xt_vw (vw_pure (φ := True) trivial) ?_))))))))))
            exact xt_retV (.cellN rfl ld27 rfl (by repeat (first | exact Sel.here | apply Sel.there)) (.tmp rfl .nil)) ⟨pureR True, rfl, [.slice none 0 0, .slice none 0 0], by rw [← hzr]; rfl, by rw [← hzr, hnil]; exact nil_yard _⟩ (by repeat (first | exact Sub.refl _ | exact Sub.nil _ | refine Sub.sel (by repeat (first | exact Sel.here | apply Sel.there)) ?_ | apply Sub.cons))
          · skip
            have he2 : (z.stepE q).2 = 0 := by simpa using he
            rw [if_pos he2] at hzr
            refine cK (xB (xT (cR (sV (v_add rfl rfl (by unfold I64 at *; omega)) (sV (vM rfl) (sN (nK [2, 4, 19, 20, 21] rfl (nx_xt ?_))))))))
            refine xt_ag (k + 1, jv2, pv2, (z.stepE q).1, T2) ⟨hlt, hz2, hzL.stepE hq3 hq4 he2, hzr⟩ (by show _ - _ < _ - _; omega)
    · skip
      refine cd_exit (xE (xE (xt_exit_block (xT (cS (cR ?_))))))
      have hkj : k = picks.length := by have : ¬ k < picks.length := by simpa using hd
                                        omega
      subst hkj
      rw [List.drop_length] at hzr
      have hzr2 : (z, (0 : Int)) = y.run picks := hzr
      rw [← hzr2]
      obtain ⟨_, _, he0, hc1, hc2⟩ := yardR_cells hz
      simp only [List.cons.injEq, and_true] at he0
      obtain ⟨rfl, rfl⟩ := he0
      refine sV (v_ldn rfl ld27 rfl rds_pt) ?_
      refine st_stoW rfl rfl sz27 rfl (by simp [hc1, hc2]) ?_
      refine sV (vA rfl) (sN (nK [4, 5] rfl (nT (cT ?_))))
      exact xt_retV (.cellN rfl ld27 rfl (by repeat (first | exact Sel.here | apply Sel.there)) (.tmp rfl .nil)) ⟨T, rfl, _, rfl, hz⟩ (by repeat (first | exact Sub.refl _ | exact Sub.nil _ | refine Sub.sel (by repeat (first | exact Sel.here | apply Sel.there)) ?_ | apply Sub.cons))
end
end Go.Wt
namespace Go.Ck
open Go
section
variable {P : Program} {r : Option Nat} {n : Nat} {w0 : World} {hr : SH} {R : Value → SH → Prop} {fn : Func} {e : Env} {h h' k : SH} {vs : List Value} {bs : List Nat} {ds : List Deferred}
theorem xt_retSV (hds : ds = bs.map mk) (hv : ResV P k e fn.results.toList vs) (hR : R (outOf vs) h') (hk : Sub (h' ++ hr) k) (hp : Sub (Res.star (marks bs) :: k) h) : Xt ⟨P, r, n, ds, w0⟩ .ret (bodyPostM (Fw none) 0 P fn (Post w0 hr R)) e h :=
  fun a w hk' hh hw => by
    show LeavesInM (Fw none) 0 P fn a.tmps _ a.defers .returning w
    rw [hk'.defers, hds]
    exact leavesM bs w (star_iff.1 (hh.sub hp)) hw fun w' h1 h2 => ⟨_, run_resultsV hk' hv h1, _, h', rfl, hR, h1.sub hk, h2⟩
end
end Go.Ck
namespace Go.Wt
open Go Go.Ck Go.Proofs Go.Proofs.YtboepbencndobaaGreat Fx
attribute [local irreducible] St Cd Xt Nx DrL LsW
theorem gos_eq (may : Yard → Nat → Bool) (n : Nat) (y : Yard) : Yard.gos may n y = match y.ready.find? (may y) with
    | none => (y, 0)
    | some i => match n with
      | 0 => (Yard.nil, 13)
      | n + 1 => if (y.stepE i).2 = 0 then Yard.gos may n (y.stepE i).1 else y.stepE i := by
  cases n <;> (conv => lhs; unfold Yard.gos) <;> (cases y.ready.find? (may y) <;> rfl)
theorem ready_find_none {y : Yard} {g : Nat → Bool} (h : ∀ i, i < y.procs.length → (y.pr i).goes = true → g i = false) : y.ready.find? g = none := by
  rw [List.find?_eq_none]
  intro i hi
  unfold Yard.ready at hi
  rw [List.mem_filter] at hi
  rw [h i (List.mem_range.1 hi.1) hi.2]; simp
theorem find_range : ∀ (n m : Nat) {i : Nat} {f g : Nat → Bool}, m ≤ i → i < m + n → f i = true → g i = true → (∀ j, m ≤ j → j < i → f j = true → g j = false) → ((List.range' m n).filter f).find? g = some i
  | 0, m, i, f, g, h1, h2, _, _, _ => by omega
  | n + 1, m, i, f, g, h1, h2, h3, h4, h5 => by
    rw [List.range'_succ]
    by_cases hm : m = i
    · subst hm; rw [List.filter_cons_of_pos h3, List.find?_cons_of_pos h4]
    · have ih := find_range n (m + 1) (i := i) (f := f) (g := g) (by omega) (by omega) h3 h4 fun j hj => h5 j (by omega)
      by_cases hf : f m = true
      · rw [List.filter_cons_of_pos hf, List.find?_cons_of_neg (by rw [h5 m (Nat.le_refl _) (by omega) hf]; simp)]; exact ih
      · rw [List.filter_cons_of_neg hf]; exact ih
theorem ready_find_some {y : Yard} {g : Nat → Bool} {i : Nat} (hi : i < y.procs.length) (hg : (y.pr i).goes = true) (h : g i = true) (hb : ∀ j, j < i → (y.pr j).goes = true → g j = false) : y.ready.find? g = some i := by
  unfold Yard.ready
  rw [List.range_eq_range']
  exact find_range _ 0 (Nat.zero_le _) (by omega) hg h fun j _ hj hf => hb j hj hf
theorem stepE_zero {y : Yard} {i : Nat} (h : (y.stepE i).2 = 0) : (y.stepE i).1 = y.step i := by
  unfold Yard.stepE at h ⊢
  split
  · rename_i hf; rw [if_pos hf] at h; cases h
  · rfl
theorem stepE_jobs {y : Yard} {i : Nat} (h : (y.stepE i).2 = 0) : (y.stepE i).1.jobs = y.jobs := by rw [stepE_zero h]; exact step_jobs y i
theorem stepE_len {y : Yard} {M i : Nat} (H : Live y M) (hi : i < y.procs.length) (_hg : (y.pr i).goes = true) (h : (y.stepE i).2 = 0) : (y.stepE i).1.procs.length = y.procs.length := by
  rw [stepE_zero h]
  exact ((H.bd (B := M + 400) (by omega) (by omega)).step hi fun h => right_job H.right rfl hi h).len
def goStop (may : Yard → Nat → Bool) (b3 b4 b5 b6 b7 nb yl db : Nat) (bs : List Nat) (jv pv mv : Value) (k steps : Nat) (z : Yard) (S T : Res) (hr : SH) (i : Nat) (h' : SH) : Prop :=
  i < z.procs.length ∧ (z.pr i).goes = true ∧ may z i = true ∧ (∀ j, j < i → (z.pr j).goes = true → may z j = false) ∧ ∃ rec' : Loop, rec'.state ≠ .busy ∧
    ((k = steps ∧ rec'.pending = some .ret ∧ h' = pt yl (.loop rec') :: pt db (.deferred (some [])) :: pt b6 (cl [.slice none 0 0, .slice none 0 0] 27) :: pt b7 (cl [.int .i64 13] 28) :: S :: Res.star (marks bs) :: hr)
    ∨ (k < steps ∧ (z.stepE i).2 ≠ 0 ∧ rec'.pending = some .ret ∧ h' = pt yl (.loop rec') :: pt db (.deferred (some [])) :: pt b6 (cl [.slice none 0 0, .slice none 0 0] 27) :: pt b7 (cl [.int .i64 (z.stepE i).2] 28) :: S :: Res.star (marks bs) :: hr)
    ∨ (k < steps ∧ (z.stepE i).2 = 0 ∧ rec'.pending = some (.exit 1) ∧ ∃ T' jv' pv', yardR T' [jv', pv'] (z.stepE i).1 ∧ h' = pt yl (.loop rec') :: pt db (.deferred (some [])) :: pt b3 (cl [jv', pv'] 27) :: T' :: pt nb (cl [.int .i64 k] 3) :: Res.star (marks bs) :: pt b4 (cl [.int .i64 steps] 3) :: pt b5 (cl [mv] 63) :: pt b6 (cl [.slice none 0 0, .slice none 0 0] 27) :: pt b7 (cl [.int .i64 0] 28) :: S :: hr))
section
variable {S : Res}
def goS (b3 b4 b5 b6 b7 nb : Nat) (bs : List Nat) (jv pv mv : Value) (k steps : Nat) (T S : Res) (hr : SH) : SH := pt b3 (cl [jv, pv] 27) :: T :: pt nb (cl [.int .i64 k] 3) :: Res.star (marks bs) :: pt b4 (cl [.int .i64 steps] 3) :: pt b5 (cl [mv] 63) :: pt b6 (cl [.slice none 0 0, .slice none 0 0] 27) :: pt b7 (cl [.int .i64 0] 28) :: S :: hr
set_option maxHeartbeats 1000000 in
set_option maxRecDepth 100000 in
theorem goes_ct {T0 : Res} {ys : List Value} {y : Yard} {M steps : Nat} {kf : FuncId} {cp : Array Value} (may : Yard → Nat → Bool) (hy : yardR T0 ys y) (hL : Live y M) (hM : M + steps ≤ 900000) (hE : Enters Tryz.prog kf)
    (hm : ∀ (z : Yard) (T : Res) (jv pv : Value) (i m : Nat), Live z m → z.procs.length = y.procs.length → z.jobs = y.jobs → m ≤ 900000 → yardR T [jv, pv] z → i < z.procs.length → Reads Tryz.prog kf (#[] ++ [.agg #[jv, pv], .int .i64 i].toArray ++ cp) [T, S] (.bool (may z i))) :
    Ct Tryz.prog 86 #[.agg ys.toArray, .int .i64 steps, .func (.func kf) #[] cp] [T0, S] fun u h' => ∃ T ys', u = .tuple #[.agg ys'.toArray, .int .i64 (Yard.gos may steps y).2] ∧ h' = [T, S] ∧ yardR T ys' (Yard.gos may steps y).1 := by
  obtain ⟨jv0, pv0, rfl, hc01, hc02⟩ := yardR_cells hy
  refine ct_ofM (n := 37) Tryz.func86 rfl rfl (len rfl) fun hr w0 => ?_
  refine cS (cR (st_bx rfl rfl fun b3 => ?_))
  refine st_bx rfl rfl fun b4 => ?_
  refine st_bx rfl rfl fun b5 => ?_
  refine st_alc al27 fun b6 => ?_
  refine st_alc al28 fun b7 => ?_
  refine sN (nK [3, 4, 5, 6, 7] rfl (nT (cd_scope (cS (cd_label (xT (cS (cS (cR (st_alc al3 fun b8 => ?_))))))))))
  refine st_sto rfl rfl sz3 ?_
  refine sN (nT (cd_block (cd_marks0 (cd_loopD (σ := Nat × (Value × Value) × Yard × Res × Nat × List Nat) (fun q => q.2.2.2.2.2.map mk) (fun q => [(3, .pointer (some ⟨b3, 0, none⟩)), (4, .pointer (some ⟨b4, 0, none⟩)), (5, .pointer (some ⟨b5, 0, none⟩)), (6, .pointer (some ⟨b6, 0, none⟩)), (7, .pointer (some ⟨b7, 0, none⟩)), (8, .pointer (some ⟨q.2.2.2.2.1, 0, none⟩))]) (fun q => goS b3 b4 b5 b6 b7 q.2.2.2.2.1 q.2.2.2.2.2 q.2.1.1 q.2.1.2 (.func (.func kf) #[] cp) q.1 steps q.2.2.2.1 S hr) (fun q => q.1 ≤ steps ∧ yardR q.2.2.2.1 [q.2.1.1, q.2.1.2] q.2.2.1 ∧ Live q.2.2.1 (M + q.1) ∧ q.2.2.1.procs.length = y.procs.length ∧ q.2.2.1.jobs = y.jobs ∧ Yard.gos may (steps - q.1) q.2.2.1 = Yard.gos may steps y) (fun q => steps - q.1) (0, (jv0, pv0), y, T0, b8, []) ⟨Nat.zero_le _, hy, hL, rfl, rfl, rfl⟩ rfl ⟨rfl, rfl, rfl, rfl, rfl, rfl, trivial⟩ (by unfold goS; dsimp only; exact (by repeat (first | exact Sub.refl _ | exact Sub.nil _ | refine Sub.sel (by repeat (first | exact Sel.here | apply Sel.there)) ?_ | apply Sub.cons))) ?_))))
  rintro ⟨k, ⟨jv, pv⟩, z, T, nb, bs⟩ ⟨hk, hz, hzL, hzn, hzj, hzg⟩
  simp only at hk hz hzL hzn hzj hzg
  obtain ⟨_, _, he0, hc1, hc2⟩ := yardR_cells hz
  simp only [List.cons.injEq, and_true] at he0
  obtain ⟨rfl, rfl⟩ := he0
  obtain ⟨_, _, he0, hzj2, hzp⟩ := id hz
  simp only [List.cons.injEq, and_true] at he0
  obtain ⟨rfl, rfl⟩ := he0
  rw [gos_eq] at hzg
  have hzf := hzL.fit (by omega)
  dsimp only
  unfold goS
  refine cS (cd_block (cS (cS (cR (sV (v_ldn rfl ld27 rfl rds_pt) ?_)))))
  refine st_cl rfl rfl en72 rfl (going_ct (jv := jv) (pv := pv)) ?_
  rintro u h' ⟨c1, rfl, rfl⟩
  refine sN (nK [3, 4, 5, 6, 7, 8, 14] rfl (nT (cd_block ?_)))
  simp only [List.cons_append, List.nil_append]
  refine cd_range' rfl en112 fun yl db rec hst hpe hps has hbo hkn2 => ?_
  refine ⟨_, Ct.perm (going1_ct (σ := Unit) (S := T) (yl := yl) (jv := jv) (b1 := c1) (fun _ => pt yl (.loop rec) :: pt db (.deferred (some [])) :: pt b3 (cl [jv, pv] 27) :: pt nb (cl [.int .i64 k] 3) :: Res.star (marks bs) :: pt b4 (cl [.int .i64 steps] 3) :: pt b5 (cl [.func (.func kf) #[] cp] 63) :: pt b6 (cl [.slice none 0 0, .slice none 0 0] 27) :: pt b7 (cl [.int .i64 0] 28) :: S :: hr)
    (fun i _ => ∀ j, j < i → (z.pr j).goes = true → may z j = false) (fun i h' => goStop may b3 b4 b5 b6 b7 nb yl db bs jv pv (.func (.func kf) #[] cp) k steps z S T hr i h') () (fun j hj => absurd hj (Nat.not_lt_zero _)) hzp hzf.2.1 ?_ ?_) ?_, ?_⟩
  · rintro i ⟨⟩ hi hg hb
    rw [← pr_get hi] at hg
    have hmz := hm z T jv pv i (M + k) hzL hzn hzj (by omega) hz hi
    refine Yc.perm (yc_of (n := 37) (rec := rec) (args := [.int .i64 i]) (hf := T :: pt db (.deferred (some [])) :: pt b3 (cl [jv, pv] 27) :: pt nb (cl [.int .i64 k] 3) :: Res.star (marks bs) :: pt b4 (cl [.int .i64 steps] 3) :: pt b5 (cl [.func (.func kf) #[] cp] 63) :: pt b6 (cl [.slice none 0 0, .slice none 0 0] 27) :: pt b7 (cl [.int .i64 0] 28) :: S :: hr) (by rw [hps]; rfl) hkn2 (by rw [hps]; decide) ?_) (.swap _ _ _)
    intro hr2 w1
    rw [has, hps, hbo]
    simp only [List.cons_append, List.nil_append]
    refine cR (sV (vA rfl) (sN (nK [3, 4, 5, 6, 7, 8, 9] rfl (nx_xt (xt_mid rfl (by repeat (first | exact Sel.here | apply Sel.there)) (by first | rfl | assumption) ?_)))))
    refine cd_block (cS (cS (cR (sV (v_ldy rfl ld63) ?_))))
    refine sV (v_ldn rfl ld27 rfl rds_pt) ?_
    refine sV (vM rfl) (st_clr rfl rfl hE rfl (hmz) ?_)
    refine sV (v_not rfl) (sN (nK [3, 4, 6, 7, 8, 9, 20] rfl (nT (cC rfl (fun hq => ?_) (fun hq => ?_)))))
    · skip
      have hq2 : may z i = false := by simpa using hq
      refine cd_exit (xE (xt_exit_block (xt_round (by repeat (first | exact Sel.here | apply Sel.there)) (.inl ⟨rfl, (), fun j hj hg2 => ?_, rfl⟩) ?_)))
      · by_cases hji : j = i
        · subst hji; exact hq2
        · exact hb j (by omega) hg2
      · rw [rec_back hst hpe]
        exact (by repeat (first | exact Sub.refl _ | exact Sub.nil _ | refine Sub.sel (by repeat (first | exact Sel.here | apply Sel.there)) ?_ | apply Sub.cons))
    · skip
      have hq2 : may z i = true := by simpa using hq
      refine cK (xT (cS (cS (cR (sV (v_ldy rfl ld3) ?_)))))
      refine sV (v_ldy rfl ld3) ?_
      refine sV (v_eql rfl rfl) (sN (nK [3, 6, 7, 9, 23] rfl (nT (cC rfl (fun hn => ?_) (fun hn => ?_)))))
      · skip
        have hks : k = steps := by have := eq_of_beq hn; omega
        refine cS (cR (sV (v_build (cells := [.slice none 0 0, .slice none 0 0]) rfl (fun _ => by kernel_rfl)) ?_))
        refine st_stoW rfl rfl sz27 rfl rfl ?_
        refine st_sto rfl rfl sz28 ?_
        refine sN (nK [3, 6, 7, 9] rfl (nT (cT (xR (xt_ret_block (xt_round_ret (by repeat (first | exact Sel.here | apply Sel.there)) (.inr ⟨rfl, _, rfl, hi, hg, hq2, hb, { ({ rec with state := .busy } : Loop) with state := .done, pending := some .ret }, by simp, .inl ⟨hks, rfl, rfl⟩⟩) ?_))))))
        exact (by repeat (first | exact Sub.refl _ | exact Sub.nil _ | refine Sub.sel (by repeat (first | exact Sel.here | apply Sel.there)) ?_ | apply Sub.cons))
      · skip
        have hks : k < steps := by
          have : k ≠ steps := fun h => by subst h; simp at hn
          omega
        refine cK (xT (cS (cR (sV (vA rfl) (sN (nK [3, 6, 7, 9, 10] rfl (nT (cS (cS (cR (sV (v_ldn rfl ld27 rfl rds_pt) ?_)))))))))))
        refine sV (vM rfl) (st_cl rfl rfl en76 rfl (stepL_ct hz hzL (by omega) hi hg) ?_)
        rintro u h' ⟨T2, rfl, ys2, rfl, hz2⟩
        obtain ⟨jv2, pv2, rfl, hd1, hd2⟩ := yardR_cells hz2
        refine sV (vM rfl) (sV (v_extract rfl rfl) (sV (v_extract rfl rfl) (st_stoW rfl rfl sz27 rfl (by simp [hd1, hd2]) ?_)))
        refine sV (vA rfl) (sN (nK [6, 7, 10] rfl (nT (cS (cR (sV (vM rfl) (sV (v_neq rfl rfl) (sN (nK [6, 7, 10, 32] rfl (nT (cC rfl (fun he => ?_) (fun he => ?_))))))))))))
        · skip
          have hse : (z.stepE i).2 ≠ 0 := by simpa using he
          refine cS (cR (sV (v_build (cells := [.slice none 0 0, .slice none 0 0]) rfl (fun _ => by kernel_rfl)) ?_))
          refine sV (vM rfl) (st_stoW rfl rfl sz27 rfl rfl ?_)
          refine st_sto rfl rfl sz28 ?_
          refine sN (nK [6, 7] rfl (nT (cT (xR (xt_ret_block (xt_round_ret (by repeat (first | exact Sel.here | apply Sel.there)) (.inr ⟨rfl, _, rfl, hi, hg, hq2, hb, { ({ rec with state := .busy } : Loop) with state := .done, pending := some .ret }, by simp, .inr (.inl ⟨hks, hse, rfl, rfl⟩)⟩) ?_))))))
          exact (by repeat (first | exact Sub.refl _ | exact Sub.nil _ | refine Sub.sel (by repeat (first | exact Sel.here | apply Sel.there)) ?_ | apply Sub.cons))
        · skip
          have hse : (z.stepE i).2 = 0 := by simpa using he
          refine cK (xT (cd_exit (xt_exit_block_ne (by decide) ?_)))
          refine xt_round_exit (by repeat (first | exact Sel.here | apply Sel.there)) (.inr ⟨rfl, _, rfl, hi, hg, hq2, hb, { ({ rec with state := .busy } : Loop) with state := .done, pending := some (.exit 1) }, by simp, .inr (.inr ⟨hks, hse, rfl, T2, jv2, pv2, hz2, rfl⟩)⟩) ?_
          exact (by repeat (first | exact Sub.refl _ | exact Sub.nil _ | refine Sub.sel (by repeat (first | exact Sel.here | apply Sel.there)) ?_ | apply Sub.cons))
  · rintro i ⟨⟩ hi hg hb j hj hg2
    rw [← pr_get hi] at hg
    by_cases hji : j = i
    · subst hji; rw [hg] at hg2; cases hg2
    · exact hb j (by omega) hg2
  · exact (by repeat (first | exact Pm.refl | refine Pm.cons (by repeat (first | exact Sel.here | apply Sel.there)) ?_) : Pm _ _).perm
  · rintro v' h' ⟨rfl, (⟨⟨⟩, hnone, rfl⟩ | ⟨i, h0, ⟨hi, hg, hmi, hb, rec', hbusy, hcase⟩, rfl⟩)⟩
    · rw [ready_find_none hnone] at hzg
      refine ⟨rec, _, (by repeat (first | exact Sel.here | apply Sel.there)), (by rw [hst]; simp), ?_⟩
      rw [hpe]
      dsimp only
      refine xB (xT (cd_exit (xt_exit_block_ne (by decide) ?_)))
      refine xE (xE (xt_exit_block (xT (cS (cR ?_)))))
      rw [← hzg]
      refine sV (v_ldn rfl ld27 rfl rds_pt) ?_
      refine st_stoW rfl rfl sz27 rfl (by simp [hc1, hc2]) ?_
      refine st_sto rfl rfl sz28 ?_
      refine sN (nK [6, 7] rfl (nT (cT (xt_ret_scope (xt_mark (by repeat (first | exact Sel.here | apply Sel.there)) (by repeat (first | exact Sel.here | apply Sel.there)) ?_)))))
      refine xt_retSV (bs := db :: bs) (k := pt b6 (cl [jv, pv] 27) :: pt b7 (cl [.int .i64 0] 28) :: ([T, S] ++ hr)) rfl (.cellN rfl ld27 rfl (by repeat (first | exact Sel.here | apply Sel.there)) (.cell1 rfl ld28 (at_there (at_here (rd_cl rfl))) .nil)) ⟨T, [jv, pv], rfl, rfl, hz⟩ ?_ ?_
      · exact Sub.cons (Sub.cons (Sub.refl _))
      · simp only [List.cons_append, List.nil_append]
        exact (by repeat (first | exact Sub.refl _ | exact Sub.nil _ | refine Sub.sel (by repeat (first | exact Sel.here | apply Sel.there)) ?_ | apply Sub.cons))
    · rw [ready_find_some hi hg hmi hb] at hzg
      rcases hcase with ⟨hks, hpend, rfl⟩ | ⟨hks, hse, hpend, rfl⟩ | ⟨hks, hse, hpend, T', jv', pv', hz', rfl⟩
      · refine ⟨rec', _, (by repeat (first | exact Sel.here | apply Sel.there)), hbusy, ?_⟩
        rw [hpend]
        dsimp only
        refine cT (xt_ret_block (xR (xt_ret_block (xR (xR (xt_ret_block (xR (xt_ret_scope ?_))))))))
        have hk0 : steps - k = 0 := by omega
        rw [hk0] at hzg
        simp only at hzg
        refine xt_mark (by repeat (first | exact Sel.here | apply Sel.there)) (by repeat (first | exact Sel.here | apply Sel.there)) ?_
        refine xt_vw (vw_pure (φ := True) trivial) (xt_retSV (bs := db :: bs) (k := pt b6 (cl [.slice none 0 0, .slice none 0 0] 27) :: pt b7 (cl [.int .i64 13] 28) :: ([pureR True, S] ++ hr)) rfl (.cellN rfl ld27 rfl (by repeat (first | exact Sel.here | apply Sel.there)) (.cell1 rfl ld28 (at_there (at_here (rd_cl rfl))) .nil)) ⟨pureR True, [.slice none 0 0, .slice none 0 0], by rw [← hzg]; rfl, rfl, by rw [← hzg]; exact nil_yard _⟩ ?_ ?_)
        · exact Sub.cons (Sub.cons (Sub.refl _))
        · simp only [List.cons_append, List.nil_append]
          exact (by repeat (first | exact Sub.refl _ | exact Sub.nil _ | refine Sub.sel (by repeat (first | exact Sel.here | apply Sel.there)) ?_ | apply Sub.cons))
      · refine ⟨rec', _, (by repeat (first | exact Sel.here | apply Sel.there)), hbusy, ?_⟩
        rw [hpend]
        dsimp only
        refine cT (xt_ret_block (xR (xt_ret_block (xR (xR (xt_ret_block (xR (xt_ret_scope ?_))))))))
        obtain ⟨m, hm2⟩ : ∃ m, steps - k = m + 1 := ⟨steps - k - 1, by omega⟩
        rw [hm2] at hzg
        simp only at hzg
        rw [if_neg hse] at hzg
        have hnil := stepE_err hse
        refine xt_mark (by repeat (first | exact Sel.here | apply Sel.there)) (by repeat (first | exact Sel.here | apply Sel.there)) ?_
        refine xt_vw (vw_pure (φ := True) trivial) (xt_retSV (bs := db :: bs) (k := pt b6 (cl [.slice none 0 0, .slice none 0 0] 27) :: pt b7 (cl [.int .i64 (z.stepE i).2] 28) :: ([pureR True, S] ++ hr)) rfl (.cellN rfl ld27 rfl (by repeat (first | exact Sel.here | apply Sel.there)) (.cell1 rfl ld28 (at_there (at_here (rd_cl rfl))) .nil)) ⟨pureR True, [.slice none 0 0, .slice none 0 0], by rw [← hzg]; rfl, rfl, by rw [← hzg, hnil]; exact nil_yard _⟩ ?_ ?_)
        · exact Sub.cons (Sub.cons (Sub.refl _))
        · simp only [List.cons_append, List.nil_append]
          exact (by repeat (first | exact Sub.refl _ | exact Sub.nil _ | refine Sub.sel (by repeat (first | exact Sel.here | apply Sel.there)) ?_ | apply Sub.cons))
      · refine ⟨rec', _, (by repeat (first | exact Sel.here | apply Sel.there)), hbusy, ?_⟩
        rw [hpend]
        dsimp only
        refine cd_exit (xt_exit_block_ne (by decide) ?_)
        refine xE (xt_exit_block (xT (cS (cS (cR (sV (v_ldy rfl ld3) ?_))))))
        refine sN (nK [3, 4, 5, 6, 7, 8, 35] rfl (nT (cR (st_alc al3 fun b8 => ?_))))
        refine st_sto rfl rfl sz3 ?_
        refine sN (nK [3, 4, 5, 6, 7, 8] rfl (nT (cR (sV (v_ldy rfl ld3) ?_))))
        refine sV (v_add rfl rfl (by unfold I64 at *; omega)) (st_sto rfl rfl sz3 ?_)
        refine sN (nK [3, 4, 5, 6, 7, 8] rfl (nx_xt (xt_mark (by repeat (first | exact Sel.here | apply Sel.there)) (by repeat (first | exact Sel.here | apply Sel.there)) ?_)))
        obtain ⟨m, hm2⟩ : ∃ m, steps - k = m + 1 := ⟨steps - k - 1, by omega⟩
        rw [hm2] at hzg
        simp only at hzg
        rw [if_pos hse] at hzg
        refine xt_againD (k + 1, (jv', pv'), (z.stepE i).1, T', b8, db :: bs) ⟨hks, hz', hzL.stepE hi hg hse, ?_, ?_, ?_⟩ (by show _ - _ < _ - _; omega) rfl ⟨rfl, rfl, rfl, rfl, rfl, rfl, trivial⟩ ?_
        · show (z.stepE i).1.procs.length = _
          rw [stepE_len hzL hi hg hse]; exact hzn
        · show (z.stepE i).1.jobs = _
          rw [stepE_jobs hse]; exact hzj
        · show Yard.gos may (steps - (k + 1)) (z.stepE i).1 = _
          rw [show steps - (k + 1) = m by omega]; exact hzg
        · dsimp only
          exact (by repeat (first | exact Sub.refl _ | exact Sub.nil _ | refine Sub.sel (by repeat (first | exact Sel.here | apply Sel.there)) ?_ | apply Sub.cons))
end
end Go.Wt
namespace Go.Wt
open Go Go.Ck Go.Proofs Go.Proofs.YtboepbencndobaaGreat Fx
attribute [local irreducible] St Cd Xt Nx DrL LsW
def cntE (steps : Int) : Int := if within steps 0 100000 = true then 0 else 1
set_option maxRecDepth 100000 in
theorem counted_ct (steps : Int) : Reads Tryz.prog 85 #[.int .i64 steps] [] (.int .i64 (cntE steps)) := by
  unfold cntE
  refine ct_of (n := 6) Tryz.func85 rfl rfl (len rfl) fun hr w0 => ?_
  refine cS (cR (sV (vA rfl) (sN (nT (cS (cR (sV (vM rfl) (st_clr rfl rfl en80 rfl (within_ct steps 0 100000) ?_))))))))
  refine st_clr rfl rfl en63 rfl (unless_ct (within steps 0 100000) 1) ?_
  refine sV (vA rfl) (sN (nK [2] rfl (nT (cT ?_))))
  exact xt_rt rfl ⟨rfl, rfl⟩
set_option maxRecDepth 100000 in
theorem always_ct {S S2 : Res} (a : Value) (b : Value) {jv pv : Value} (ha : a = .agg #[jv, pv]) (hb : ∃ i, b = .int .i64 i) : Reads Tryz.prog 102 (#[] ++ [a, b].toArray ++ #[]) [S, S2] (.bool true) := by
  subst ha
  obtain ⟨i, rfl⟩ := hb
  refine ct_of (n := 5) Tryz.func102 rfl rfl (len rfl) fun hr w0 => ?_
  refine cS (cR (st_bx rfl rfl fun b2 => ?_))
  refine sV (vA rfl) (sN (nK [4] rfl (nT (cS (cR (sV (vA rfl) (sN (nT (cT ?_)))))))))
  exact xt_rt rfl ⟨rfl, rfl⟩
def yFinE (y : Yard) (steps : Int) : YE := if firstE [openedE y [], cntE steps] = 0 then Yard.gos (fun _ _ => true) steps.toNat y else (Yard.nil, firstE [openedE y [], cntE steps])
theorem first2_zero {a b : Int} (h : firstE [a, b] = 0) : a = 0 ∧ b = 0 := by
  unfold firstE at h
  by_cases ha : a = 0
  · subst ha
    by_cases hb : b = 0
    · exact ⟨rfl, hb⟩
    · simp [hb] at h
  · simp [ha] at h
theorem cnt_zero {s : Int} (h : cntE s = 0) : 0 ≤ s ∧ s ≤ 100000 := by
  unfold cntE within at h
  split at h
  · rename_i h1; simp at h1; exact h1
  · cases h
section
variable {S : Res}
set_option maxRecDepth 100000 in
theorem Finish_ct {ys : List Value} {y : Yard} {M : Nat} {steps : Int} (hy : yardR S ys y) (hf : Fit y) (hL : y.right = true → Live y M) (hM : M ≤ 500000) :
    CtN Tryz.prog 52 #[.agg ys.toArray, .int .i64 steps] [S] fun u T => ∃ ys', u = .tuple #[.agg ys'.toArray, .int .i64 (yFinE y steps).2] ∧ yardR T ys' (yFinE y steps).1 := by
  obtain ⟨jv, pv, rfl, hj, hp⟩ := id hy
  unfold yFinE
  refine ct_of (n := 23) Tryz.func52 rfl rfl (len rfl) fun hr w0 => ?_
  refine cS (cR (st_bx rfl rfl fun b2 => ?_))
  refine st_alc al27 fun b4 => ?_
  refine sV (vA rfl) (sN (nK [1, 2, 4, 5] rfl (nT (cS (cS (cR (sV (v_ldn rfl ld27 rfl rds_pt) ?_)))))))
  refine st_clr rfl rfl en67 rfl (opened_ct (l := []) hy hf Row.nil (by simp)) ?_
  refine sV (vM rfl) (st_clr rfl rfl en85 rfl (counted_ct steps) ?_)
  generalize hcnt : cntE steps = c1
  generalize hop : openedE y [] = o1
  refine st_buildSlice (cells := [.int .i64 o1, .int .i64 c1]) rfl Tryz.underlying166 inf28 rfl rfl (by kernel_rfl) (ltn rfl) fun b11 => ?_
  refine st_cl rfl rfl en62 rfl (first_ct (S := pt b11 (cl [.int .i64 o1, .int .i64 c1] 28)) (l := [o1, c1]) (row_pt rfl (by simp [iC]) rfl (by decide)) (by simp)) ?_
  rintro u h' ⟨rfl, rfl⟩
  refine sV (vA rfl) (sN (nK [1, 2, 4, 5, 6] rfl (nT (cS (cR (sV (vM rfl) (sV (v_neq rfl rfl) (sN (nK [1, 2, 4, 5, 6, 14] rfl (nT (cC rfl (fun h1 => ?_) (fun h1 => ?_))))))))))))
  · skip
    have h2 : ¬ firstE [o1, c1] = 0 := by simpa using h1
    refine cS (cR ?_)
    rw [if_neg h2]
    refine sV (v_build (cells := [.slice none 0 0, .slice none 0 0]) rfl (fun _ => by kernel_rfl)) ?_
    refine sV (vM rfl) (st_stoW rfl rfl sz27 rfl rfl ?_)
    refine sV (vA rfl) (sN (nK [1, 2, 4, 5] rfl (nT (cT (xR (xt_vw (vw_pure (φ := True) trivial) ?_))))))
    exact xt_retV (.cellN rfl ld27 rfl (by repeat (first | exact Sel.here | apply Sel.there)) (.tmp rfl .nil)) ⟨pureR True, rfl, _, rfl, nil_yard _⟩ (by repeat (first | exact Sub.refl _ | exact Sub.nil _ | refine Sub.sel (by repeat (first | exact Sel.here | apply Sel.there)) ?_ | apply Sub.cons))
  · skip
    have h2 : firstE [o1, c1] = 0 := by simpa using h1
    rw [if_pos h2]
    obtain ⟨ho0, hc0⟩ := first2_zero h2
    rw [← hop] at ho0
    rw [← hcnt] at hc0
    have hyr := (openedE_zero ho0).1
    have hLy := hL hyr
    obtain ⟨hs0, hs1⟩ := cnt_zero hc0
    obtain ⟨n, rfl⟩ := Int.eq_ofNat_of_zero_le hs0
    rw [Int.toNat_natCast]
    refine cK (xT (cS (cR (sV (v_ldn rfl ld27 rfl rds_pt) ?_))))
    refine st_cl rfl rfl en75 rfl (copied_rd hy hf) ?_
    rintro u h' ⟨jv', pv', T0, rfl, rfl, hy0⟩
    refine sV (vM rfl) (st_cl rfl rfl en86 rfl (goes_ct (T0 := T0) (S := S) (fun _ _ => true) hy0 hLy (by omega) en102 (fun z T a b i m _ _ _ _ _ _ => always_ct _ _ rfl ⟨_, rfl⟩)) ?_)
    rintro u h' ⟨T, ys', rfl, rfl, hz⟩
    obtain ⟨ja, pa, rfl, hd1, hd2⟩ := yardR_cells hz
    refine sV (v_extract rfl rfl) (sV (v_extract rfl rfl) (st_stoW rfl rfl sz27 rfl (by simp [hd1, hd2]) ?_))
    refine sV (vA rfl) (sN (nK [4, 5] rfl (nT (cT ?_))))
    exact xt_retV (.cellN rfl ld27 rfl (by repeat (first | exact Sel.here | apply Sel.there)) (.tmp rfl .nil)) ⟨T, rfl, _, rfl, hz⟩ (by repeat (first | exact Sub.refl _ | exact Sub.nil _ | refine Sub.sel (by repeat (first | exact Sel.here | apply Sel.there)) ?_ | apply Sub.cons))
end
end Go.Wt
namespace Go.Wt
open Go Go.Ck Go.Proofs Go.Proofs.YtboepbencndobaaGreat Fx
attribute [local irreducible] Go.Ck.Sub St Cd Xt Nx DrL LsW
def putsE (y : Yard) (i : Nat) : Int × Bool :=
  let p := y.pr i
  if (decide (p.job < 0) || (p.pc == (y.jlen p.job : Int))) = true then (0, false)
  else ((y.mv p.job p.pc).2.1, (y.mv p.job p.pc).1 == 5 || ((y.mv p.job p.pc).1 == 1 && ((y.mv p.job p.pc).2.1 != (i : Int)) && !(p.hold (y.mv p.job p.pc).2.1).isSome))
section
variable {S : Res}
end
end Go.Wt
namespace Go.Wt
open Go Go.Ck Go.Proofs Go.Proofs.YtboepbencndobaaGreat Fx
attribute [local irreducible] St Cd Xt Nx DrL LsW
def mayE (orders : List (List Key)) (y : Yard) (i : Nat) : Bool :=
  !(putsE y i).2 || (decide (((y.pr (putsE y i).1.toNat).puts.length : Int) < ((orders.getD (putsE y i).1.toNat []).length : Int)) && ((orders.getD (putsE y i).1.toNat []).getD (y.pr (putsE y i).1.toNat).puts.length (0, 0) == ((i : Int), (y.pr i).made)))
section
variable {S : Res}
end
end Go.Wt
namespace Go.Wt
open Go Go.Ck Go.Proofs Go.Proofs.YtboepbencndobaaGreat Fx
attribute [local irreducible] St Cd Xt Nx DrL LsW
def tooMany (orders : List (List Key)) : Bool := decide (12 < (orders.length : Int)) || !orders.all fun l => decide ((l.length : Int) ≤ 400)
def replayE (jobs : List (List Move)) (orders : List (List Key)) (steps : Int) : YE :=
  if tooMany orders = true then (Yard.nil, 3)
  else if firstE [check jobs orders.length, cntE steps] ≠ 0 then (Yard.nil, firstE [check jobs orders.length, cntE steps])
  else if (Yard.gos (mayE orders) steps.toNat (Yard.new jobs orders.length)).2 ≠ 0 then (Yard.nil, (Yard.gos (mayE orders) steps.toNat (Yard.new jobs orders.length)).2)
  else if (Yard.gos (mayE orders) steps.toNat (Yard.new jobs orders.length)).1.ready ≠ [] then (Yard.nil, 11)
  else if ((List.range orders.length).all fun i => decide ((orders.getD i []).length ≤ ((Yard.gos (mayE orders) steps.toNat (Yard.new jobs orders.length)).1.pr i).puts.length)) = false then (Yard.nil, 11)
  else ((Yard.gos (mayE orders) steps.toNat (Yard.new jobs orders.length)).1, 0)
theorem gos_live (may : Yard → Nat → Bool) : ∀ (n : Nat) {y : Yard} {M : Nat}, Live y M → (Yard.gos may n y).2 = 0 → Live (Yard.gos may n y).1 (M + n) ∧ (Yard.gos may n y).1.procs.length = y.procs.length ∧ (Yard.gos may n y).1.jobs = y.jobs
  | n, y, M, H, h0 => by
    rw [gos_eq] at h0 ⊢
    cases hf : y.ready.find? (may y) with
    | none => exact ⟨⟨H.hist, H.nf, H.hm.le (by omega)⟩, rfl, rfl⟩
    | some i =>
      rw [hf] at h0
      have hm := List.mem_of_find?_eq_some hf
      have h2 : i ∈ (List.range y.procs.length).filter fun i => (y.pr i).goes := hm
      rw [List.mem_filter] at h2
      have hi := List.mem_range.1 h2.1
      cases n with
      | zero => cases h0
      | succ n =>
        simp only at h0 ⊢
        by_cases hs : (y.stepE i).2 = 0
        · rw [if_pos hs] at h0 ⊢
          obtain ⟨a, b, c⟩ := gos_live may n (H.stepE hi h2.2 hs) h0
          exact ⟨⟨a.hist, a.nf, a.hm.le (by omega)⟩, b.trans (stepE_len H hi h2.2 hs), c.trans (stepE_jobs hs)⟩
        · rw [if_neg hs] at h0; exact absurd h0 hs
section
variable {S : Res}
end
end Go.Wt
namespace Go.Wt
open Go Go.Ck Go.Proofs Go.Proofs.YtboepbencndobaaGreat Fx
attribute [local irreducible] St Cd Xt Nx DrL LsW
section
variable {S : Res} {v v' : Value}
set_option maxRecDepth 100000 in
theorem same28_ct {l l' : List Int} (hv : Row S 1 (eqC iC) v l) (hv' : Row S 1 (eqC iC) v' l') (hl : l.length ≤ 1000000) : Reads Tryz.prog 28 #[v, v'] [S] (.bool (l == l')) := by
  obtain ⟨a, cap, hv1, _⟩ := id hv
  obtain ⟨a', cap', hv1', _⟩ := id hv'
  rw [← eqBy_eq]
  refine ct_of (n := 26) Tryz.func28 rfl rfl (len rfl) fun hr w0 => ?_
  refine cS (cR (sV (vA rfl) (sN (nT (cS (cS (cR (sV (vM rfl) (sV (v_len (congrArg some hv1) Tryz.underlying43) (sV (vM rfl) (sV (v_len (congrArg some hv1') Tryz.underlying43) (sV (v_neq rfl rfl) (sN (nK [0, 1, 4, 10] rfl (nT (cC rfl (fun h0 => ?_) (fun h0 => ?_)))))))))))))))))
  · skip
    refine cS (cR (sV (vA rfl) (sN (nK [0, 1, 4] rfl (nT (cT (xR ?_)))))))
    rw [eqBy_len (fun e => by simp [e] at h0)]
    exact xt_rt rfl ⟨rfl, rfl⟩
  · skip
    refine cK (xT (cS (cS (cR (sV (vA rfl) (sN (nK [0, 1, 4, 5] rfl (nT (cd_block ?_)))))))))
    have hlen : l.length = l'.length := Int.ofNat.inj (show (l.length : Int) = (l'.length : Int) by simpa using h0)
    refine cd_lp (σ := Nat) (fun i => [(0, v), (1, v'), (5, .int .i64 (i : Nat))]) (fun _ => S :: hr) (fun i => i ≤ l.length ∧ ∀ (j : Nat) a b, j < i → l[j]? = some a → l'[j]? = some b → (a == b) = true) (fun i => l.length - i) 0 ⟨Nat.zero_le _, fun j a b hj => by omega⟩ ?_
    rintro i ⟨hi, hne⟩
    refine cS (cS (cR (sV (vM rfl) (sV (vM rfl) (sV (v_len (congrArg some hv1) Tryz.underlying43) (sV (v_lss rfl rfl) (sN (nK [0, 1, 5, 14] rfl (nT (cC rfl (fun hd => ?_) (fun hd => ?_)))))))))))
    · skip
      have hlt : i < l.length := by simpa using hd
      obtain ⟨b, o, cp2, us, hv2, hus, hrd, rfl⟩ := hv.at (List.getElem?_eq_getElem hlt)
      obtain ⟨b', o', cp2', us', hv2', hus', hrd', rfl⟩ := hv'.at (List.getElem?_eq_getElem (show i < l'.length by omega))
      have hr0 : Rd S ⟨b, o + i * 1, none⟩ (.int .i64 l[i]) := rds_at (k := 0) hrd rfl
      have hr1 : Rd S ⟨b', o' + i * 1, none⟩ (.int .i64 (l'[i]'(by omega))) := rds_at (k := 0) hrd' rfl
      refine cK (xT (cS (cd_block (cS (cd_drawh (ork [(0, 2), (1, 2), (2, 2), (3, 1), (4, 2), (5, 2), (6, 2), (7, 1), (8, 2)] .nil) (fun _ => true) mixed (by kernel_rfl) ?_)))))
      refine dV rfl (vM rfl) (dV rfl (vM rfl) (dV rfl (v_indexAddr (k := i) (congrArg some hv2) rfl sl43 rfl hlt rfl) (dr_v rfl (v_ldy rfl ld3) ?_)))
      refine dV rfl (vM rfl) (dV rfl (vM rfl) ?_)
      skip
      refine dV rfl (v_indexAddr (k := i) (congrArg some hv2') rfl sl43 rfl (by omega) rfl) (dr_v rfl (v_ldy rfl ld3) ?_)
      refine dV rfl (v_neq rfl rfl) (dr_nil (nK [0, 1, 5, 25] rfl (nT ?_)))
      skip
      skip
      refine cC rfl (fun he => ?_) (fun he => ?_)
      · skip
        refine cS (cR (sV (vA rfl) (sN (nK [0, 1, 4, 5] rfl (nT (cT (xt_ret_block (xR (xR (xt_ret_block (xR ?_)))))))))))
        rw [eqBy_false (List.getElem?_eq_getElem hlt) (List.getElem?_eq_getElem (show i < l'.length by omega)) (by simpa using he)]
        exact xt_rt rfl ⟨rfl, rfl⟩
      · skip
        refine cK (xB (xT (cR (sV (vM rfl) (sV (v_add rfl rfl (by unfold I64 at *; omega)) (sV (vA rfl) (sN (nK [0, 1, 5] rfl (nx_xt (xt_ag (i + 1) ⟨hlt, fun j x y hj hx hy => ?_⟩ (by show _ - _ < _ - _; omega)))))))))))
        by_cases hji : j = i
        · subst hji; rw [List.getElem?_eq_getElem hlt] at hx; rw [List.getElem?_eq_getElem (show j < l'.length by omega)] at hy; cases hx; cases hy; simpa using he
        · exact hne j x y (by omega) hx hy
    · skip
      refine cd_exit (xE (xE (xt_exit_block (xT (cS (cR (sV (vA rfl) (sN (nK [4] rfl (nT (cT ?_)))))))))))
      have hil : i = l.length := by have : ¬ i < l.length := by simpa using hd
                                    omega
      rw [eqBy_true hlen fun j x y hx hy => hne j x y (by have := (List.getElem?_eq_some_iff.1 hx).1; omega) hx hy]
      exact xt_rt rfl ⟨rfl, rfl⟩
set_option maxRecDepth 100000 in
theorem same42_ct {l l' : List Key} (hv : Row S 2 (eqC kC) v l) (hv' : Row S 2 (eqC kC) v' l') (hl : l.length ≤ 1000000) : Reads Tryz.prog 42 #[v, v'] [S] (.bool (l == l')) := by
  obtain ⟨a, cap, hv1, _⟩ := id hv
  obtain ⟨a', cap', hv1', _⟩ := id hv'
  rw [← eqBy_eq]
  refine ct_of (n := 26) Tryz.func42 rfl rfl (len rfl) fun hr w0 => ?_
  refine cS (cR (sV (vA rfl) (sN (nT (cS (cS (cR (sV (vM rfl) (sV (v_len (congrArg some hv1) Tryz.underlying74) (sV (vM rfl) (sV (v_len (congrArg some hv1') Tryz.underlying74) (sV (v_neq rfl rfl) (sN (nK [0, 1, 4, 10] rfl (nT (cC rfl (fun h0 => ?_) (fun h0 => ?_)))))))))))))))))
  · skip
    refine cS (cR (sV (vA rfl) (sN (nK [0, 1, 4] rfl (nT (cT (xR ?_)))))))
    rw [eqBy_len (fun e => by simp [e] at h0)]
    exact xt_rt rfl ⟨rfl, rfl⟩
  · skip
    refine cK (xT (cS (cS (cR (sV (vA rfl) (sN (nK [0, 1, 4, 5] rfl (nT (cd_block ?_)))))))))
    have hlen : l.length = l'.length := Int.ofNat.inj (show (l.length : Int) = (l'.length : Int) by simpa using h0)
    refine cd_lp (σ := Nat) (fun i => [(0, v), (1, v'), (5, .int .i64 (i : Nat))]) (fun _ => S :: hr) (fun i => i ≤ l.length ∧ ∀ (j : Nat) a b, j < i → l[j]? = some a → l'[j]? = some b → (a == b) = true) (fun i => l.length - i) 0 ⟨Nat.zero_le _, fun j a b hj => by omega⟩ ?_
    rintro i ⟨hi, hne⟩
    refine cS (cS (cR (sV (vM rfl) (sV (vM rfl) (sV (v_len (congrArg some hv1) Tryz.underlying74) (sV (v_lss rfl rfl) (sN (nK [0, 1, 5, 14] rfl (nT (cC rfl (fun hd => ?_) (fun hd => ?_)))))))))))
    · skip
      have hlt : i < l.length := by simpa using hd
      obtain ⟨b, o, cp2, us, hv2, hus, hrd, rfl⟩ := hv.at (List.getElem?_eq_getElem hlt)
      obtain ⟨b', o', cp2', us', hv2', hus', hrd', rfl⟩ := hv'.at (List.getElem?_eq_getElem (show i < l'.length by omega))
      skip
      refine cK (xT (cS (cd_block (cS (cd_drawh (ork [(0, 2), (1, 2), (2, 2), (3, 1), (4, 2), (5, 2), (6, 2), (7, 1), (8, 1)] .nil) (fun _ => true) mixed (by kernel_rfl) ?_)))))
      refine dV rfl (vM rfl) (dV rfl (vM rfl) (dV rfl (v_indexAddr (k := i) (congrArg some hv2) rfl sl74 rfl hlt rfl) (dr_v rfl (v_ldn rfl ld79 hus hrd) ?_)))
      refine dV rfl (vM rfl) (dV rfl (vM rfl) (dV rfl (v_indexAddr (k := i) (congrArg some hv2') rfl sl74 rfl (by omega) rfl) (dr_v rfl (v_ldn rfl ld79 hus' hrd') ?_)))
      refine dr_v rfl (v_neq_T eq79 rfl rfl) (dr_nil (nK [0, 1, 5, 25] rfl (nT (cC rfl (fun he => ?_) (fun he => ?_)))))
      · skip
        refine cS (cR (sV (vA rfl) (sN (nK [0, 1, 4, 5] rfl (nT (cT (xt_ret_block (xR (xR (xt_ret_block (xR ?_)))))))))))
        rw [eqBy_false (List.getElem?_eq_getElem hlt) (List.getElem?_eq_getElem (show i < l'.length by omega)) (by simpa using he)]
        exact xt_rt rfl ⟨rfl, rfl⟩
      · skip
        refine cK (xB (xT (cR (sV (vM rfl) (sV (v_add rfl rfl (by unfold I64 at *; omega)) (sV (vA rfl) (sN (nK [0, 1, 5] rfl (nx_xt (xt_ag (i + 1) ⟨hlt, fun j x y hj hx hy => ?_⟩ (by show _ - _ < _ - _; omega)))))))))))
        by_cases hji : j = i
        · subst hji; rw [List.getElem?_eq_getElem hlt] at hx; rw [List.getElem?_eq_getElem (show j < l'.length by omega)] at hy; cases hx; cases hy; simpa using he
        · exact hne j x y (by omega) hx hy
    · skip
      refine cd_exit (xE (xE (xt_exit_block (xT (cS (cR (sV (vA rfl) (sN (nK [4] rfl (nT (cT ?_)))))))))))
      have hil : i = l.length := by have : ¬ i < l.length := by simpa using hd
                                    omega
      rw [eqBy_true hlen fun j x y hx hy => hne j x y (by have := (List.getElem?_eq_some_iff.1 hx).1; omega) hx hy]
      exact xt_rt rfl ⟨rfl, rfl⟩
set_option maxRecDepth 100000 in
theorem same29_ct {l l' : List Did} (hv : Row S 5 (eqC dC) v l) (hv' : Row S 5 (eqC dC) v' l') (hl : l.length ≤ 1000000) : Reads Tryz.prog 29 #[v, v'] [S] (.bool (l == l')) := by
  obtain ⟨a, cap, hv1, _⟩ := id hv
  obtain ⟨a', cap', hv1', _⟩ := id hv'
  rw [← eqBy_eq]
  refine ct_of (n := 26) Tryz.func29 rfl rfl (len rfl) fun hr w0 => ?_
  refine cS (cR (sV (vA rfl) (sN (nT (cS (cS (cR (sV (vM rfl) (sV (v_len (congrArg some hv1) Tryz.underlying62) (sV (vM rfl) (sV (v_len (congrArg some hv1') Tryz.underlying62) (sV (v_neq rfl rfl) (sN (nK [0, 1, 4, 10] rfl (nT (cC rfl (fun h0 => ?_) (fun h0 => ?_)))))))))))))))))
  · skip
    refine cS (cR (sV (vA rfl) (sN (nK [0, 1, 4] rfl (nT (cT (xR ?_)))))))
    rw [eqBy_len (fun e => by simp [e] at h0)]
    exact xt_rt rfl ⟨rfl, rfl⟩
  · skip
    refine cK (xT (cS (cS (cR (sV (vA rfl) (sN (nK [0, 1, 4, 5] rfl (nT (cd_block ?_)))))))))
    have hlen : l.length = l'.length := Int.ofNat.inj (show (l.length : Int) = (l'.length : Int) by simpa using h0)
    refine cd_lp (σ := Nat) (fun i => [(0, v), (1, v'), (5, .int .i64 (i : Nat))]) (fun _ => S :: hr) (fun i => i ≤ l.length ∧ ∀ (j : Nat) a b, j < i → l[j]? = some a → l'[j]? = some b → (a == b) = true) (fun i => l.length - i) 0 ⟨Nat.zero_le _, fun j a b hj => by omega⟩ ?_
    rintro i ⟨hi, hne⟩
    refine cS (cS (cR (sV (vM rfl) (sV (vM rfl) (sV (v_len (congrArg some hv1) Tryz.underlying62) (sV (v_lss rfl rfl) (sN (nK [0, 1, 5, 14] rfl (nT (cC rfl (fun hd => ?_) (fun hd => ?_)))))))))))
    · skip
      have hlt : i < l.length := by simpa using hd
      obtain ⟨b, o, cp2, us, hv2, hus, hrd, rfl⟩ := hv.at (List.getElem?_eq_getElem hlt)
      obtain ⟨b', o', cp2', us', hv2', hus', hrd', rfl⟩ := hv'.at (List.getElem?_eq_getElem (show i < l'.length by omega))
      skip
      refine cK (xT (cS (cd_block (cS (cd_drawh (ork [(0, 2), (1, 2), (2, 2), (3, 1), (4, 2), (5, 2), (6, 2), (7, 1), (8, 1)] .nil) (fun _ => true) mixed (by kernel_rfl) ?_)))))
      refine dV rfl (vM rfl) (dV rfl (vM rfl) (dV rfl (v_indexAddr (k := i) (congrArg some hv2) rfl sl62 rfl hlt rfl) (dr_v rfl (v_ldn rfl ld81 hus hrd) ?_)))
      refine dV rfl (vM rfl) (dV rfl (vM rfl) (dV rfl (v_indexAddr (k := i) (congrArg some hv2') rfl sl62 rfl (by omega) rfl) (dr_v rfl (v_ldn rfl ld81 hus' hrd') ?_)))
      refine dr_v rfl (v_neq_T eq81 rfl rfl) (dr_nil (nK [0, 1, 5, 25] rfl (nT (cC rfl (fun he => ?_) (fun he => ?_)))))
      · skip
        refine cS (cR (sV (vA rfl) (sN (nK [0, 1, 4, 5] rfl (nT (cT (xt_ret_block (xR (xR (xt_ret_block (xR ?_)))))))))))
        rw [eqBy_false (List.getElem?_eq_getElem hlt) (List.getElem?_eq_getElem (show i < l'.length by omega)) (by simpa using he)]
        exact xt_rt rfl ⟨rfl, rfl⟩
      · skip
        refine cK (xB (xT (cR (sV (vM rfl) (sV (v_add rfl rfl (by unfold I64 at *; omega)) (sV (vA rfl) (sN (nK [0, 1, 5] rfl (nx_xt (xt_ag (i + 1) ⟨hlt, fun j x y hj hx hy => ?_⟩ (by show _ - _ < _ - _; omega)))))))))))
        by_cases hji : j = i
        · subst hji; rw [List.getElem?_eq_getElem hlt] at hx; rw [List.getElem?_eq_getElem (show j < l'.length by omega)] at hy; cases hx; cases hy; simpa using he
        · exact hne j x y (by omega) hx hy
    · skip
      refine cd_exit (xE (xE (xt_exit_block (xT (cS (cR (sV (vA rfl) (sN (nK [4] rfl (nT (cT ?_)))))))))))
      have hil : i = l.length := by have : ¬ i < l.length := by simpa using hd
                                    omega
      rw [eqBy_true hlen fun j x y hx hy => hne j x y (by have := (List.getElem?_eq_some_iff.1 hx).1; omega) hx hy]
      exact xt_rt rfl ⟨rfl, rfl⟩
end
end Go.Wt
