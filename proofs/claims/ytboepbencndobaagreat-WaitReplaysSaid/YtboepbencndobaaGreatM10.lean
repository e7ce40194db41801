/-
  Package wait: goes. Conditions: what is read, that the yard has come about by steps.
  Package wait: counted, Finish, puts. Conditions: what is read, that the yard has come about by steps.
  Package wait: puts; Replay's choice. Conditions: what is read, that the processor is right.
  Package wait: Replay. Conditions: what is read.
  Package wait: Replay. Conditions: what is read.
  The reference: SameInts, SameKeys, SameDid, sameLines, sameProc, SameYards. Conditions: what is read, that lists are not too long.
  The reference: sameLines, sameProc, SameYards. Conditions: what is read, that lists are not too long.
  The reference: SameYards. Conditions: what is read, that lists are not too long.
  The law's examples, as plain data. No condition.
  The law's examples. No condition.
-/
import Derived.Test.YtboepbencndobaaGreatM9
set_option linter.unusedVariables false
set_option linter.unusedSimpArgs false
namespace Go.Ck
open Go
section
variable {P : Program} {r : Option Nat} {n : Nat} {w0 : World} {hr : SH} {R : Value → SH → Prop} {fn : Func} {e : Env} {h h' k : SH} {vs : List Value} {bs : List Nat} {ds : List Deferred}
theorem xt_retSV (hds : ds = bs.map mk) (hv : ResV P k e fn.results.toList vs) (hR : R (outOf vs) h') (hk : Sub (h' ++ hr) k) (hp : Sub (Res.star (marks bs) :: k) h) : Xt ⟨P, r, n, ds, w0⟩ .ret (bodyPostM (Fw none) 0 P fn (Post w0 hr R)) e h :=
 fun a w hk' hh hw => by
  show LeavesInM (Fw none) 0 P fn a.tmps _ a.defers .returning w
  rw [hk'.defers, hds]
  exact leavesM bs w (star_iff.1 (hh.sub hp)) hw fun w' h1 h2 => ⟨_, run_resultsV hk' hv h1, _, h', rfl, hR, h1.sub hk, h2⟩
end
end Go.Ck
namespace Go.Wt
open Go Go.Ck Go.Proofs Go.Proofs.YtboepbencndobaaGreat Fx
attribute [local irreducible] St Cd Xt Nx DrL LsW
theorem gos_eq (may : Yard → Nat → Bool) (n : Nat) (y : Yard) : Yard.gos may n y = match y.ready.find? (may y) with
  | none => (y, 0)
  | some i => match n with
   | 0 => (Yard.nil, 13)
   | n + 1 => if (y.stepE i).2 = 0 then Yard.gos may n (y.stepE i).1 else y.stepE i := by
 cases n <;> (conv => lhs; unfold Yard.gos) <;> (cases y.ready.find? (may y) <;> rfl)
theorem ready_find_none {y : Yard} {g : Nat → Bool} (h : ∀ i, i < y.procs.length → (y.pr i).goes = true → g i = false) : y.ready.find? g = none := by
 rw [List.find?_eq_none]
 intro i hi
 unfold Yard.ready at hi
 rw [List.mem_filter] at hi
 rw [h i (List.mem_range.1 hi.1) hi.2]; simp
theorem find_range : ∀ (n m : Nat) {i : Nat} {f g : Nat → Bool}, m ≤ i → i < m + n → f i = true → g i = true → (∀ j, m ≤ j → j < i → f j = true → g j = false) → ((List.range' m n).filter f).find? g = some i
 | 0, m, i, f, g, h1, h2, _, _, _ => by omega
 | n + 1, m, i, f, g, h1, h2, h3, h4, h5 => by
  rw [List.range'_succ]
  by_cases hm : m = i
  ·subst hm; rw [List.filter_cons_of_pos h3, List.find?_cons_of_pos h4]
  ·have ih := find_range n (m + 1) (i := i) (f := f) (g := g) (by omega) (by omega) h3 h4 fun j hj => h5 j (by omega)
   by_cases hf : f m = true
   ·rw [List.filter_cons_of_pos hf, List.find?_cons_of_neg (by rw [h5 m (Nat.le_refl _) (by omega) hf]; simp)]; exact ih
   ·rw [List.filter_cons_of_neg hf]; exact ih
theorem ready_find_some {y : Yard} {g : Nat → Bool} {i : Nat} (hi : i < y.procs.length) (hg : (y.pr i).goes = true) (h : g i = true) (hb : ∀ j, j < i → (y.pr j).goes = true → g j = false) : y.ready.find? g = some i := by
 unfold Yard.ready
 rw [List.range_eq_range']
 exact find_range _ 0 (Nat.zero_le _) (by omega) hg h fun j _ hj hf => hb j hj hf
theorem stepE_zero {y : Yard} {i : Nat} (h : (y.stepE i).2 = 0) : (y.stepE i).1 = y.step i := by
 unfold Yard.stepE at h ⊢
 split
 ·rename_i hf; rw [if_pos hf] at h; cases h
 ·rfl
theorem stepE_jobs {y : Yard} {i : Nat} (h : (y.stepE i).2 = 0) : (y.stepE i).1.jobs = y.jobs := by rw [stepE_zero h]; exact step_jobs y i
theorem stepE_len {y : Yard} {M i : Nat} (H : Live y M) (hi : i < y.procs.length) (_hg : (y.pr i).goes = true) (h : (y.stepE i).2 = 0) : (y.stepE i).1.procs.length = y.procs.length := by
 rw [stepE_zero h]
 exact ((H.bd (B := M + 400) (by omega) (by omega)).step hi fun h => right_job H.right rfl hi h).len
def goStop (may : Yard → Nat → Bool) (b3 b4 b5 b6 b7 nb yl db : Nat) (bs : List Nat) (jv pv mv : Value) (k steps : Nat) (z : Yard) (S T : Res) (hr : SH) (i : Nat) (h' : SH) : Prop :=
 i < z.procs.length ∧ (z.pr i).goes = true ∧ may z i = true ∧ (∀ j, j < i → (z.pr j).goes = true → may z j = false) ∧ ∃ rec' : Loop, rec'.state ≠ .busy ∧
  ((k = steps ∧ rec'.pending = some .ret ∧ h' = pt yl (.loop rec') :: pt db (.deferred (some [])) :: pt b6 (cl [.slice none 0 0, .slice none 0 0] 27) :: pt b7 (cl [.int .i64 13] 28) :: S :: Res.star (marks bs) :: hr)
  ∨ (k < steps ∧ (z.stepE i).2 ≠ 0 ∧ rec'.pending = some .ret ∧ h' = pt yl (.loop rec') :: pt db (.deferred (some [])) :: pt b6 (cl [.slice none 0 0, .slice none 0 0] 27) :: pt b7 (cl [.int .i64 (z.stepE i).2] 28) :: S :: Res.star (marks bs) :: hr)
  ∨ (k < steps ∧ (z.stepE i).2 = 0 ∧ rec'.pending = some (.exit 1) ∧ ∃ T' jv' pv', yardR T' [jv', pv'] (z.stepE i).1 ∧ h' = pt yl (.loop rec') :: pt db (.deferred (some [])) :: pt b3 (cl [jv', pv'] 27) :: T' :: pt nb (cl [.int .i64 k] 3) :: Res.star (marks bs) :: pt b4 (cl [.int .i64 steps] 3) :: pt b5 (cl [mv] 63) :: pt b6 (cl [.slice none 0 0, .slice none 0 0] 27) :: pt b7 (cl [.int .i64 0] 28) :: S :: hr))
section
variable {S : Res}
def goS (b3 b4 b5 b6 b7 nb : Nat) (bs : List Nat) (jv pv mv : Value) (k steps : Nat) (T S : Res) (hr : SH) : SH := pt b3 (cl [jv, pv] 27) :: T :: pt nb (cl [.int .i64 k] 3) :: Res.star (marks bs) :: pt b4 (cl [.int .i64 steps] 3) :: pt b5 (cl [mv] 63) :: pt b6 (cl [.slice none 0 0, .slice none 0 0] 27) :: pt b7 (cl [.int .i64 0] 28) :: S :: hr
set_option maxHeartbeats 1000000 in
set_option maxRecDepth 100000 in
theorem goes_ct {T0 : Res} {ys : List Value} {y : Yard} {M steps : Nat} {kf : FuncId} {cp : Array Value} (may : Yard → Nat → Bool) (hy : yardR T0 ys y) (hL : Live y M) (hM : M + steps ≤ 900000) (hE : Enters Tryz.prog kf)
  (hm : ∀ (z : Yard) (T : Res) (jv pv : Value) (i m : Nat), Live z m → z.procs.length = y.procs.length → z.jobs = y.jobs → m ≤ 900000 → yardR T [jv, pv] z → i < z.procs.length → Reads Tryz.prog kf (#[] ++ [.agg #[jv, pv], .int .i64 i].toArray ++ cp) [T, S] (.bool (may z i))) :
  Ct Tryz.prog 86 #[.agg ys.toArray, .int .i64 steps, .func (.func kf) #[] cp] [T0, S] fun u h' => ∃ T ys', u = .tuple #[.agg ys'.toArray, .int .i64 (Yard.gos may steps y).2] ∧ h' = [T, S] ∧ yardR T ys' (Yard.gos may steps y).1 := by
 obtain ⟨jv0, pv0, rfl, hc01, hc02⟩ := yardR_cells hy
 refine ct_ofM (n := 37) Tryz.func86 rfl rfl (len rfl) fun hr w0 => ?_
 refine cS (cR (st_bx rfl rfl fun b3 => ?_))
 refine st_bx rfl rfl fun b4 => ?_
 refine st_bx rfl rfl fun b5 => ?_
 refine st_alc al27 fun b6 => ?_
 refine st_alc al28 fun b7 => ?_
 refine sN (nK [3, 4, 5, 6, 7] rfl (nT (cd_scope (cS (cd_label (xT (cS (cS (cR (st_alc al3 fun b8 => ?_))))))))))
 refine st_sto rfl rfl sz3 ?_
 refine sN (nT (cB (cd_marks0 (cd_loopD (σ := Nat × (Value × Value) × Yard × Res × Nat × List Nat) (fun q => q.2.2.2.2.2.map mk) (fun q => [(3, .pointer (some ⟨b3, 0, none⟩)), (4, .pointer (some ⟨b4, 0, none⟩)), (5, .pointer (some ⟨b5, 0, none⟩)), (6, .pointer (some ⟨b6, 0, none⟩)), (7, .pointer (some ⟨b7, 0, none⟩)), (8, .pointer (some ⟨q.2.2.2.2.1, 0, none⟩))]) (fun q => goS b3 b4 b5 b6 b7 q.2.2.2.2.1 q.2.2.2.2.2 q.2.1.1 q.2.1.2 (.func (.func kf) #[] cp) q.1 steps q.2.2.2.1 S hr) (fun q => q.1 ≤ steps ∧ yardR q.2.2.2.1 [q.2.1.1, q.2.1.2] q.2.2.1 ∧ Live q.2.2.1 (M + q.1) ∧ q.2.2.1.procs.length = y.procs.length ∧ q.2.2.1.jobs = y.jobs ∧ Yard.gos may (steps - q.1) q.2.2.1 = Yard.gos may steps y) (fun q => steps - q.1) (0, (jv0, pv0), y, T0, b8, []) ⟨Nat.zero_le _, hy, hL, rfl, rfl, rfl⟩ rfl ⟨rfl, rfl, rfl, rfl, rfl, rfl, trivial⟩ (by unfold goS; dsimp only; exact sbr) ?_))))
 rintro ⟨k, ⟨jv, pv⟩, z, T, nb, bs⟩ ⟨hk, hz, hzL, hzn, hzj, hzg⟩
 simp only at hk hz hzL hzn hzj hzg
 obtain ⟨_, _, he0, hc1, hc2⟩ := yardR_cells hz
 simp only [List.cons.injEq, and_true] at he0
 obtain ⟨rfl, rfl⟩ := he0
 obtain ⟨_, _, he0, hzj2, hzp⟩ := id hz
 simp only [List.cons.injEq, and_true] at he0
 obtain ⟨rfl, rfl⟩ := he0
 rw [gos_eq] at hzg
 have hzf := hzL.fit (by omega)
 dsimp only
 unfold goS
 refine cS (cB (cS (cS (cR (sV (v_ldn rfl ld27 rfl rds_pt) ?_)))))
 refine st_cl rfl rfl en72 rfl (going_ct (jv := jv) (pv := pv)) ?_
 rintro u h' ⟨c1, rfl, rfl⟩
 refine sN (nK [3, 4, 5, 6, 7, 8, 14] rfl (nT (cB ?_)))
 simp only [List.cons_append, List.nil_append]
 refine cd_range' rfl en112 fun yl db rec hst hpe hps has hbo hkn2 => ?_
 refine ⟨_, Ct.perm (going1_ct (σ := Unit) (S := T) (yl := yl) (jv := jv) (b1 := c1) (fun _ => pt yl (.loop rec) :: pt db (.deferred (some [])) :: pt b3 (cl [jv, pv] 27) :: pt nb (cl [.int .i64 k] 3) :: Res.star (marks bs) :: pt b4 (cl [.int .i64 steps] 3) :: pt b5 (cl [.func (.func kf) #[] cp] 63) :: pt b6 (cl [.slice none 0 0, .slice none 0 0] 27) :: pt b7 (cl [.int .i64 0] 28) :: S :: hr)
  (fun i _ => ∀ j, j < i → (z.pr j).goes = true → may z j = false) (fun i h' => goStop may b3 b4 b5 b6 b7 nb yl db bs jv pv (.func (.func kf) #[] cp) k steps z S T hr i h') () (fun j hj => absurd hj (Nat.not_lt_zero _)) hzp hzf.2.1 ?_ ?_) ?_, ?_⟩
 ·rintro i ⟨⟩ hi hg hb
  rw [← pr_get hi] at hg
  have hmz := hm z T jv pv i (M + k) hzL hzn hzj (by omega) hz hi
  refine Yc.perm (yc_of (n := 37) (rec := rec) (args := [.int .i64 i]) (hf := T :: pt db (.deferred (some [])) :: pt b3 (cl [jv, pv] 27) :: pt nb (cl [.int .i64 k] 3) :: Res.star (marks bs) :: pt b4 (cl [.int .i64 steps] 3) :: pt b5 (cl [.func (.func kf) #[] cp] 63) :: pt b6 (cl [.slice none 0 0, .slice none 0 0] 27) :: pt b7 (cl [.int .i64 0] 28) :: S :: hr) (by rw [hps]; rfl) hkn2 (by rw [hps]; decide) ?_) (.swap _ _ _)
  intro hr2 w1
  rw [has, hps, hbo]
  simp only [List.cons_append, List.nil_append]
  refine cR (sV (vA rfl) (sN (nK [3, 4, 5, 6, 7, 8, 9] rfl (nx_xt (xt_mid rfl slq (by first | rfl | assumption) ?_)))))
  refine cB (cS (cS (cR (sV (vY rfl ld63) ?_))))
  refine sV (v_ldn rfl ld27 rfl rds_pt) ?_
  refine sV (vM rfl) (st_clr rfl rfl hE rfl (hmz) ?_)
  refine sV (v_not rfl) (sN (nK [3, 4, 6, 7, 8, 9, 20] rfl (nT (cC rfl (fun hq => ?_) (fun hq => ?_)))))
  ·skip
   have hq2 : may z i = false := by simpa using hq
   refine cd_exit (xE (xY (xt_round slq (.inl ⟨rfl, (), fun j hj hg2 => ?_, rfl⟩) ?_)))
   ·by_cases hji : j = i
    ·subst hji; exact hq2
    ·exact hb j (by omega) hg2
   ·rw [rec_back hst hpe]
    exact sbr
  ·skip
   have hq2 : may z i = true := by simpa using hq
   refine cK (xT (cS (cS (cR (sV (vY rfl ld3) ?_)))))
   refine sV (vY rfl ld3) ?_
   refine sV (v_eql rfl rfl) (sN (nK [3, 6, 7, 9, 23] rfl (nT (cC rfl (fun hn => ?_) (fun hn => ?_)))))
   ·skip
    have hks : k = steps := by have := eq_of_beq hn; omega
    refine cS (cR (sV (v_build (cells := [.slice none 0 0, .slice none 0 0]) rfl (fun _ => by kernel_rfl)) ?_))
    refine st_stoW rfl rfl sz27 rfl rfl ?_
    refine st_sto rfl rfl sz28 ?_
    refine sN (nK [3, 6, 7, 9] rfl (nT (cT (xR (xW (xt_round_ret slq (.inr ⟨rfl, _, rfl, hi, hg, hq2, hb, { ({ rec with state := .busy } : Loop) with state := .done, pending := some .ret }, by simp, .inl ⟨hks, rfl, rfl⟩⟩) ?_))))))
    exact sbr
   ·skip
    have hks : k < steps := by
     have : k ≠ steps := fun h => by subst h; simp at hn
     omega
    refine cK (xT (cS (cR (sV (vA rfl) (sN (nK [3, 6, 7, 9, 10] rfl (nT (cS (cS (cR (sV (v_ldn rfl ld27 rfl rds_pt) ?_)))))))))))
    refine sV (vM rfl) (st_cl rfl rfl en76 rfl (stepL_ct hz hzL (by omega) hi hg) ?_)
    rintro u h' ⟨T2, rfl, ys2, rfl, hz2⟩
    obtain ⟨jv2, pv2, rfl, hd1, hd2⟩ := yardR_cells hz2
    refine sV (vM rfl) (sV (v_extract rfl rfl) (sV (v_extract rfl rfl) (st_stoW rfl rfl sz27 rfl (by simp [hd1, hd2]) ?_)))
    refine sV (vA rfl) (sN (nK [6, 7, 10] rfl (nT (cS (cR (sV (vM rfl) (sV (v_neq rfl rfl) (sN (nK [6, 7, 10, 32] rfl (nT (cC rfl (fun he => ?_) (fun he => ?_))))))))))))
    ·skip
     have hse : (z.stepE i).2 ≠ 0 := by simpa using he
     refine cS (cR (sV (v_build (cells := [.slice none 0 0, .slice none 0 0]) rfl (fun _ => by kernel_rfl)) ?_))
     refine sV (vM rfl) (st_stoW rfl rfl sz27 rfl rfl ?_)
     refine st_sto rfl rfl sz28 ?_
     refine sN (nK [6, 7] rfl (nT (cT (xR (xW (xt_round_ret slq (.inr ⟨rfl, _, rfl, hi, hg, hq2, hb, { ({ rec with state := .busy } : Loop) with state := .done, pending := some .ret }, by simp, .inr (.inl ⟨hks, hse, rfl, rfl⟩)⟩) ?_))))))
     exact sbr
    ·skip
     have hse : (z.stepE i).2 = 0 := by simpa using he
     refine cK (xT (cd_exit (xt_exit_block_ne (by decide) ?_)))
     refine xt_round_exit slq (.inr ⟨rfl, _, rfl, hi, hg, hq2, hb, { ({ rec with state := .busy } : Loop) with state := .done, pending := some (.exit 1) }, by simp, .inr (.inr ⟨hks, hse, rfl, T2, jv2, pv2, hz2, rfl⟩)⟩) ?_
     exact sbr
 ·rintro i ⟨⟩ hi hg hb j hj hg2
  rw [← pr_get hi] at hg
  by_cases hji : j = i
  ·subst hji; rw [hg] at hg2; cases hg2
  ·exact hb j (by omega) hg2
 ·exact (by repeat (first | exact Pm.refl | refine Pm.cons slq ?_) : Pm _ _).perm
 ·rintro v' h' ⟨rfl, (⟨⟨⟩, hnone, rfl⟩ | ⟨i, h0, ⟨hi, hg, hmi, hb, rec', hbusy, hcase⟩, rfl⟩)⟩
  ·rw [ready_find_none hnone] at hzg
   refine ⟨rec, _, slq, (by rw [hst]; simp), ?_⟩
   rw [hpe]
   dsimp only
   refine xB (xT (cd_exit (xt_exit_block_ne (by decide) ?_)))
   refine xE (xE (xY (xT (cS (cR ?_)))))
   rw [← hzg]
   refine sV (v_ldn rfl ld27 rfl rds_pt) ?_
   refine st_stoW rfl rfl sz27 rfl (by simp [hc1, hc2]) ?_
   refine st_sto rfl rfl sz28 ?_
   refine sN (nK [6, 7] rfl (nT (cT (xt_ret_scope (xt_mark slq slq ?_)))))
   refine xt_retSV (bs := db :: bs) (k := pt b6 (cl [jv, pv] 27) :: pt b7 (cl [.int .i64 0] 28) :: ([T, S] ++ hr)) rfl (.cellN rfl ld27 rfl slq (.cell1 rfl ld28 (at_there (at_here (rd_cl rfl))) .nil)) ⟨T, [jv, pv], rfl, rfl, hz⟩ ?_ ?_
   ·exact Sub.cons (Sub.cons (Sub.refl _))
   ·simp only [List.cons_append, List.nil_append]
    exact sbr
  ·rw [ready_find_some hi hg hmi hb] at hzg
   rcases hcase with ⟨hks, hpend, rfl⟩ | ⟨hks, hse, hpend, rfl⟩ | ⟨hks, hse, hpend, T', jv', pv', hz', rfl⟩
   ·refine ⟨rec', _, slq, hbusy, ?_⟩
    rw [hpend]
    dsimp only
    refine cT (xW (xR (xW (xR (xR (xW (xR (xt_ret_scope ?_))))))))
    have hk0 : steps - k = 0 := by omega
    rw [hk0] at hzg
    simp only at hzg
    refine xt_mark slq slq ?_
    refine xt_vw (vw_pure (φ := True) trivial) (xt_retSV (bs := db :: bs) (k := pt b6 (cl [.slice none 0 0, .slice none 0 0] 27) :: pt b7 (cl [.int .i64 13] 28) :: ([pureR True, S] ++ hr)) rfl (.cellN rfl ld27 rfl slq (.cell1 rfl ld28 (at_there (at_here (rd_cl rfl))) .nil)) ⟨pureR True, [.slice none 0 0, .slice none 0 0], by rw [← hzg]; rfl, rfl, by rw [← hzg]; exact nil_yard _⟩ ?_ ?_)
    ·exact Sub.cons (Sub.cons (Sub.refl _))
    ·simp only [List.cons_append, List.nil_append]
     exact sbr
   ·refine ⟨rec', _, slq, hbusy, ?_⟩
    rw [hpend]
    dsimp only
    refine cT (xW (xR (xW (xR (xR (xW (xR (xt_ret_scope ?_))))))))
    obtain ⟨m, hm2⟩ : ∃ m, steps - k = m + 1 := ⟨steps - k - 1, by omega⟩
    rw [hm2] at hzg
    simp only at hzg
    rw [if_neg hse] at hzg
    have hnil := stepE_err hse
    refine xt_mark slq slq ?_
    refine xt_vw (vw_pure (φ := True) trivial) (xt_retSV (bs := db :: bs) (k := pt b6 (cl [.slice none 0 0, .slice none 0 0] 27) :: pt b7 (cl [.int .i64 (z.stepE i).2] 28) :: ([pureR True, S] ++ hr)) rfl (.cellN rfl ld27 rfl slq (.cell1 rfl ld28 (at_there (at_here (rd_cl rfl))) .nil)) ⟨pureR True, [.slice none 0 0, .slice none 0 0], by rw [← hzg]; rfl, rfl, by rw [← hzg, hnil]; exact nil_yard _⟩ ?_ ?_)
    ·exact Sub.cons (Sub.cons (Sub.refl _))
    ·simp only [List.cons_append, List.nil_append]
     exact sbr
   ·refine ⟨rec', _, slq, hbusy, ?_⟩
    rw [hpend]
    dsimp only
    refine cd_exit (xt_exit_block_ne (by decide) ?_)
    refine xE (xY (xT (cS (cS (cR (sV (vY rfl ld3) ?_))))))
    refine sN (nK [3, 4, 5, 6, 7, 8, 35] rfl (nT (cR (st_alc al3 fun b8 => ?_))))
    refine st_sto rfl rfl sz3 ?_
    refine sN (nK [3, 4, 5, 6, 7, 8] rfl (nT (cR (sV (vY rfl ld3) ?_))))
    refine sV (v_add rfl rfl (by unfold I64 at *; omega)) (st_sto rfl rfl sz3 ?_)
    refine sN (nK [3, 4, 5, 6, 7, 8] rfl (nx_xt (xt_mark slq slq ?_)))
    obtain ⟨m, hm2⟩ : ∃ m, steps - k = m + 1 := ⟨steps - k - 1, by omega⟩
    rw [hm2] at hzg
    simp only at hzg
    rw [if_pos hse] at hzg
    refine xt_againD (k + 1, (jv', pv'), (z.stepE i).1, T', b8, db :: bs) ⟨hks, hz', hzL.stepE hi hg hse, ?_, ?_, ?_⟩ (by show _ - _ < _ - _; omega) rfl ⟨rfl, rfl, rfl, rfl, rfl, rfl, trivial⟩ ?_
    ·show (z.stepE i).1.procs.length = _
     rw [stepE_len hzL hi hg hse]; exact hzn
    ·show (z.stepE i).1.jobs = _
     rw [stepE_jobs hse]; exact hzj
    ·show Yard.gos may (steps - (k + 1)) (z.stepE i).1 = _
     rw [show steps - (k + 1) = m by omega]; exact hzg
    ·dsimp only
     exact sbr
end
end Go.Wt
namespace Go.Wt
open Go Go.Ck Go.Proofs Go.Proofs.YtboepbencndobaaGreat Fx
attribute [local irreducible] St Cd Xt Nx DrL LsW
def cntE (steps : Int) : Int := if within steps 0 100000 = true then 0 else 1
set_option maxRecDepth 100000 in
theorem counted_ct (steps : Int) : Reads Tryz.prog 85 #[.int .i64 steps] [] (.int .i64 (cntE steps)) := by
 unfold cntE
 refine ct_of (n := 6) Tryz.func85 rfl rfl (len rfl) fun hr w0 => ?_
 refine cS (cR (sV (vA rfl) (sN (nT (cS (cR (sV (vM rfl) (st_clr rfl rfl en80 rfl (within_ct steps 0 100000) ?_))))))))
 refine st_clr rfl rfl en63 rfl (unless_ct (within steps 0 100000) 1) ?_
 refine sV (vA rfl) (sN (nK [2] rfl (nT (cT ?_))))
 exact xt_rt rfl ⟨rfl, rfl⟩
set_option maxRecDepth 100000 in
theorem always_ct {S S2 : Res} (a : Value) (b : Value) {jv pv : Value} (ha : a = .agg #[jv, pv]) (hb : ∃ i, b = .int .i64 i) : Reads Tryz.prog 102 (#[] ++ [a, b].toArray ++ #[]) [S, S2] (.bool true) := by
 subst ha
 obtain ⟨i, rfl⟩ := hb
 refine ct_of (n := 5) Tryz.func102 rfl rfl (len rfl) fun hr w0 => ?_
 refine cS (cR (st_bx rfl rfl fun b2 => ?_))
 refine sV (vA rfl) (sN (nK [4] rfl (nT (cS (cR (sV (vA rfl) (sN (nT (cT ?_)))))))))
 exact xt_rt rfl ⟨rfl, rfl⟩
def yFinE (y : Yard) (steps : Int) : YE := if firstE [openedE y [], cntE steps] = 0 then Yard.gos (fun _ _ => true) steps.toNat y else (Yard.nil, firstE [openedE y [], cntE steps])
theorem first2_zero {a b : Int} (h : firstE [a, b] = 0) : a = 0 ∧ b = 0 := by
 unfold firstE at h
 by_cases ha : a = 0
 ·subst ha
  by_cases hb : b = 0
  ·exact ⟨rfl, hb⟩
  ·simp [hb] at h
 ·simp [ha] at h
theorem cnt_zero {s : Int} (h : cntE s = 0) : 0 ≤ s ∧ s ≤ 100000 := by
 unfold cntE within at h
 split at h
 ·rename_i h1; simp at h1; exact h1
 ·cases h
section
variable {S : Res}
set_option maxRecDepth 100000 in
theorem Finish_ct {ys : List Value} {y : Yard} {M : Nat} {steps : Int} (hy : yardR S ys y) (hf : Fit y) (hL : y.right = true → Live y M) (hM : M ≤ 500000) :
  CtN Tryz.prog 52 #[.agg ys.toArray, .int .i64 steps] [S] fun u T => ∃ ys', u = .tuple #[.agg ys'.toArray, .int .i64 (yFinE y steps).2] ∧ yardR T ys' (yFinE y steps).1 := by
 obtain ⟨jv, pv, rfl, hj, hp⟩ := id hy
 unfold yFinE
 refine ct_of (n := 23) Tryz.func52 rfl rfl (len rfl) fun hr w0 => ?_
 refine cS (cR (st_bx rfl rfl fun b2 => ?_))
 refine st_alc al27 fun b4 => ?_
 refine sV (vA rfl) (sN (nK [1, 2, 4, 5] rfl (nT (cS (cS (cR (sV (v_ldn rfl ld27 rfl rds_pt) ?_)))))))
 refine st_clr rfl rfl en67 rfl (opened_ct (l := []) hy hf Row.nil (by simp)) ?_
 refine sV (vM rfl) (st_clr rfl rfl en85 rfl (counted_ct steps) ?_)
 generalize hcnt : cntE steps = c1
 generalize hop : openedE y [] = o1
 refine st_buildSlice (cells := [.int .i64 o1, .int .i64 c1]) rfl Tryz.underlying166 inf28 rfl rfl (by kernel_rfl) (ltn rfl) fun b11 => ?_
 refine st_cl rfl rfl en62 rfl (first_ct (S := pt b11 (cl [.int .i64 o1, .int .i64 c1] 28)) (l := [o1, c1]) (row_pt rfl (by simp [iC]) rfl (by decide)) (by simp)) ?_
 rintro u h' ⟨rfl, rfl⟩
 refine sV (vA rfl) (sN (nK [1, 2, 4, 5, 6] rfl (nT (cS (cR (sV (vM rfl) (sV (v_neq rfl rfl) (sN (nK [1, 2, 4, 5, 6, 14] rfl (nT (cC rfl (fun h1 => ?_) (fun h1 => ?_))))))))))))
 ·skip
  have h2 : ¬ firstE [o1, c1] = 0 := by simpa using h1
  refine cS (cR ?_)
  rw [if_neg h2]
  refine sV (v_build (cells := [.slice none 0 0, .slice none 0 0]) rfl (fun _ => by kernel_rfl)) ?_
  refine sV (vM rfl) (st_stoW rfl rfl sz27 rfl rfl ?_)
  refine sV (vA rfl) (sN (nK [1, 2, 4, 5] rfl (nT (cT (xR (xt_vw (vw_pure (φ := True) trivial) ?_))))))
  exact xt_retV (.cellN rfl ld27 rfl slq (.tmp rfl .nil)) ⟨pureR True, rfl, _, rfl, nil_yard _⟩ sbr
 ·skip
  have h2 : firstE [o1, c1] = 0 := by simpa using h1
  rw [if_pos h2]
  obtain ⟨ho0, hc0⟩ := first2_zero h2
  rw [← hop] at ho0
  rw [← hcnt] at hc0
  have hyr := (openedE_zero ho0).1
  have hLy := hL hyr
  obtain ⟨hs0, hs1⟩ := cnt_zero hc0
  obtain ⟨n, rfl⟩ := Int.eq_ofNat_of_zero_le hs0
  rw [Int.toNat_natCast]
  refine cK (xT (cS (cR (sV (v_ldn rfl ld27 rfl rds_pt) ?_))))
  refine st_cl rfl rfl en75 rfl (copied_rd hy hf) ?_
  rintro u h' ⟨jv', pv', T0, rfl, rfl, hy0⟩
  refine sV (vM rfl) (st_cl rfl rfl en86 rfl (goes_ct (T0 := T0) (S := S) (fun _ _ => true) hy0 hLy (by omega) en102 (fun z T a b i m _ _ _ _ _ _ => always_ct _ _ rfl ⟨_, rfl⟩)) ?_)
  rintro u h' ⟨T, ys', rfl, rfl, hz⟩
  obtain ⟨ja, pa, rfl, hd1, hd2⟩ := yardR_cells hz
  refine sV (v_extract rfl rfl) (sV (v_extract rfl rfl) (st_stoW rfl rfl sz27 rfl (by simp [hd1, hd2]) ?_))
  refine sV (vA rfl) (sN (nK [4, 5] rfl (nT (cT ?_))))
  exact xt_retV (.cellN rfl ld27 rfl slq (.tmp rfl .nil)) ⟨T, rfl, _, rfl, hz⟩ sbr
end
end Go.Wt
namespace Go.Wt
open Go Go.Ck Go.Proofs Go.Proofs.YtboepbencndobaaGreat Fx
attribute [local irreducible] Go.Ck.Sub St Cd Xt Nx DrL LsW
def putsE (y : Yard) (i : Nat) : Int × Bool :=
 let p := y.pr i
 if (decide (p.job < 0) || (p.pc == (y.jlen p.job : Int))) = true then (0, false)
 else ((y.mv p.job p.pc).2.1, (y.mv p.job p.pc).1 == 5 || ((y.mv p.job p.pc).1 == 1 && ((y.mv p.job p.pc).2.1 != (i : Int)) && !(p.hold (y.mv p.job p.pc).2.1).isSome))
section
variable {S : Res}
set_option maxRecDepth 100000 in
theorem puts_ct {jv pv : Value} {y : Yard} {n i : Nat} (hy : yardR S [jv, pv] y) (hf : Fit y) (hn : y.procs.length = n) (hi : i < n) (hok : 0 ≤ (y.pr i).job → JobOk y n i) :
  Reads Tryz.prog 88 #[.agg #[jv, pv], .int .i64 i] [S] (.tuple #[.int .i64 (putsE y i).1, .bool (putsE y i).2]) := by
 obtain ⟨_, _, he0, hj, hp⟩ := id hy
 simp only [List.cons.injEq, and_true] at he0
 obtain ⟨rfl, rfl⟩ := he0
 subst hn
 obtain ⟨b, off, cp2, us, rfl, hus, hrd, lv, pv', hv, dv, rfl, hL, hP, hH, hD⟩ := hp.at (List.getElem?_eq_getElem hi)
 have hfp := hf.2.2 _ (List.getElem_mem hi)
 have hpr := pr_get hi
 have hpe0 : putsE y i = if (decide ((y.pr i).job < 0) || ((y.pr i).pc == (y.jlen (y.pr i).job : Int))) = true then (0, false)
  else ((y.mv (y.pr i).job (y.pr i).pc).2.1, (y.mv (y.pr i).job (y.pr i).pc).1 == 5 || ((y.mv (y.pr i).job (y.pr i).pc).1 == 1 && ((y.mv (y.pr i).job (y.pr i).pc).2.1 != (i : Int)) && !((y.pr i).hold (y.mv (y.pr i).job (y.pr i).pc).2.1).isSome)) := rfl
 obtain ⟨al, cl', rfl, _⟩ := id hL
 obtain ⟨ap', cp', rfl, _⟩ := id hP
 obtain ⟨ah, ch', rfl, _⟩ := id hH
 obtain ⟨ad, cd', rfl, _⟩ := id hD
 rw [← hpr] at hrd hL hP hH hD hfp
 generalize hpe : y.pr i = p at *
 refine ct_of (n := 68) Tryz.func88 rfl rfl (len rfl) fun hr w0 => ?_
 refine cS (cR (st_bx rfl rfl fun b2 => ?_))
 refine sV (vA rfl) (sV (vA rfl) (sN (nK [1, 2, 4, 5] rfl (nT (cS (cR (sV (vF rfl fa27_1 rfl) (sV (vY rfl ld25) ?_))))))))
 refine sV (vM rfl) (sV (vI (k := i) rfl rfl sl25 rfl hi rfl) (sV (v_ldn rfl ld77 rfl hrd) ?_))
 refine st_alc al77 fun b6 => ?_
 refine st_stoW rfl rfl sz77 rfl rfl ?_
 refine sN (nK [1, 2, 4, 5, 6] rfl (nT (cS (cS (cd_drawh (ork [(0, 2), (1, 1), (2, 2), (3, 2), (4, 2), (5, 1), (6, 2), (7, 1), (8, 2), (9, 1), (10, 2), (11, 1), (12, 2), (13, 2), (14, 2)] .nil) (fun _ => true) mixed (by kernel_rfl) ?_)))))
 refine dV rfl (vF rfl fa77_2 rfl) (dr_v rfl (vY rfl ld3) ?_)
 refine dV rfl (v_lss rfl rfl) (dV rfl (vM rfl) (dr_cut (k := 11) (d := 29) (v := .bool (decide (p.job < 0) || (p.pc == (y.jlen p.job : Int)))) (fun hcut => bool_want (b := decide (p.job < 0)) false (fun hg => ?_) (fun hg => ?_)) ?_))
 ·refine dp_sk rfl rfl rfl hg ?_
  refine dr_sk rfl rfl rfl hg ?_
  refine dp_sk rfl rfl rfl hg ?_
  refine dr_sk rfl rfl rfl hg ?_
  refine dp_sk rfl rfl rfl hg ?_
  refine dr_sk rfl rfl rfl hg ?_
  refine dp_sk rfl rfl rfl hg ?_
  refine dr_sk rfl rfl rfl hg ?_
  iterate 2 refine dp_sk rfl rfl rfl hg ?_
  refine dV rfl (vQ (bE rfl hg) rfl) ?_
  exact hcut _ (uH (by first | rfl | (rw [hg]; rfl) | simp_all) (uS rfl (uS rfl (uS rfl (uS rfl (uS rfl (uS rfl (uS rfl (uS rfl (uS rfl (uS rfl (uR))))))))))))
 ·skip
  have hj0 : 0 ≤ p.job := by have := of_decide_eq_false hg; omega
  have hk := hok hj0
  obtain ⟨⟨_, hj1⟩, hpc, hmv⟩ := hk
  rw [hpe] at hj1
  obtain ⟨bj, oj, cj, uj, hjv, hrdj, vj, hvj, hrj⟩ := hj.at1 (List.getElem?_eq_getElem hj1)
  simp only [List.cons.injEq, and_true] at hvj
  subst hvj
  obtain ⟨aj, cj2, rfl, _⟩ := id hrj
  have hjl : y.jlen p.job = (y.jobs[p.job.toNat]).length := by unfold Yard.jlen; rw [List.getD_eq_getElem?_getD, List.getElem?_eq_getElem hj1]; rfl
  rw [← hjl] at hrdj
  refine dp_vg rfl rfl (bG rfl hg) (vF rfl fa77_3 rfl) (dr_vg rfl rfl (bG rfl hg) (vY rfl ld3) ?_)
  refine dp_vg rfl rfl (bG rfl hg) (vF rfl fa27_0 rfl) (dr_vg rfl rfl (bG rfl hg) (vY rfl ld22) ?_)
  refine dp_vg rfl rfl (bG rfl hg) (vF rfl fa77_2 rfl) (dr_vg rfl rfl (bG rfl hg) (vY rfl ld3) ?_)
  refine dp_vg rfl rfl (bG rfl hg) (vI (k := p.job.toNat) (congrArg some hjv) rfl sl22 (by omega) hj1 rfl) (dr_vg rfl rfl (bG rfl hg) (vY rfl ld108) ?_)
  refine dp_vg rfl rfl (bG rfl hg) (v_len rfl Tryz.underlying108) (dp_vg rfl rfl (bG rfl hg) (v_eql rfl rfl) (dV rfl (vP (bE rfl hg) rfl) ?_))
  exact hcut _ (uH (by first | rfl | (rw [hg]; rfl) | simp_all) (uS rfl (uS rfl (uS rfl (uS rfl (uS rfl (uS rfl (uS rfl (uS rfl (uS rfl (uS rfl (uR))))))))))))
 refine dr_nil (nK [1, 2, 4, 5, 6, 29] rfl (nT (cC rfl (fun hc => ?_) (fun hc => ?_))))
 ·skip
  rw [if_pos hc] at hpe0
  rw [hpe0]
  refine cS (cR (sV (vA rfl) (sV (vA rfl) (sN (nK [4, 5] rfl (nT (cT (xR ?_))))))))
  exact xt_rt rfl ⟨rfl, rfl⟩
 ·skip
  rw [if_neg (by simpa using hc)] at hpe0
  have hc2 : 0 ≤ p.job ∧ p.pc ≠ (y.jlen p.job : Int) := by
   simp only [Bool.or_eq_false_iff, decide_eq_false_iff_not, beq_eq_false_iff_ne] at hc
   exact ⟨by omega, hc.2⟩
  obtain ⟨⟨_, hj1⟩, ⟨hpc0, hpc1⟩, hmv⟩ := hok hc2.1
  rw [hpe] at hj1 hpc0 hpc1 hmv
  obtain ⟨bj, oj, cj, uj, hjv, hrdj, vj, hvj, hrj⟩ := hj.at1 (List.getElem?_eq_getElem hj1)
  simp only [List.cons.injEq, and_true] at hvj
  subst hvj
  have hjl : y.jlen p.job = (y.jobs[p.job.toNat]).length := by unfold Yard.jlen; rw [List.getD_eq_getElem?_getD, List.getElem?_eq_getElem hj1]; rfl
  obtain ⟨q, hq⟩ := Int.eq_ofNat_of_zero_le hpc0
  have hq1 : q < (y.jobs[p.job.toNat]).length := by omega
  have hmve : y.mv p.job p.pc = (y.jobs[p.job.toNat])[q] := by
   unfold Yard.mv
   rw [List.getD_eq_getElem?_getD (l := y.jobs), List.getElem?_eq_getElem hj1, Option.getD_some, hq, Int.toNat_natCast, List.getD_eq_getElem?_getD, List.getElem?_eq_getElem hq1]; rfl
  obtain ⟨bm, om, cm, um, hvm, hum, hrdm, rfl⟩ := hrj.at (List.getElem?_eq_getElem hq1)
  rw [hmve] at hpe0
  subst hvm
  generalize (y.jobs[p.job.toNat])[q] = m at *
  rw [hpe0]
  refine cK (xT (cS (cd_drawh (ork [(0, 2), (1, 1), (2, 2), (3, 1), (4, 2), (5, 1), (6, 2), (7, 1), (8, 2), (9, 1), (10, 0), (11, 0)] .nil) (fun i => !(Nat.beq i 11)) mixed (by kernel_rfl) ?_)))
  refine dV rfl (vF rfl fa27_0 rfl) (dr_v rfl (vY rfl ld22) ?_)
  refine dV rfl (vF rfl fa77_2 rfl) (dr_v rfl (vY rfl ld3) ?_)
  refine dV rfl (vI (k := p.job.toNat) (congrArg some hjv) rfl sl22 (by omega) hj1 rfl) (dr_v rfl (vY rfl ld108) ?_)
  refine dV rfl (vF rfl fa77_3 rfl) (dr_v rfl (vY rfl ld3) ?_)
  refine dV rfl (vI (k := q) rfl rfl sl108 hq hq1 rfl) (dr_v rfl (v_ldn rfl ld110 hum hrdm) ?_)
  refine dr_eff rfl (st_alc al110 fun b7 => dr_nx ?_)
  refine dr_eff rfl (st_stoW rfl rfl sz110 rfl rfl (dr_nx ?_))
  refine dr_nil (nK [1, 2, 4, 5, 7] rfl (nT (cS (cR (sV (v_build (cells := [.pointer (some ⟨b2, 0, none⟩)]) rfl (fun _ => by kernel_rfl)) ?_)))))
  refine sV (vM rfl) (sV (vF rfl fa110_1 rfl) (sV (vY rfl ld3) ?_))
  refine st_clr rfl rfl en125 rfl (hold_ct (b := b2) (jv := jv) hi hrd hH hfp.2.2.1 m.2.1) ?_
  have hV : holdV (p.hold m.2.1) = .tuple #[.agg (holdC ((p.hold m.2.1).getD (0, (0, 0), false))).toArray, .bool (p.hold m.2.1).isSome] := by cases p.hold m.2.1 <;> rfl
  rw [hV]
  generalize (p.hold m.2.1).isSome = has
  generalize (p.hold m.2.1).getD (0, (0, 0), false) = hh
  refine sV (vM rfl) (sV (v_extract rfl rfl) (sV (v_extract rfl rfl) (st_alc al161 fun b8 => ?_)))
  refine st_stoW rfl rfl sz161 rfl rfl ?_
  refine sV (vA rfl) (sN (nK [1, 4, 5, 7, 9] rfl (nT (cS (cR (sV (vF rfl fa110_1 rfl) (sV (vY rfl ld3) ?_)))))))
  refine sV (vF rfl fa110_0 rfl) (sV (vY rfl ld3) ?_)
  refine sV (v_eql rfl rfl) (sV (vM rfl) (st_cut (k := 20) (d := 67) (v := .bool (m.1 == 5 || ((m.1 == 1 && (m.2.1 != (i : Int))) && !has))) (fun hcut => bool_want (b := (m.1 == 5)) false (fun hg => ?_) (fun hg => ?_)) ?_))
  ·refine st_sk rfl rfl hg ?_
   iterate 3 refine st_sk rfl rfl hg ?_
   refine st_sku rfl rfl ?_
   refine st_sku rfl rfl ?_
   refine st_sku rfl rfl ?_
   refine st_sku rfl rfl ?_
   iterate 2 refine st_sk rfl rfl hg ?_
   refine st_sku rfl rfl ?_
   refine st_sku rfl rfl ?_
   refine st_sk rfl rfl hg ?_
   refine sV (vQ (bE rfl hg) rfl) ?_
   exact hcut _ (uH (by first | rfl | (rw [hg]; rfl) | simp_all) (uS rfl (uS rfl (uS rfl (uS rfl (uS rfl (uS rfl (uS rfl (uS rfl (uS rfl (uS rfl (uS rfl (uS rfl (uS rfl (uR)))))))))))))))
  ·skip
   refine sG rfl (bG rfl hg) (vF rfl fa110_0 rfl) (sG rfl (bG rfl hg) (vY rfl ld3) ?_)
   refine sG rfl (bG rfl hg) (v_eql rfl rfl) (sG rfl (bG rfl hg) (vM rfl) (st_cut (k := 15) (d := 62) (v := .bool (m.1 == 1 && (m.2.1 != (i : Int)))) (fun hcut => bool_want (b := (m.1 == 1)) true (fun hg1 => ?_) (fun hg1 => ?_)) ?_))
   ·refine st_sk rfl rfl hg1 ?_
    iterate 3 refine st_sk rfl rfl hg1 ?_
    refine sG rfl (bG rfl hg) (vP (bE rfl hg1) rfl) ?_
    exact hcut _ (uH (by first | rfl | (rw [hg1]; rfl) | simp_all) (uS rfl (uS rfl (uS rfl (uS rfl (uR))))))
   ·skip
    refine sG rfl (bG rfl hg1) (vF rfl fa110_1 rfl) (sG rfl (bG rfl hg1) (vY rfl ld3) ?_)
    refine sG rfl (bG rfl hg1) (vM rfl) (sG rfl (bG rfl hg1) (v_neq rfl rfl) (sG rfl (bG rfl hg) (vQ (bE rfl hg1) rfl) ?_))
    exact hcut _ (uH (by first | rfl | (rw [hg1]; rfl) | simp_all) (uS rfl (uS rfl (uS rfl (uS rfl (uR))))))
   refine sG rfl (bG rfl hg) (vM rfl) (st_cut (k := 19) (d := 66) (v := .bool ((m.1 == 1 && (m.2.1 != (i : Int))) && !has)) (fun hcut => bool_want (b := (m.1 == 1 && (m.2.1 != (i : Int)))) true (fun hg1 => ?_) (fun hg1 => ?_)) ?_)
   ·refine st_sk rfl rfl hg1 ?_
    refine st_sk rfl rfl hg1 ?_
    refine sG rfl (bG rfl hg) (vP (bE rfl hg1) rfl) ?_
    exact hcut _ (uH (by first | rfl | (rw [hg1]; rfl) | simp_all) (uS rfl (uS rfl (uR))))
   ·skip
    refine sG rfl (bG rfl hg1) (vM rfl) (sG rfl (bG rfl hg1) (v_not rfl) (sG rfl (bG rfl hg) (vQ (bE rfl hg1) rfl) ?_))
    exact hcut _ (uH (by first | rfl | (rw [hg1]; rfl) | simp_all) (by repeat (first | exact uR | refine uS rfl ?_)))
   refine sV (vP (bE rfl hg) rfl) ?_
   exact hcut _ (uH (by first | rfl | (rw [hg]; rfl) | simp_all) (by repeat (first | exact uR | refine uS rfl ?_)))
  refine sV (vA rfl) (sV (vA rfl) (sN (nK [4, 5] rfl (nT (cT ?_)))))
  exact xt_rt rfl ⟨rfl, rfl⟩
end
end Go.Wt
namespace Go.Wt
open Go Go.Ck Go.Proofs Go.Proofs.YtboepbencndobaaGreat Fx
attribute [local irreducible] St Cd Xt Nx DrL LsW
def mayE (orders : List (List Key)) (y : Yard) (i : Nat) : Bool :=
 !(putsE y i).2 || (decide (((y.pr (putsE y i).1.toNat).puts.length : Int) < ((orders.getD (putsE y i).1.toNat []).length : Int)) && ((orders.getD (putsE y i).1.toNat []).getD (y.pr (putsE y i).1.toNat).puts.length (0, 0) == ((i : Int), (y.pr i).made)))
theorem putsE_spot {y : Yard} {n i : Nat} (hn : y.procs.length = n) (hn0 : 0 < n) (hok : 0 ≤ (y.pr i).job → JobOk y n i) : 0 ≤ (putsE y i).1 ∧ (putsE y i).1 < n := by
 unfold putsE
 simp only
 split
 ·exact ⟨Int.le_refl _, by simp; omega⟩
 ·rename_i h
  simp only [Bool.or_eq_true, decide_eq_true_eq, beq_iff_eq, not_or] at h
  obtain ⟨⟨_, hj1⟩, ⟨hpc0, hpc1⟩, hmv⟩ := hok (by omega)
  have hm : y.mv (y.pr i).job (y.pr i).pc ∈ y.jobs.getD (y.pr i).job.toNat [] := by
   unfold Yard.mv
   have h1 : (y.pr i).pc.toNat < (y.jobs.getD (y.pr i).job.toNat []).length := by
    unfold Yard.jlen at hpc1 h; omega
   rw [List.getD_eq_getElem?_getD (l := y.jobs.getD (y.pr i).job.toNat []), List.getElem?_eq_getElem h1]
   exact List.getElem_mem h1
  exact (moved_kind (hmv _ hm) (by omega)).2
theorem reads_snoc {P : Program} {k : FuncId} {args : Array Value} {L : SH} {T : Res} {v : Value} (h : Reads P k args (L ++ [T]) v) : Reads P k args [T, Res.star L] v := fun hr w hh => by
 have h1 : Holds w (Res.star L :: T :: hr) := hh.perm (.swap _ _ _)
 have h2 : Holds w ((L ++ [T]) ++ hr) := by rw [List.append_assoc]; exact holds_star1.1 h1
 refine (h hr w h2).mono fun _ w' ⟨u, h', he, ⟨hu, hh'⟩, hH, hS⟩ => ⟨u, _, he, ⟨hu, rfl⟩, ?_, hS⟩
 subst hh'
 have h3 : Holds w' (L ++ (T :: hr)) := by have := hH; rw [List.append_assoc] at this; exact this
 exact (holds_star1.2 h3).perm (.swap _ _ _)
section
variable {S : Res}
set_option maxHeartbeats 1000000 in
set_option maxRecDepth 100000 in
theorem may_ct {T : Res} {jv pv ov : Value} {y : Yard} {n i bo : Nat} {orders : List (List Key)} (hy : yardR T [jv, pv] y) (hf : Fit y) (hn : y.procs.length = n) (hi : i < n) (hok : 0 ≤ (y.pr i).job → JobOk y n i)
  (ho : Row S 1 (nR S 2 kC) ov orders) (hol : orders.length = n) (hol2 : ∀ l ∈ orders, l.length ≤ 1000000) :
  Reads Tryz.prog 87 (#[] ++ [.agg #[jv, pv], .int .i64 i].toArray ++ #[.pointer (some ⟨bo, 0, none⟩)]) [T, Res.star [pt bo (cl [ov] 92), S]] (.bool (mayE orders y i)) := by
 refine reads_snoc (L := [pt bo (cl [ov] 92), S]) ?_
 have hsp := putsE_spot hn (by omega) hok
 have hpc := puts_ct hy hf hn hi hok
 have hme : mayE orders y i = (!(putsE y i).2 || (decide (((y.pr (putsE y i).1.toNat).puts.length : Int) < ((orders.getD (putsE y i).1.toNat []).length : Int)) && ((orders.getD (putsE y i).1.toNat []).getD (y.pr (putsE y i).1.toNat).puts.length (0, 0) == ((i : Int), (y.pr i).made)))) := rfl
 rw [hme]
 generalize putsE y i = pe at hsp hpc ⊢
 obtain ⟨pt1, is⟩ := pe
 simp only at hsp hpc ⊢
 obtain ⟨to, rfl⟩ := Int.eq_ofNat_of_zero_le hsp.1
 have hto : to < n := by omega
 rw [Int.toNat_natCast]
 obtain ⟨_, _, he0, hj, hp⟩ := id hy
 simp only [List.cons.injEq, and_true] at he0
 obtain ⟨rfl, rfl⟩ := he0
 subst hn
 obtain ⟨b, off, cp2, us, rfl, hus, hrd, lv, pv', hv, dv, rfl, hL, hP, hH, hD⟩ := hp.at (List.getElem?_eq_getElem hto)
 obtain ⟨b', off', cp2', us', hv', hus', hrd', lv', pv'', hv'', dv', rfl, _, _, _, _⟩ := hp.at (List.getElem?_eq_getElem hi)
 simp only [Value.slice.injEq, Option.some.injEq, Addr.mk.injEq, and_true, true_and] at hv'
 obtain ⟨⟨rfl, rfl⟩, rfl⟩ := hv'
 obtain ⟨ap', cp', rfl, _⟩ := id hP
 have hot : to < orders.length := by omega
 obtain ⟨ob, oo, oc, ou, rfl, hrdo, ov2, hou, hO⟩ := ho.at1 (List.getElem?_eq_getElem hot)
 simp only [List.cons.injEq, and_true] at hou
 subst hou
 obtain ⟨oa, oc2, rfl, _⟩ := id hO
 have hog : orders.getD to [] = orders[to] := by rw [List.getD_eq_getElem?_getD, List.getElem?_eq_getElem hot]; rfl
 rw [hog]
 rw [← pr_get hto] at hrd hP
 rw [← pr_get hi] at hrd'
 have hpl : (y.pr to).puts.length ≤ 1000000 := by rw [pr_get hto]; exact (hf.2.2 _ (List.getElem_mem hto)).2.1
 have hol3 := hol2 _ (List.getElem_mem hot)
 generalize (y.pr to) = q at *
 generalize hie : (y.pr i) = p at *
 generalize orders[to] = ol at *
 refine ct_of (n := 51) Tryz.func87 rfl rfl (len rfl) fun hr w0 => ?_
 refine cS (cR (st_bx rfl rfl fun b3 => ?_))
 refine sV (vA rfl) (sN (nK [1, 2, 3, 5] rfl (nT (cS (cR (sV (v_ldn rfl ld27 rfl rds_pt) ?_))))))
 refine sV (vM rfl) (st_clr rfl rfl en88 rfl (hpc) ?_)
 refine sV (vM rfl) (sV (v_extract rfl rfl) (sV (v_extract rfl rfl) (sV (vA rfl) (sV (vA rfl) (sN (nK [1, 2, 3, 5, 6, 7] rfl (nT (cS (cR (sV (vF rfl fa27_1 rfl) (sV (vY rfl ld25) ?_)))))))))))
 refine sV (vM rfl) (sV (vI (k := to) rfl rfl sl25 rfl hto rfl) (sV (vF rfl fa77_1 rfl) (sV (vY rfl ld74) ?_)))
 refine sV (v_len rfl Tryz.underlying74) (sV (vA rfl) (sN (nK [1, 2, 3, 5, 6, 7, 8] rfl (nT (cS (cd_drawh (ork [(0, 2), (1, 2), (2, 2), (3, 2), (4, 1), (5, 2), (6, 2), (7, 1), (8, 2), (9, 2), (10, 2), (11, 1), (12, 2), (13, 2), (14, 1), (15, 2), (16, 2), (17, 1), (18, 2), (19, 2), (20, 1), (21, 2), (22, 2), (23, 2), (24, 1), (25, 2), (26, 1), (27, 2), (28, 2), (29, 2)] .nil) (fun _ => true) mixed (by kernel_rfl) ?_))))))
 refine dV rfl (vM rfl) (dV rfl (v_not rfl) (dV rfl (vM rfl) (dr_cut (k := 26) (d := 50) (v := .bool (!is || (decide ((q.puts.length : Int) < (ol.length : Int)) && (ol.getD q.puts.length (0, 0) == ((i : Int), p.made))))) (fun hcut => bool_want (b := (!is)) false (fun hg => ?_) (fun hg => ?_)) ?_)))
 ·refine dp_sk rfl rfl rfl hg ?_
  refine dr_sk rfl rfl rfl hg ?_
  iterate 2 refine dp_sk rfl rfl rfl hg ?_
  refine dr_sk rfl rfl rfl hg ?_
  iterate 3 refine dp_sk rfl rfl rfl hg ?_
  refine dr_sku rfl rfl rfl ?_
  refine dp_sku rfl rfl rfl ?_
  refine dp_sku rfl rfl rfl ?_
  refine dr_sku rfl rfl rfl ?_
  refine dp_sku rfl rfl rfl ?_
  refine dp_sku rfl rfl rfl ?_
  refine dr_sku rfl rfl rfl ?_
  refine dp_sku rfl rfl rfl ?_
  refine dp_sku rfl rfl rfl ?_
  refine dr_sku rfl rfl rfl ?_
  refine dp_sku rfl rfl rfl ?_
  refine dp_sku rfl rfl rfl ?_
  refine dp_sku rfl rfl rfl ?_
  refine dr_sku rfl rfl rfl ?_
  refine dp_sku rfl rfl rfl ?_
  refine dr_sku rfl rfl rfl ?_
  refine dp_sk rfl rfl rfl hg ?_
  refine dV rfl (vQ (bE rfl hg) rfl) ?_
  exact hcut _ (uH (by first | rfl | (rw [hg]; rfl) | simp_all) (uS rfl (uS rfl (uS rfl (uS rfl (uS rfl (uS rfl (uS rfl (uS rfl (uS rfl (uS rfl (uS rfl (uS rfl (uS rfl (uS rfl (uS rfl (uS rfl (uS rfl (uS rfl (uS rfl (uS rfl (uS rfl (uS rfl (uS rfl (uS rfl (uS rfl (uR)))))))))))))))))))))))))))
 ·skip
  refine dp_vg rfl rfl (bG rfl hg) (vM rfl) (dr_vg rfl rfl (bG rfl hg) (vY rfl ld92) ?_)
  refine dp_vg rfl rfl (bG rfl hg) (vM rfl) (dp_vg rfl rfl (bG rfl hg) (vI (k := to) rfl rfl sl92 rfl hot rfl) (dr_vg rfl rfl (bG rfl hg) (vY rfl ld74) ?_))
  refine dp_vg rfl rfl (bG rfl hg) (v_len rfl Tryz.underlying74) (dp_vg rfl rfl (bG rfl hg) (v_lss rfl rfl) (dp_vg rfl rfl (bG rfl hg) (vM rfl) (dr_cut (k := 17) (d := 49) (v := .bool (decide ((q.puts.length : Int) < (ol.length : Int)) && (ol.getD q.puts.length (0, 0) == ((i : Int), p.made)))) (fun hcut => bool_want (b := decide ((q.puts.length : Int) < (ol.length : Int))) true (fun hg1 => ?_) (fun hg1 => ?_)) ?_)))
  ·refine dr_sk rfl rfl rfl hg1 ?_
   iterate 2 refine dp_sk rfl rfl rfl hg1 ?_
   refine dr_sk rfl rfl rfl hg1 ?_
   iterate 2 refine dp_sk rfl rfl rfl hg1 ?_
   refine dr_sk rfl rfl rfl hg1 ?_
   iterate 2 refine dp_sk rfl rfl rfl hg1 ?_
   refine dr_sk rfl rfl rfl hg1 ?_
   iterate 3 refine dp_sk rfl rfl rfl hg1 ?_
   refine dr_sk rfl rfl rfl hg1 ?_
   refine dp_sk rfl rfl rfl hg1 ?_
   refine dr_sk rfl rfl rfl hg1 ?_
   refine dp_vg rfl rfl (bG rfl hg) (vP (bE rfl hg1) rfl) ?_
   exact hcut _ (uH (by first | rfl | (rw [hg1]; rfl) | simp_all) (uS rfl (uS rfl (uS rfl (uS rfl (uS rfl (uS rfl (uS rfl (uS rfl (uS rfl (uS rfl (uS rfl (uS rfl (uS rfl (uS rfl (uS rfl (uS rfl (uR))))))))))))))))))
  ·skip
   have hlt : q.puts.length < ol.length := by have := of_decide_eq_true hg1; omega
   obtain ⟨kb, ko, kc, ku, hkv, hku, hkrd, rfl⟩ := hO.at (List.getElem?_eq_getElem hlt)
   simp only [Value.slice.injEq] at hkv
   obtain ⟨rfl, _, rfl⟩ := hkv
   have hgd : ol.getD q.puts.length (0, 0) = ol[q.puts.length] := by rw [List.getD_eq_getElem?_getD, List.getElem?_eq_getElem hlt]; rfl
   refine dr_vg rfl rfl (bG rfl hg1) (vY rfl ld92) ?_
   refine dp_vg rfl rfl (bG rfl hg1) (vM rfl) (dp_vg rfl rfl (bG rfl hg1) (vI (k := to) rfl rfl sl92 rfl hot rfl) (dr_vg rfl rfl (bG rfl hg1) (vY rfl ld74) ?_))
   refine dp_vg rfl rfl (bG rfl hg1) (vM rfl) (dp_vg rfl rfl (bG rfl hg1) (vI (k := q.puts.length) rfl rfl sl74 rfl hlt rfl) (dr_vg rfl rfl (bG rfl hg1) (v_ldn rfl ld79 hku hkrd) ?_))
   refine dp_vg rfl rfl (bG rfl hg1) (vM rfl) (dp_vg rfl rfl (bG rfl hg1) (vF rfl fa27_1 rfl) (dr_vg rfl rfl (bG rfl hg1) (vY rfl ld25) ?_))
   refine dp_vg rfl rfl (bG rfl hg1) (vM rfl) (dp_vg rfl rfl (bG rfl hg1) (vI (k := i) rfl rfl sl25 rfl hi rfl) (dp_vg rfl rfl (bG rfl hg1) (vF rfl fa77_7 rfl) (dr_vg rfl rfl (bG rfl hg1) (vY rfl ld3) ?_)))
   refine dp_vg rfl rfl (bG rfl hg1) (v_build (cells := kC ((i : Int), p.made)) rfl (fun _ => by kernel_rfl)) ?_
   refine dr_vg rfl rfl (bG rfl hg1) (v_is (v' := .bool (ol.getD q.puts.length (0, 0) == ((i : Int), p.made))) (by rw [hgd]) (v_eql_T eq79 rfl rfl)) ?_
   refine dp_vg rfl rfl (bG rfl hg) (vQ (bE rfl hg1) rfl) ?_
   exact hcut _ (uH (by first | rfl | (rw [hg1]; rfl) | simp_all) (uS rfl (uS rfl (uS rfl (uS rfl (uS rfl (uS rfl (uS rfl (uS rfl (uS rfl (uS rfl (uS rfl (uS rfl (uS rfl (uS rfl (uS rfl (uS rfl (uR))))))))))))))))))
  refine dV rfl (vP (bE rfl hg) rfl) ?_
  exact hcut _ (uH (by first | rfl | (rw [hg]; rfl) | simp_all) (by repeat (first | exact uR | refine uS rfl ?_)))
 refine dV rfl (vA rfl) (dr_nil (nK [5] rfl (nT (cT ?_))))
 exact xt_rt rfl ⟨rfl, rfl⟩
end
end Go.Wt
namespace Go.Wt
open Go Go.Ck Go.Proofs Go.Proofs.YtboepbencndobaaGreat Fx
attribute [local irreducible] St Cd Xt Nx DrL LsW
def tooMany (orders : List (List Key)) : Bool := decide (12 < (orders.length : Int)) || !orders.all fun l => decide ((l.length : Int) ≤ 400)
def replayE (jobs : List (List Move)) (orders : List (List Key)) (steps : Int) : YE :=
 if tooMany orders = true then (Yard.nil, 3)
 else if firstE [check jobs orders.length, cntE steps] ≠ 0 then (Yard.nil, firstE [check jobs orders.length, cntE steps])
 else if (Yard.gos (mayE orders) steps.toNat (Yard.new jobs orders.length)).2 ≠ 0 then (Yard.nil, (Yard.gos (mayE orders) steps.toNat (Yard.new jobs orders.length)).2)
 else if (Yard.gos (mayE orders) steps.toNat (Yard.new jobs orders.length)).1.ready ≠ [] then (Yard.nil, 11)
 else if ((List.range orders.length).all fun i => decide ((orders.getD i []).length ≤ ((Yard.gos (mayE orders) steps.toNat (Yard.new jobs orders.length)).1.pr i).puts.length)) = false then (Yard.nil, 11)
 else ((Yard.gos (mayE orders) steps.toNat (Yard.new jobs orders.length)).1, 0)
theorem gos_live (may : Yard → Nat → Bool) : ∀ (n : Nat) {y : Yard} {M : Nat}, Live y M → (Yard.gos may n y).2 = 0 → Live (Yard.gos may n y).1 (M + n) ∧ (Yard.gos may n y).1.procs.length = y.procs.length ∧ (Yard.gos may n y).1.jobs = y.jobs
 | n, y, M, H, h0 => by
  rw [gos_eq] at h0 ⊢
  cases hf : y.ready.find? (may y) with
  | none => exact ⟨⟨H.hist, H.nf, H.hm.le (by omega)⟩, rfl, rfl⟩
  | some i =>
   rw [hf] at h0
   have hm := List.mem_of_find?_eq_some hf
   have h2 : i ∈ (List.range y.procs.length).filter fun i => (y.pr i).goes := hm
   rw [List.mem_filter] at h2
   have hi := List.mem_range.1 h2.1
   cases n with
   | zero => cases h0
   | succ n =>
    simp only at h0 ⊢
    by_cases hs : (y.stepE i).2 = 0
    ·rw [if_pos hs] at h0 ⊢
     obtain ⟨a, b, c⟩ := gos_live may n (H.stepE hi h2.2 hs) h0
     exact ⟨⟨a.hist, a.nf, a.hm.le (by omega)⟩, b.trans (stepE_len H hi h2.2 hs), c.trans (stepE_jobs hs)⟩
    ·rw [if_neg hs] at h0; exact absurd h0 hs
section
variable {S : Res}
set_option maxRecDepth 100000 in
theorem short_ct {us : Value} {l : List Key} (h : nR S 2 kC [us] l) : Reads Tryz.prog 84 (#[] ++ [us].toArray ++ #[]) [S] (.bool (decide ((l.length : Int) ≤ 400))) := by
 obtain ⟨v, hv, hr⟩ := h
 simp only [List.cons.injEq, and_true] at hv
 subst hv
 obtain ⟨a, c, rfl, _⟩ := id hr
 refine ct_of (n := 6) Tryz.func84 rfl rfl (len rfl) fun hr w0 => ?_
 refine cS (cR (sV (vA rfl) (sN (nT (cS (cR (sV (vM rfl) (sV (v_len rfl Tryz.underlying74) (sV (v_leq rfl rfl) (sV (vA rfl) (sN (nK [2] rfl (nT (cT ?_))))))))))))))
 exact xt_rt rfl ⟨rfl, rfl⟩
end
end Go.Wt
namespace Go.Wt
open Go Go.Ck Go.Proofs Go.Proofs.YtboepbencndobaaGreat Fx
attribute [local irreducible] St Cd Xt Nx DrL LsW
section
variable {S : Res} {v v' : Value}
set_option maxRecDepth 100000 in
theorem same28_ct {l l' : List Int} (hv : Row S 1 (eqC iC) v l) (hv' : Row S 1 (eqC iC) v' l') (hl : l.length ≤ 1000000) : Reads Tryz.prog 28 #[v, v'] [S] (.bool (l == l')) := by
 obtain ⟨a, cap, hv1, _⟩ := id hv
 obtain ⟨a', cap', hv1', _⟩ := id hv'
 rw [← eqBy_eq]
 refine ct_of (n := 26) Tryz.func28 rfl rfl (len rfl) fun hr w0 => ?_
 refine cS (cR (sV (vA rfl) (sN (nT (cS (cS (cR (sV (vM rfl) (sV (v_len (congrArg some hv1) Tryz.underlying43) (sV (vM rfl) (sV (v_len (congrArg some hv1') Tryz.underlying43) (sV (v_neq rfl rfl) (sN (nK [0, 1, 4, 10] rfl (nT (cC rfl (fun h0 => ?_) (fun h0 => ?_)))))))))))))))))
 ·skip
  refine cS (cR (sV (vA rfl) (sN (nK [0, 1, 4] rfl (nT (cT (xR ?_)))))))
  rw [eqBy_len (fun e => by simp [e] at h0)]
  exact xt_rt rfl ⟨rfl, rfl⟩
 ·skip
  refine cK (xT (cS (cS (cR (sV (vA rfl) (sN (nK [0, 1, 4, 5] rfl (nT (cB ?_)))))))))
  have hlen : l.length = l'.length := Int.ofNat.inj (show (l.length : Int) = (l'.length : Int) by simpa using h0)
  refine cd_lp (σ := Nat) (fun i => [(0, v), (1, v'), (5, .int .i64 (i : Nat))]) (fun _ => S :: hr) (fun i => i ≤ l.length ∧ ∀ (j : Nat) a b, j < i → l[j]? = some a → l'[j]? = some b → (a == b) = true) (fun i => l.length - i) 0 ⟨Nat.zero_le _, fun j a b hj => by omega⟩ ?_
  rintro i ⟨hi, hne⟩
  refine cS (cS (cR (sV (vM rfl) (sV (vM rfl) (sV (v_len (congrArg some hv1) Tryz.underlying43) (sV (v_lss rfl rfl) (sN (nK [0, 1, 5, 14] rfl (nT (cC rfl (fun hd => ?_) (fun hd => ?_)))))))))))
  ·skip
   have hlt : i < l.length := by simpa using hd
   obtain ⟨b, o, cp2, us, hv2, hus, hrd, rfl⟩ := hv.at (List.getElem?_eq_getElem hlt)
   obtain ⟨b', o', cp2', us', hv2', hus', hrd', rfl⟩ := hv'.at (List.getElem?_eq_getElem (show i < l'.length by omega))
   have hr0 : Rd S ⟨b, o + i * 1, none⟩ (.int .i64 l[i]) := rds_at (k := 0) hrd rfl
   have hr1 : Rd S ⟨b', o' + i * 1, none⟩ (.int .i64 (l'[i]'(by omega))) := rds_at (k := 0) hrd' rfl
   refine cK (xT (cS (cB (cS (cd_drawh (ork [(0, 2), (1, 2), (2, 2), (3, 1), (4, 2), (5, 2), (6, 2), (7, 1), (8, 2)] .nil) (fun _ => true) mixed (by kernel_rfl) ?_)))))
   refine dV rfl (vM rfl) (dV rfl (vM rfl) (dV rfl (vI (k := i) (congrArg some hv2) rfl sl43 rfl hlt rfl) (dr_v rfl (vY rfl ld3) ?_)))
   refine dV rfl (vM rfl) (dV rfl (vM rfl) ?_)
   skip
   refine dV rfl (vI (k := i) (congrArg some hv2') rfl sl43 rfl (by omega) rfl) (dr_v rfl (vY rfl ld3) ?_)
   refine dV rfl (v_neq rfl rfl) (dr_nil (nK [0, 1, 5, 25] rfl (nT ?_)))
   skip
   skip
   refine cC rfl (fun he => ?_) (fun he => ?_)
   ·skip
    refine cS (cR (sV (vA rfl) (sN (nK [0, 1, 4, 5] rfl (nT (cT (xW (xR (xR (xW (xR ?_)))))))))))
    rw [eqBy_false (List.getElem?_eq_getElem hlt) (List.getElem?_eq_getElem (show i < l'.length by omega)) (by simpa using he)]
    exact xt_rt rfl ⟨rfl, rfl⟩
   ·skip
    refine cK (xB (xT (cR (sV (vM rfl) (sV (v_add rfl rfl (by unfold I64 at *; omega)) (sV (vA rfl) (sN (nK [0, 1, 5] rfl (nx_xt (xt_ag (i + 1) ⟨hlt, fun j x y hj hx hy => ?_⟩ (by show _ - _ < _ - _; omega)))))))))))
    by_cases hji : j = i
    ·subst hji; rw [List.getElem?_eq_getElem hlt] at hx; rw [List.getElem?_eq_getElem (show j < l'.length by omega)] at hy; cases hx; cases hy; simpa using he
    ·exact hne j x y (by omega) hx hy
  ·skip
   refine cd_exit (xE (xE (xY (xT (cS (cR (sV (vA rfl) (sN (nK [4] rfl (nT (cT ?_)))))))))))
   have hil : i = l.length := by
    have : ¬ i < l.length := by simpa using hd
    omega
   rw [eqBy_true hlen fun j x y hx hy => hne j x y (by have := (List.getElem?_eq_some_iff.1 hx).1; omega) hx hy]
   exact xt_rt rfl ⟨rfl, rfl⟩
set_option maxRecDepth 100000 in
theorem same42_ct {l l' : List Key} (hv : Row S 2 (eqC kC) v l) (hv' : Row S 2 (eqC kC) v' l') (hl : l.length ≤ 1000000) : Reads Tryz.prog 42 #[v, v'] [S] (.bool (l == l')) := by
 obtain ⟨a, cap, hv1, _⟩ := id hv
 obtain ⟨a', cap', hv1', _⟩ := id hv'
 rw [← eqBy_eq]
 refine ct_of (n := 26) Tryz.func42 rfl rfl (len rfl) fun hr w0 => ?_
 refine cS (cR (sV (vA rfl) (sN (nT (cS (cS (cR (sV (vM rfl) (sV (v_len (congrArg some hv1) Tryz.underlying74) (sV (vM rfl) (sV (v_len (congrArg some hv1') Tryz.underlying74) (sV (v_neq rfl rfl) (sN (nK [0, 1, 4, 10] rfl (nT (cC rfl (fun h0 => ?_) (fun h0 => ?_)))))))))))))))))
 ·skip
  refine cS (cR (sV (vA rfl) (sN (nK [0, 1, 4] rfl (nT (cT (xR ?_)))))))
  rw [eqBy_len (fun e => by simp [e] at h0)]
  exact xt_rt rfl ⟨rfl, rfl⟩
 ·skip
  refine cK (xT (cS (cS (cR (sV (vA rfl) (sN (nK [0, 1, 4, 5] rfl (nT (cB ?_)))))))))
  have hlen : l.length = l'.length := Int.ofNat.inj (show (l.length : Int) = (l'.length : Int) by simpa using h0)
  refine cd_lp (σ := Nat) (fun i => [(0, v), (1, v'), (5, .int .i64 (i : Nat))]) (fun _ => S :: hr) (fun i => i ≤ l.length ∧ ∀ (j : Nat) a b, j < i → l[j]? = some a → l'[j]? = some b → (a == b) = true) (fun i => l.length - i) 0 ⟨Nat.zero_le _, fun j a b hj => by omega⟩ ?_
  rintro i ⟨hi, hne⟩
  refine cS (cS (cR (sV (vM rfl) (sV (vM rfl) (sV (v_len (congrArg some hv1) Tryz.underlying74) (sV (v_lss rfl rfl) (sN (nK [0, 1, 5, 14] rfl (nT (cC rfl (fun hd => ?_) (fun hd => ?_)))))))))))
  ·skip
   have hlt : i < l.length := by simpa using hd
   obtain ⟨b, o, cp2, us, hv2, hus, hrd, rfl⟩ := hv.at (List.getElem?_eq_getElem hlt)
   obtain ⟨b', o', cp2', us', hv2', hus', hrd', rfl⟩ := hv'.at (List.getElem?_eq_getElem (show i < l'.length by omega))
   skip
   refine cK (xT (cS (cB (cS (cd_drawh (ork [(0, 2), (1, 2), (2, 2), (3, 1), (4, 2), (5, 2), (6, 2), (7, 1), (8, 1)] .nil) (fun _ => true) mixed (by kernel_rfl) ?_)))))
   refine dV rfl (vM rfl) (dV rfl (vM rfl) (dV rfl (vI (k := i) (congrArg some hv2) rfl sl74 rfl hlt rfl) (dr_v rfl (v_ldn rfl ld79 hus hrd) ?_)))
   refine dV rfl (vM rfl) (dV rfl (vM rfl) (dV rfl (vI (k := i) (congrArg some hv2') rfl sl74 rfl (by omega) rfl) (dr_v rfl (v_ldn rfl ld79 hus' hrd') ?_)))
   refine dr_v rfl (v_neq_T eq79 rfl rfl) (dr_nil (nK [0, 1, 5, 25] rfl (nT (cC rfl (fun he => ?_) (fun he => ?_)))))
   ·skip
    refine cS (cR (sV (vA rfl) (sN (nK [0, 1, 4, 5] rfl (nT (cT (xW (xR (xR (xW (xR ?_)))))))))))
    rw [eqBy_false (List.getElem?_eq_getElem hlt) (List.getElem?_eq_getElem (show i < l'.length by omega)) (by simpa using he)]
    exact xt_rt rfl ⟨rfl, rfl⟩
   ·skip
    refine cK (xB (xT (cR (sV (vM rfl) (sV (v_add rfl rfl (by unfold I64 at *; omega)) (sV (vA rfl) (sN (nK [0, 1, 5] rfl (nx_xt (xt_ag (i + 1) ⟨hlt, fun j x y hj hx hy => ?_⟩ (by show _ - _ < _ - _; omega)))))))))))
    by_cases hji : j = i
    ·subst hji; rw [List.getElem?_eq_getElem hlt] at hx; rw [List.getElem?_eq_getElem (show j < l'.length by omega)] at hy; cases hx; cases hy; simpa using he
    ·exact hne j x y (by omega) hx hy
  ·skip
   refine cd_exit (xE (xE (xY (xT (cS (cR (sV (vA rfl) (sN (nK [4] rfl (nT (cT ?_)))))))))))
   have hil : i = l.length := by
    have : ¬ i < l.length := by simpa using hd
    omega
   rw [eqBy_true hlen fun j x y hx hy => hne j x y (by have := (List.getElem?_eq_some_iff.1 hx).1; omega) hx hy]
   exact xt_rt rfl ⟨rfl, rfl⟩
set_option maxRecDepth 100000 in
theorem same29_ct {l l' : List Did} (hv : Row S 5 (eqC dC) v l) (hv' : Row S 5 (eqC dC) v' l') (hl : l.length ≤ 1000000) : Reads Tryz.prog 29 #[v, v'] [S] (.bool (l == l')) := by
 obtain ⟨a, cap, hv1, _⟩ := id hv
 obtain ⟨a', cap', hv1', _⟩ := id hv'
 rw [← eqBy_eq]
 refine ct_of (n := 26) Tryz.func29 rfl rfl (len rfl) fun hr w0 => ?_
 refine cS (cR (sV (vA rfl) (sN (nT (cS (cS (cR (sV (vM rfl) (sV (v_len (congrArg some hv1) Tryz.underlying62) (sV (vM rfl) (sV (v_len (congrArg some hv1') Tryz.underlying62) (sV (v_neq rfl rfl) (sN (nK [0, 1, 4, 10] rfl (nT (cC rfl (fun h0 => ?_) (fun h0 => ?_)))))))))))))))))
 ·skip
  refine cS (cR (sV (vA rfl) (sN (nK [0, 1, 4] rfl (nT (cT (xR ?_)))))))
  rw [eqBy_len (fun e => by simp [e] at h0)]
  exact xt_rt rfl ⟨rfl, rfl⟩
 ·skip
  refine cK (xT (cS (cS (cR (sV (vA rfl) (sN (nK [0, 1, 4, 5] rfl (nT (cB ?_)))))))))
  have hlen : l.length = l'.length := Int.ofNat.inj (show (l.length : Int) = (l'.length : Int) by simpa using h0)
  refine cd_lp (σ := Nat) (fun i => [(0, v), (1, v'), (5, .int .i64 (i : Nat))]) (fun _ => S :: hr) (fun i => i ≤ l.length ∧ ∀ (j : Nat) a b, j < i → l[j]? = some a → l'[j]? = some b → (a == b) = true) (fun i => l.length - i) 0 ⟨Nat.zero_le _, fun j a b hj => by omega⟩ ?_
  rintro i ⟨hi, hne⟩
  refine cS (cS (cR (sV (vM rfl) (sV (vM rfl) (sV (v_len (congrArg some hv1) Tryz.underlying62) (sV (v_lss rfl rfl) (sN (nK [0, 1, 5, 14] rfl (nT (cC rfl (fun hd => ?_) (fun hd => ?_)))))))))))
  ·skip
   have hlt : i < l.length := by simpa using hd
   obtain ⟨b, o, cp2, us, hv2, hus, hrd, rfl⟩ := hv.at (List.getElem?_eq_getElem hlt)
   obtain ⟨b', o', cp2', us', hv2', hus', hrd', rfl⟩ := hv'.at (List.getElem?_eq_getElem (show i < l'.length by omega))
   skip
   refine cK (xT (cS (cB (cS (cd_drawh (ork [(0, 2), (1, 2), (2, 2), (3, 1), (4, 2), (5, 2), (6, 2), (7, 1), (8, 1)] .nil) (fun _ => true) mixed (by kernel_rfl) ?_)))))
   refine dV rfl (vM rfl) (dV rfl (vM rfl) (dV rfl (vI (k := i) (congrArg some hv2) rfl sl62 rfl hlt rfl) (dr_v rfl (v_ldn rfl ld81 hus hrd) ?_)))
   refine dV rfl (vM rfl) (dV rfl (vM rfl) (dV rfl (vI (k := i) (congrArg some hv2') rfl sl62 rfl (by omega) rfl) (dr_v rfl (v_ldn rfl ld81 hus' hrd') ?_)))
   refine dr_v rfl (v_neq_T eq81 rfl rfl) (dr_nil (nK [0, 1, 5, 25] rfl (nT (cC rfl (fun he => ?_) (fun he => ?_)))))
   ·skip
    refine cS (cR (sV (vA rfl) (sN (nK [0, 1, 4, 5] rfl (nT (cT (xW (xR (xR (xW (xR ?_)))))))))))
    rw [eqBy_false (List.getElem?_eq_getElem hlt) (List.getElem?_eq_getElem (show i < l'.length by omega)) (by simpa using he)]
    exact xt_rt rfl ⟨rfl, rfl⟩
   ·skip
    refine cK (xB (xT (cR (sV (vM rfl) (sV (v_add rfl rfl (by unfold I64 at *; omega)) (sV (vA rfl) (sN (nK [0, 1, 5] rfl (nx_xt (xt_ag (i + 1) ⟨hlt, fun j x y hj hx hy => ?_⟩ (by show _ - _ < _ - _; omega)))))))))))
    by_cases hji : j = i
    ·subst hji; rw [List.getElem?_eq_getElem hlt] at hx; rw [List.getElem?_eq_getElem (show j < l'.length by omega)] at hy; cases hx; cases hy; simpa using he
    ·exact hne j x y (by omega) hx hy
  ·skip
   refine cd_exit (xE (xE (xY (xT (cS (cR (sV (vA rfl) (sN (nK [4] rfl (nT (cT ?_)))))))))))
   have hil : i = l.length := by
    have : ¬ i < l.length := by simpa using hd
    omega
   rw [eqBy_true hlen fun j x y hx hy => hne j x y (by have := (List.getElem?_eq_some_iff.1 hx).1; omega) hx hy]
   exact xt_rt rfl ⟨rfl, rfl⟩
end
end Go.Wt
namespace Go.Wt
open Go Go.Ck Go.Proofs Go.Proofs.YtboepbencndobaaGreat Fx
attribute [local irreducible] St Cd Xt Nx DrL LsW
theorem list_eq {α : Type} {l m : List α} (h : l.length = m.length) (hh : ∀ j, j < l.length → l[j]? = m[j]?) : l = m := by
 apply List.ext_getElem?
 intro j
 by_cases hj : j < l.length
 ·exact hh j hj
 ·rw [List.getElem?_eq_none (by omega), List.getElem?_eq_none (by omega)]
section
variable {S : Res} {v v' : Value}
set_option maxHeartbeats 1000000 in
set_option maxRecDepth 100000 in
theorem sameLines_ct {l l' : List Line} (hv : Row S 5 (lineR S) v l) (hv' : Row S 5 (lineR S) v' l') (hl : l.length ≤ 1000000) (hla : ∀ x ∈ l, x.asks.length ≤ 1000000) : Reads Tryz.prog 103 #[v, v'] [S] (.bool (decide (l = l'))) := by
 obtain ⟨a, cap, hv1, _⟩ := id hv
 obtain ⟨a', cap', hv1', _⟩ := id hv'
 refine ct_of (n := 97) Tryz.func103 rfl rfl (len rfl) fun hr w0 => ?_
 refine cS (cR (sV (vA rfl) (sN (nT (cS (cS (cR (sV (vM rfl) (sV (v_len (congrArg some hv1) Tryz.underlying73) (sV (vM rfl) (sV (v_len (congrArg some hv1') Tryz.underlying73) (sV (v_neq rfl rfl) (sN (nK [0, 1, 4, 11] rfl (nT (cC rfl (fun h0 => ?_) (fun h0 => ?_)))))))))))))))))
 ·skip
  refine cS (cR (sV (vA rfl) (sN (nK [0, 1, 4] rfl (nT (cT (xR ?_)))))))
  rw [decide_eq_false (fun e => by simp [e] at h0)]
  exact xt_rt rfl ⟨rfl, rfl⟩
 ·skip
  refine cK (xT (cS (cS (cR (sV (vA rfl) (sN (nK [0, 1, 4, 5] rfl (nT (cB ?_)))))))))
  have hlen : l.length = l'.length := Int.ofNat.inj (show (l.length : Int) = (l'.length : Int) by simpa using h0)
  refine cd_lp (σ := Nat) (fun i => [(0, v), (1, v'), (5, .int .i64 (i : Nat))]) (fun _ => S :: hr) (fun i => i ≤ l.length ∧ ∀ (j : Nat), j < i → l[j]? = l'[j]?) (fun i => l.length - i) 0 ⟨Nat.zero_le _, fun j hj => by omega⟩ ?_
  rintro i ⟨hi, hne⟩
  refine cS (cS (cR (sV (vM rfl) (sV (vM rfl) (sV (v_len (congrArg some hv1) Tryz.underlying73) (sV (v_lss rfl rfl) (sN (nK [0, 1, 5, 15] rfl (nT (cC rfl (fun hd => ?_) (fun hd => ?_)))))))))))
  ·skip
   have hlt : i < l.length := by simpa using hd
   have hlt' : i < l'.length := by omega
   obtain ⟨b, o, cp2, us, hv2, hus, hrd, av, rfl, hA⟩ := hv.at (List.getElem?_eq_getElem hlt)
   obtain ⟨b', o', cp2', us', hv2', hus', hrd', av', rfl, hA'⟩ := hv'.at (List.getElem?_eq_getElem hlt')
   obtain ⟨aa, ac, rfl, _⟩ := id hA
   obtain ⟨aa', ac', rfl, _⟩ := id hA'
   have hasl := hla _ (List.getElem_mem hlt)
   have hno : l[i] ≠ l'[i] → decide (l = l') = false := fun h => decide_eq_false fun e => h (by simp only [e])
   have hyes : l[i] = l'[i] → l[i]? = l'[i]? := fun h => by rw [List.getElem?_eq_getElem hlt, List.getElem?_eq_getElem hlt', h]
   generalize l[i] = x at *
   generalize l'[i] = x' at *
   obtain ⟨xk, xa, xc, xb⟩ := x
   obtain ⟨yk, ya, yc, yb⟩ := x'
   simp only at hasl hA hA'
   refine cK (xT (cS (cB (cS (cS (cd_drawh (ork [(0, 2), (1, 2), (2, 2), (3, 2), (4, 1), (5, 2), (6, 2), (7, 2), (8, 2), (9, 1), (10, 1), (11, 2), (12, 2), (13, 2), (14, 2), (15, 2), (16, 1), (17, 2), (18, 2), (19, 2), (20, 2), (21, 1), (22, 1), (23, 2), (24, 2), (25, 2), (26, 2), (27, 2), (28, 2), (29, 1), (30, 2), (31, 2), (32, 2), (33, 2), (34, 1), (35, 1), (36, 2), (37, 2), (38, 2), (39, 2), (40, 2), (41, 2), (42, 1), (43, 2), (44, 2), (45, 2), (46, 2), (47, 2), (48, 1), (49, 2), (50, 2), (51, 2)] .nil) (fun _ => true) mixed (by kernel_rfl) ?_))))))
   refine dV rfl (vM rfl) (dV rfl (vM rfl) (dV rfl (vI (k := i) (congrArg some hv2) rfl sl73 rfl hlt rfl) (dV rfl (vF rfl fa120_0 rfl) (dr_v rfl (v_ldn (vs := kC xk) rfl ld79 rfl (rds_sub hrd rfl)) ?_))))
   refine dV rfl (vM rfl) (dV rfl (vM rfl) (dV rfl (vI (k := i) (congrArg some hv2') rfl sl73 rfl hlt' rfl) (dV rfl (vF rfl fa120_0 rfl) (dr_v rfl (v_ldn (vs := kC yk) rfl ld79 rfl (rds_sub hrd' rfl)) ?_))))
   refine dr_v rfl (v_neq_T eq79 rfl rfl) (dV rfl (vM rfl) (dr_cut (k := 12) (d := 41) (v := .bool (!(xk == yk) || (xc != yc))) (fun hcut => bool_want (b := (!(xk == yk))) false (fun hg => ?_) (fun hg => ?_)) ?_))
   ·refine dp_sk rfl rfl rfl hg ?_
    iterate 3 refine dp_sk rfl rfl rfl hg ?_
    refine dr_sk rfl rfl rfl hg ?_
    iterate 4 refine dp_sk rfl rfl rfl hg ?_
    iterate 2 refine dr_sk rfl rfl rfl hg ?_
    refine dV rfl (vQ (bE rfl hg) rfl) ?_
    exact hcut _ (uH (by first | rfl | (rw [hg]; rfl) | simp_all) (uS rfl (uS rfl (uS rfl (uS rfl (uS rfl (uS rfl (uS rfl (uS rfl (uS rfl (uS rfl (uS rfl (uR)))))))))))))
   ·skip
    refine dp_vg rfl rfl (bG rfl hg) (vM rfl) (dp_vg rfl rfl (bG rfl hg) (vM rfl) (dp_vg rfl rfl (bG rfl hg) (vI (k := i) (congrArg some hv2) rfl sl73 rfl hlt rfl) (dp_vg rfl rfl (bG rfl hg) (vF rfl fa120_2 rfl) (dr_vg rfl rfl (bG rfl hg) (vY rfl ld4) ?_))))
    refine dp_vg rfl rfl (bG rfl hg) (vM rfl) (dp_vg rfl rfl (bG rfl hg) (vM rfl) (dp_vg rfl rfl (bG rfl hg) (vI (k := i) (congrArg some hv2') rfl sl73 rfl hlt' rfl) (dp_vg rfl rfl (bG rfl hg) (vF rfl fa120_2 rfl) (dr_vg rfl rfl (bG rfl hg) (vY rfl ld4) ?_))))
    refine dr_vg rfl rfl (bG rfl hg) (v_neq_bool Tryz.underlying4 rfl rfl) (dV rfl (vP (bE rfl hg) rfl) ?_)
    exact hcut _ (uH (by first | rfl | (rw [hg]; rfl) | simp_all) (uS rfl (uS rfl (uS rfl (uS rfl (uS rfl (uS rfl (uS rfl (uS rfl (uS rfl (uS rfl (uS rfl (uR)))))))))))))
   refine dV rfl (vM rfl) (dr_cut (k := 12) (d := 54) (v := .bool (!(xk == yk) || (xc != yc) || (xb != yb))) (fun hcut => bool_want (b := (!(xk == yk) || (xc != yc))) false (fun hg => ?_) (fun hg => ?_)) ?_)
   ·refine dp_sk rfl rfl rfl hg ?_
    iterate 3 refine dp_sk rfl rfl rfl hg ?_
    refine dr_sk rfl rfl rfl hg ?_
    iterate 4 refine dp_sk rfl rfl rfl hg ?_
    iterate 2 refine dr_sk rfl rfl rfl hg ?_
    refine dV rfl (vQ (bE rfl hg) rfl) ?_
    exact hcut _ (uH (by first | rfl | (rw [hg]; rfl) | simp_all) (uS rfl (uS rfl (uS rfl (uS rfl (uS rfl (uS rfl (uS rfl (uS rfl (uS rfl (uS rfl (uS rfl (uR)))))))))))))
   ·skip
    refine dp_vg rfl rfl (bG rfl hg) (vM rfl) (dp_vg rfl rfl (bG rfl hg) (vM rfl) (dp_vg rfl rfl (bG rfl hg) (vI (k := i) (congrArg some hv2) rfl sl73 rfl hlt rfl) (dp_vg rfl rfl (bG rfl hg) (vF rfl fa120_3 rfl) (dr_vg rfl rfl (bG rfl hg) (vY rfl ld4) ?_))))
    refine dp_vg rfl rfl (bG rfl hg) (vM rfl) (dp_vg rfl rfl (bG rfl hg) (vM rfl) (dp_vg rfl rfl (bG rfl hg) (vI (k := i) (congrArg some hv2') rfl sl73 rfl hlt' rfl) (dp_vg rfl rfl (bG rfl hg) (vF rfl fa120_3 rfl) (dr_vg rfl rfl (bG rfl hg) (vY rfl ld4) ?_))))
    refine dr_vg rfl rfl (bG rfl hg) (v_neq_bool Tryz.underlying4 rfl rfl) (dV rfl (vP (bE rfl hg) rfl) ?_)
    exact hcut _ (uH (by first | rfl | (rw [hg]; rfl) | simp_all) (uS rfl (uS rfl (uS rfl (uS rfl (uS rfl (uS rfl (uS rfl (uS rfl (uS rfl (uS rfl (uS rfl (uR)))))))))))))
   refine dV rfl (vM rfl) (dr_cut (k := 14) (d := 69) (v := .bool (!(xk == yk) || (xc != yc) || (xb != yb) || ((xa.length : Int) != (ya.length : Int)))) (fun hcut => bool_want (b := (!(xk == yk) || (xc != yc) || (xb != yb))) false (fun hg => ?_) (fun hg => ?_)) ?_)
   ·refine dp_sk rfl rfl rfl hg ?_
    iterate 3 refine dp_sk rfl rfl rfl hg ?_
    refine dr_sk rfl rfl rfl hg ?_
    iterate 5 refine dp_sk rfl rfl rfl hg ?_
    refine dr_sk rfl rfl rfl hg ?_
    iterate 2 refine dp_sk rfl rfl rfl hg ?_
    refine dV rfl (vQ (bE rfl hg) rfl) ?_
    exact hcut _ (uH (by first | rfl | (rw [hg]; rfl) | simp_all) (uS rfl (uS rfl (uS rfl (uS rfl (uS rfl (uS rfl (uS rfl (uS rfl (uS rfl (uS rfl (uS rfl (uS rfl (uS rfl (uR)))))))))))))))
   ·skip
    refine dp_vg rfl rfl (bG rfl hg) (vM rfl) (dp_vg rfl rfl (bG rfl hg) (vM rfl) (dp_vg rfl rfl (bG rfl hg) (vI (k := i) (congrArg some hv2) rfl sl73 rfl hlt rfl) (dp_vg rfl rfl (bG rfl hg) (vF rfl fa120_1 rfl) (dr_vg rfl rfl (bG rfl hg) (vY rfl ld118) ?_))))
    refine dp_vg rfl rfl (bG rfl hg) (v_len rfl Tryz.underlying118) (dp_vg rfl rfl (bG rfl hg) (vM rfl) (dp_vg rfl rfl (bG rfl hg) (vM rfl) (dp_vg rfl rfl (bG rfl hg) (vI (k := i) (congrArg some hv2') rfl sl73 rfl hlt' rfl) (dp_vg rfl rfl (bG rfl hg) (vF rfl fa120_1 rfl) (dr_vg rfl rfl (bG rfl hg) (vY rfl ld118) ?_)))))
    refine dp_vg rfl rfl (bG rfl hg) (v_len rfl Tryz.underlying118) (dp_vg rfl rfl (bG rfl hg) (v_neq rfl rfl) (dV rfl (vP (bE rfl hg) rfl) ?_))
    exact hcut _ (uH (by first | rfl | (rw [hg]; rfl) | simp_all) (uS rfl (uS rfl (uS rfl (uS rfl (uS rfl (uS rfl (uS rfl (uS rfl (uS rfl (uS rfl (uS rfl (uS rfl (uS rfl (uR)))))))))))))))
   refine dr_nil (nK [0, 1, 5, 69] rfl (nT (cC rfl (fun hq => ?_) (fun hq => ?_))))
   ·skip
    refine cS (cR (sV (vA rfl) (sN (nK [0, 1, 4, 5] rfl (nT (cT (xR (xW (xR (xR (xW (xR ?_))))))))))))
    rw [hno (fun e => by
     simp only [Line.mk.injEq] at e
     obtain ⟨rfl, rfl, rfl, rfl⟩ := e
     simp at hq)]
    exact xt_rt rfl ⟨rfl, rfl⟩
   ·skip
    simp only [Bool.or_eq_false_iff, Bool.not_eq_false', beq_iff_eq, bne_eq_false_iff_eq] at hq
    obtain ⟨⟨⟨rfl, rfl⟩, rfl⟩, hal⟩ := hq
    have hal2 : xa.length = ya.length := by omega
    refine cK (xT (cS (cR (sV (vA rfl) (sN (nK [0, 1, 5, 6] rfl (nT (cB (cd_lp (σ := Nat) (fun k => [(0, v), (1, v'), (5, .int .i64 (i : Nat)), (6, .int .i64 (k : Nat))]) (fun _ => S :: hr) (fun k => k ≤ xa.length ∧ ∀ (j : Nat), j < k → xa[j]? = ya[j]?) (fun k => xa.length - k) 0 ⟨Nat.zero_le _, fun j hj => by omega⟩ ?_)))))))))
    rintro k ⟨hk, hke⟩
    refine cS (cS (cR (sV (vM rfl) (sV (vM rfl) (sV (vM rfl) (sV (vI (k := i) (congrArg some hv2) rfl sl73 rfl hlt rfl) (sV (vF rfl fa120_1 rfl) (sV (vY rfl ld118) ?_))))))))
    refine sV (v_len rfl Tryz.underlying118) (sV (v_lss rfl rfl) (sN (nK [0, 1, 5, 6, 77] rfl (nT (cC rfl (fun hd2 => ?_) (fun hd2 => ?_))))))
    ·skip
     have hkt : k < xa.length := by simpa using hd2
     obtain ⟨c1, c2, c3, cus, hcv, hcus, hcrd, rfl⟩ := hA.at (List.getElem?_eq_getElem hkt)
     obtain ⟨c1', c2', c3', cus', hcv', hcus', hcrd', rfl⟩ := hA'.at (List.getElem?_eq_getElem (show k < ya.length by omega))
     refine cK (xT (cS (cB (cS (cd_drawh (ork [(0, 2), (1, 2), (2, 2), (3, 2), (4, 1), (5, 2), (6, 2), (7, 1), (8, 2), (9, 2), (10, 2), (11, 2), (12, 1), (13, 2), (14, 2), (15, 1), (16, 1)] .nil) (fun _ => true) mixed (by kernel_rfl) ?_)))))
     refine dV rfl (vM rfl) (dV rfl (vM rfl) (dV rfl (vI (k := i) (congrArg some hv2) rfl sl73 rfl hlt rfl) (dV rfl (vF rfl fa120_1 rfl) (dr_v rfl (vY rfl ld118) ?_))))
     refine dV rfl (vM rfl) (dV rfl (vI (k := k) (congrArg some hcv) rfl sl118 rfl hkt rfl) (dr_v rfl (v_ldn rfl ld117 hcus hcrd) ?_))
     refine dV rfl (vM rfl) (dV rfl (vM rfl) (dV rfl (vI (k := i) (congrArg some hv2') rfl sl73 rfl hlt' rfl) (dV rfl (vF rfl fa120_1 rfl) (dr_v rfl (vY rfl ld118) ?_))))
     refine dV rfl (vM rfl) (dV rfl (vI (k := k) (congrArg some hcv') rfl sl118 rfl (by omega) rfl) (dr_v rfl (v_ldn rfl ld117 hcus' hcrd') ?_))
     refine dr_v rfl (v_neq_T eq117 rfl rfl) (dr_nil (nK [0, 1, 5, 6, 96] rfl (nT (cC rfl (fun he => ?_) (fun he => ?_)))))
     ·skip
      refine cS (cR (sV (vA rfl) (sN (nK [0, 1, 4, 5, 6] rfl (nT (cT (xW (xR (xR (xW (xW (xR (xR (xW (xR ?_)))))))))))))))
      rw [hno (fun e => by
       simp only [Line.mk.injEq] at e
       obtain ⟨_, rfl, _⟩ := e
       simp at he)]
      exact xt_rt rfl ⟨rfl, rfl⟩
     ·skip
      refine cK (xB (xT (cR (sV (vM rfl) (sV (v_add rfl rfl (by unfold I64 at *; omega)) (sV (vA rfl) (sN (nK [0, 1, 5, 6] rfl (nx_xt (xt_ag (k + 1) ⟨hkt, fun j hj => ?_⟩ (by show _ - _ < _ - _; omega)))))))))))
      by_cases hjk : j = k
      ·subst hjk
       rw [List.getElem?_eq_getElem hkt, List.getElem?_eq_getElem (show j < ya.length by omega)]
       simp only [Bool.not_eq_false', beq_iff_eq] at he
       rw [he]
      ·exact hke j (by omega)
    ·skip
     have hkl : k = xa.length := by
      have : ¬ k < xa.length := by simpa using hd2
      omega
     have hxy : xa = ya := list_eq hal2 fun j hj => hke j (by omega)
     refine cd_exit (xE (xE (xY (xB (xT (cR (sV (vM rfl) (sV (v_add rfl rfl (by unfold I64 at *; omega)) (sV (vA rfl) (sN (nK [0, 1, 5] rfl (nx_xt (xt_ag (i + 1) ⟨hlt, fun j hj => ?_⟩ (by show _ - _ < _ - _; omega))))))))))))))
     by_cases hji : j = i
     ·subst hji; exact hyes (by rw [hxy])
     ·exact hne j (by omega)
  ·skip
   refine cd_exit (xE (xE (xY (xT (cS (cR (sV (vA rfl) (sN (nK [4] rfl (nT (cT ?_)))))))))))
   have hil : i = l.length := by
    have : ¬ i < l.length := by simpa using hd
    omega
   rw [decide_eq_true (list_eq hlen fun j hj => hne j (by omega))]
   exact xt_rt rfl ⟨rfl, rfl⟩
set_option maxHeartbeats 1000000 in
set_option maxRecDepth 100000 in
theorem sameProc_ct {us us' : List Value} {p p' : Proc} (hp : procR S us p) (hp' : procR S us' p') (hf : FitP p) : Reads Tryz.prog 55 #[.agg us.toArray, .agg us'.toArray] [S] (.bool (decide (p = p'))) := by
 obtain ⟨lv, pv, hv, dv, rfl, hL, hP, hH, hD⟩ := hp
 obtain ⟨lv', pv', hv', dv', rfl, hL', hP', hH', hD'⟩ := hp'
 obtain ⟨f1, f2, f3, f4, f5⟩ := hf
 obtain ⟨al, cl1, rfl, _⟩ := id hL
 obtain ⟨ap, cp1, rfl, _⟩ := id hP
 obtain ⟨ah, ch1, rfl, _⟩ := id hH
 obtain ⟨ad, cd1, rfl, _⟩ := id hD
 obtain ⟨al', cl2, rfl, _⟩ := id hL'
 obtain ⟨ap', cp2, rfl, _⟩ := id hP'
 obtain ⟨ah', ch2, rfl, _⟩ := id hH'
 obtain ⟨ad', cd2, rfl, _⟩ := id hD'
 obtain ⟨p1, p2, p3, p4, p5, p6, p7, p8, p9⟩ := p
 obtain ⟨q1, q2, q3, q4, q5, q6, q7, q8, q9⟩ := p'
 simp only at *
 refine ct_of (n := 94) Tryz.func55 rfl rfl (len rfl) fun hr w0 => ?_
 refine cS (cR (st_bx rfl rfl fun b2 => ?_))
 refine st_bx rfl rfl fun b3 => ?_
 refine sV (vA rfl) (sN (nK [2, 3, 4] rfl (nT (cS (cR (sV (vF rfl fa77_0 rfl) (sV (vY rfl ld73) ?_)))))))
 refine sV (vF rfl fa77_0 rfl) (sV (vY rfl ld73) ?_)
 refine st_clr rfl rfl en103 rfl (sameLines_ct hL hL' f1 f5) ?_
 refine sV (vA rfl) (sN (nK [2, 3, 4, 5] rfl (nT (cS (cR (sV (vF rfl fa77_1 rfl) (sV (vY rfl ld74) ?_)))))))
 refine sV (vF rfl fa77_1 rfl) (sV (vY rfl ld74) ?_)
 refine st_clr rfl rfl en42 rfl (same42_ct hP hP' f2) ?_
 refine sV (vA rfl) (sN (nK [2, 3, 4, 5, 6] rfl (nT (cS (cR (sV (vF rfl fa77_8 rfl) (sV (vY rfl ld62) ?_)))))))
 refine sV (vF rfl fa77_8 rfl) (sV (vY rfl ld62) ?_)
 refine st_clr rfl rfl en29 rfl (same29_ct hD hD' f4) ?_
 refine sV (vA rfl) (sN (nK [2, 3, 4, 5, 6, 7] rfl (nT (cS (cS (cR (sV (vM rfl) (sV (v_not rfl) (sV (vM rfl) (st_cut (k := 6) (d := 29) (v := .bool (!decide (p1 = q1) || !(p2 == q2))) (fun hcut => bool_want (b := (!decide (p1 = q1))) false (fun hg => ?_) (fun hg => ?_)) ?_))))))))))
 ·refine st_sk rfl rfl hg ?_
  refine st_sk rfl rfl hg ?_
  refine sV (vQ (bE rfl hg) rfl) ?_
  exact hcut _ (uH (by first | rfl | (rw [hg]; rfl) | simp_all) (uS rfl (uS rfl (uR))))
 ·skip
  refine sG rfl (bG rfl hg) (vM rfl) (sG rfl (bG rfl hg) (v_not rfl) (sV (vP (bE rfl hg) rfl) ?_))
  exact hcut _ (uH (by first | rfl | (rw [hg]; rfl) | simp_all) (uS rfl (uS rfl (uR))))
 refine sV (vM rfl) (st_cut (k := 10) (d := 33) (v := .bool (!decide (p1 = q1) || !(p2 == q2) || !(p9 == q9))) (fun hcut => bool_want (b := (!decide (p1 = q1) || !(p2 == q2))) false (fun hg => ?_) (fun hg => ?_)) ?_)
 ·refine st_sk rfl rfl hg ?_
  refine st_sk rfl rfl hg ?_
  refine sV (vQ (bE rfl hg) rfl) ?_
  exact hcut _ (uH (by first | rfl | (rw [hg]; rfl) | simp_all) (uS rfl (uS rfl (uR))))
 ·skip
  refine sG rfl (bG rfl hg) (vM rfl) (sG rfl (bG rfl hg) (v_not rfl) (sV (vP (bE rfl hg) rfl) ?_))
  exact hcut _ (uH (by first | rfl | (rw [hg]; rfl) | simp_all) (uS rfl (uS rfl (uR))))
 refine sV (vM rfl) (st_cut (k := 19) (d := 42) (v := .bool (!decide (p1 = q1) || !(p2 == q2) || !(p9 == q9) || ((p6.length : Int) != (q6.length : Int)))) (fun hcut => bool_want (b := (!decide (p1 = q1) || !(p2 == q2) || !(p9 == q9))) false (fun hg => ?_) (fun hg => ?_)) ?_)
 ·refine st_sk rfl rfl hg ?_
  iterate 6 refine st_sk rfl rfl hg ?_
  refine sV (vQ (bE rfl hg) rfl) ?_
  exact hcut _ (uH (by first | rfl | (rw [hg]; rfl) | simp_all) (uS rfl (uS rfl (uS rfl (uS rfl (uS rfl (uS rfl (uS rfl (uR)))))))))
 ·skip
  refine sG rfl (bG rfl hg) (vF rfl fa77_5 rfl) (sG rfl (bG rfl hg) (vY rfl ld75) ?_)
  refine sG rfl (bG rfl hg) (v_len rfl Tryz.underlying75) (sG rfl (bG rfl hg) (vF rfl fa77_5 rfl) (sG rfl (bG rfl hg) (vY rfl ld75) ?_))
  refine sG rfl (bG rfl hg) (v_len rfl Tryz.underlying75) (sG rfl (bG rfl hg) (v_neq rfl rfl) (sV (vP (bE rfl hg) rfl) ?_))
  exact hcut _ (uH (by first | rfl | (rw [hg]; rfl) | simp_all) (uS rfl (uS rfl (uS rfl (uS rfl (uS rfl (uS rfl (uS rfl (uR)))))))))
 refine sN (nK [2, 3, 4, 42] rfl (nT (cC rfl (fun h0 => ?_) (fun h0 => ?_))))
 ·skip
  refine cS (cR (sV (vA rfl) (sN (nK [2, 3, 4] rfl (nT (cT (xR ?_)))))))
  rw [decide_eq_false (fun e => by
   simp only [Proc.mk.injEq] at e
   obtain ⟨rfl, rfl, rfl, rfl, rfl, rfl, rfl, rfl, rfl⟩ := e
   simp at h0)]
  exact xt_rt rfl ⟨rfl, rfl⟩
 ·skip
  simp only [Bool.or_eq_false_iff, Bool.not_eq_false', beq_iff_eq, bne_eq_false_iff_eq, decide_eq_true_eq] at h0
  obtain ⟨⟨⟨rfl, rfl⟩, rfl⟩, hl6⟩ := h0
  have hlen : p6.length = q6.length := by omega
  refine cK (xT (cS (cS (cR (sV (vA rfl) (sN (nK [2, 3, 4, 8] rfl (nT (cB (cd_lp (σ := Nat) (fun i => [(2, .pointer (some ⟨b2, 0, none⟩)), (3, .pointer (some ⟨b3, 0, none⟩)), (8, .int .i64 (i : Nat))]) (fun _ => pt b2 (cl (pC (.slice al p1.length cl1) (.slice ap p2.length cp1) (.slice ah p6.length ch1) (.slice ad p9.length cd1) ⟨p1, p2, p3, p4, p5, p6, p7, p8, p9⟩) 77) :: pt b3 (cl (pC (.slice al' p1.length cl2) (.slice ap' p2.length cp2) (.slice ah' q6.length ch2) (.slice ad' p9.length cd2) ⟨p1, p2, q3, q4, q5, q6, q7, q8, p9⟩) 77) :: S :: hr) (fun i => i ≤ p6.length ∧ ∀ (j : Nat), j < i → p6[j]? = q6[j]?) (fun i => p6.length - i) 0 ⟨Nat.zero_le _, fun j hj => by omega⟩ ?_))))))))))
  rintro i ⟨hi, hne⟩
  refine cS (cS (cR (sV (vM rfl) (sV (vF rfl fa77_5 rfl) (sV (vY rfl ld75) ?_)))))
  refine sV (v_len rfl Tryz.underlying75) (sV (v_lss rfl rfl) (sN (nK [2, 3, 8, 47] rfl (nT (cC rfl (fun hd => ?_) (fun hd => ?_))))))
  ·skip
   have hlt : i < p6.length := by simpa using hd
   obtain ⟨c1, c2, c3, cus, hcv, hcus, hcrd, rfl⟩ := hH.at (List.getElem?_eq_getElem hlt)
   obtain ⟨c1', c2', c3', cus', hcv', hcus', hcrd', rfl⟩ := hH'.at (List.getElem?_eq_getElem (show i < q6.length by omega))
   refine cK (xT (cS (cB (cS (cd_drawh (ork [(0, 2), (1, 1), (2, 2), (3, 2), (4, 1), (5, 2), (6, 1), (7, 2), (8, 2), (9, 1), (10, 1)] .nil) (fun _ => true) mixed (by kernel_rfl) ?_)))))
   refine dV rfl (vF rfl fa77_5 rfl) (dr_v rfl (vY rfl ld75) ?_)
   refine dV rfl (vM rfl) (dV rfl (vI (k := i) (congrArg some hcv) rfl sl75 rfl hlt rfl) (dr_v rfl (v_ldn rfl ld161 hcus hcrd) ?_))
   refine dV rfl (vF rfl fa77_5 rfl) (dr_v rfl (vY rfl ld75) ?_)
   refine dV rfl (vM rfl) (dV rfl (vI (k := i) (congrArg some hcv') rfl sl75 rfl (by omega) rfl) (dr_v rfl (v_ldn rfl ld161 hcus' hcrd') ?_))
   refine dr_v rfl (v_neq_T eq161 rfl rfl) (dr_nil (nK [2, 3, 8, 60] rfl (nT (cC rfl (fun he => ?_) (fun he => ?_)))))
   ·skip
    refine cS (cR (sV (vA rfl) (sN (nK [2, 3, 4, 8] rfl (nT (cT (xW (xR (xR (xW (xR ?_)))))))))))
    rw [decide_eq_false (fun e => by
     simp only [Proc.mk.injEq] at e
     obtain ⟨_, _, _, _, _, rfl, _⟩ := e
     simp at he)]
    exact xt_rt rfl ⟨rfl, rfl⟩
   ·skip
    refine cK (xB (xT (cR (sV (vM rfl) (sV (v_add rfl rfl (by unfold I64 at *; omega)) (sV (vA rfl) (sN (nK [2, 3, 8] rfl (nx_xt (xt_ag (i + 1) ⟨hlt, fun j hj => ?_⟩ (by show _ - _ < _ - _; omega)))))))))))
    by_cases hji : j = i
    ·subst hji
     rw [List.getElem?_eq_getElem hlt, List.getElem?_eq_getElem (show j < q6.length by omega)]
     simp only [Bool.not_eq_false', beq_iff_eq] at he
     rw [he]
    ·exact hne j (by omega)
  ·skip
   have hil : i = p6.length := by
    have : ¬ i < p6.length := by simpa using hd
    omega
   have h66 : p6 = q6 := list_eq hlen fun j hj => hne j (by omega)
   subst h66
   have hres : decide ((⟨p1, p2, p3, p4, p5, p6, p7, p8, p9⟩ : Proc) = ⟨p1, p2, q3, q4, q5, p6, q7, q8, p9⟩) = ((p3 == q3) && (p4 == q4) && (p5 == q5) && (p7 == q7) && (p8 == q8)) := by
    rw [Bool.eq_iff_iff]
    simp [and_assoc]
   rw [hres]
   refine cd_exit (xE (xE (xY (xT (cS (cR (sV (vF rfl fa77_2 rfl) (sV (vY rfl ld3) ?_))))))))
   refine sV (vF rfl fa77_2 rfl) (sV (vY rfl ld3) ?_)
   refine sV (v_eql rfl rfl) (sV (vM rfl) (st_cut (k := 12) (d := 72) (v := .bool ((p3 == q3) && (p4 == q4))) (fun hcut => bool_want (b := (p3 == q3)) true (fun hg => ?_) (fun hg => ?_)) ?_))
   ·refine st_sk rfl rfl hg ?_
    iterate 4 refine st_sk rfl rfl hg ?_
    refine sV (vP (bE rfl hg) rfl) ?_
    exact hcut _ (uH (by first | rfl | (rw [hg]; rfl) | simp_all) (uS rfl (uS rfl (uS rfl (uS rfl (uS rfl (uR)))))))
   ·skip
    refine sG rfl (bG rfl hg) (vF rfl fa77_3 rfl) (sG rfl (bG rfl hg) (vY rfl ld3) ?_)
    refine sG rfl (bG rfl hg) (vF rfl fa77_3 rfl) (sG rfl (bG rfl hg) (vY rfl ld3) ?_)
    refine sG rfl (bG rfl hg) (v_eql rfl rfl) (sV (vQ (bE rfl hg) rfl) ?_)
    exact hcut _ (uH (by first | rfl | (rw [hg]; rfl) | simp_all) (uS rfl (uS rfl (uS rfl (uS rfl (uS rfl (uR)))))))
   refine sV (vM rfl) (st_cut (k := 19) (d := 79) (v := .bool ((p3 == q3) && (p4 == q4) && (p5 == q5))) (fun hcut => bool_want (b := ((p3 == q3) && (p4 == q4))) true (fun hg => ?_) (fun hg => ?_)) ?_)
   ·refine st_sk rfl rfl hg ?_
    iterate 4 refine st_sk rfl rfl hg ?_
    refine sV (vP (bE rfl hg) rfl) ?_
    exact hcut _ (uH (by first | rfl | (rw [hg]; rfl) | simp_all) (uS rfl (uS rfl (uS rfl (uS rfl (uS rfl (uR)))))))
   ·skip
    refine sG rfl (bG rfl hg) (vF rfl fa77_4 rfl) (sG rfl (bG rfl hg) (vY rfl ld4) ?_)
    refine sG rfl (bG rfl hg) (vF rfl fa77_4 rfl) (sG rfl (bG rfl hg) (vY rfl ld4) ?_)
    refine sG rfl (bG rfl hg) (v_eql_bool Tryz.underlying4 rfl rfl) (sV (vQ (bE rfl hg) rfl) ?_)
    exact hcut _ (uH (by first | rfl | (rw [hg]; rfl) | simp_all) (uS rfl (uS rfl (uS rfl (uS rfl (uS rfl (uR)))))))
   refine sV (vM rfl) (st_cut (k := 26) (d := 86) (v := .bool ((p3 == q3) && (p4 == q4) && (p5 == q5) && (p7 == q7))) (fun hcut => bool_want (b := ((p3 == q3) && (p4 == q4) && (p5 == q5))) true (fun hg => ?_) (fun hg => ?_)) ?_)
   ·refine st_sk rfl rfl hg ?_
    iterate 4 refine st_sk rfl rfl hg ?_
    refine sV (vP (bE rfl hg) rfl) ?_
    exact hcut _ (uH (by first | rfl | (rw [hg]; rfl) | simp_all) (uS rfl (uS rfl (uS rfl (uS rfl (uS rfl (uR)))))))
   ·skip
    refine sG rfl (bG rfl hg) (vF rfl fa77_6 rfl) (sG rfl (bG rfl hg) (vY rfl ld3) ?_)
    refine sG rfl (bG rfl hg) (vF rfl fa77_6 rfl) (sG rfl (bG rfl hg) (vY rfl ld3) ?_)
    refine sG rfl (bG rfl hg) (v_eql rfl rfl) (sV (vQ (bE rfl hg) rfl) ?_)
    exact hcut _ (uH (by first | rfl | (rw [hg]; rfl) | simp_all) (uS rfl (uS rfl (uS rfl (uS rfl (uS rfl (uR)))))))
   refine sV (vM rfl) (st_cut (k := 33) (d := 93) (v := .bool ((p3 == q3) && (p4 == q4) && (p5 == q5) && (p7 == q7) && (p8 == q8))) (fun hcut => bool_want (b := ((p3 == q3) && (p4 == q4) && (p5 == q5) && (p7 == q7))) true (fun hg => ?_) (fun hg => ?_)) ?_)
   ·refine st_sk rfl rfl hg ?_
    iterate 4 refine st_sk rfl rfl hg ?_
    refine sV (vP (bE rfl hg) rfl) ?_
    exact hcut _ (uH (by first | rfl | (rw [hg]; rfl) | simp_all) (uS rfl (uS rfl (uS rfl (uS rfl (uS rfl (uR)))))))
   ·skip
    refine sG rfl (bG rfl hg) (vF rfl fa77_7 rfl) (sG rfl (bG rfl hg) (vY rfl ld3) ?_)
    refine sG rfl (bG rfl hg) (vF rfl fa77_7 rfl) (sG rfl (bG rfl hg) (vY rfl ld3) ?_)
    refine sG rfl (bG rfl hg) (v_eql rfl rfl) (sV (vQ (bE rfl hg) rfl) ?_)
    exact hcut _ (uH (by first | rfl | (rw [hg]; rfl) | simp_all) (uS rfl (uS rfl (uS rfl (uS rfl (uS rfl (uR)))))))
   refine sV (vA rfl) (sN (nK [4] rfl (nT (cT ?_))))
   exact xt_rt rfl ⟨rfl, rfl⟩
end
end Go.Wt
namespace Go.Wt
open Go Go.Ck Go.Proofs Go.Proofs.YtboepbencndobaaGreat Fx
attribute [local irreducible] St Cd Xt Nx DrL LsW
section
variable {S : Res} {v v' : Value}
set_option maxHeartbeats 1000000 in
set_option maxRecDepth 100000 in
theorem sameYards_ct {ys zs : List Value} {y z : Yard} (hy : yardR S ys y) (hz : yardR S zs z) (hf : Fit y) : Reads Tryz.prog 16 #[.agg ys.toArray, .agg zs.toArray] [S] (.bool (decide (y = z))) := by
 obtain ⟨jv, pv, rfl, hj, hp⟩ := hy
 obtain ⟨jv', pv', rfl, hj', hp'⟩ := hz
 obtain ⟨⟨hfj, hfj2⟩, hfp, hfpp⟩ := hf
 obtain ⟨ja, jc, rfl, _⟩ := id hj
 obtain ⟨pa, pc, rfl, _⟩ := id hp
 obtain ⟨ja', jc', rfl, _⟩ := id hj'
 obtain ⟨pa', pc', rfl, _⟩ := id hp'
 obtain ⟨yj, yp⟩ := y
 obtain ⟨zj, zp⟩ := z
 simp only at *
 refine ct_of (n := 92) Tryz.func16 rfl rfl (len rfl) fun hr w0 => ?_
 refine cS (cR (st_bx rfl rfl fun b2 => ?_))
 refine st_bx rfl rfl fun b3 => ?_
 refine sV (vA rfl) (sN (nK [2, 3, 4] rfl (nT (cS (cS (cR (sV (vF rfl fa27_1 rfl) (sV (vY rfl ld25) ?_))))))))
 refine sV (v_len rfl Tryz.underlying25) (sV (vF rfl fa27_1 rfl) (sV (vY rfl ld25) ?_))
 refine sV (v_len rfl Tryz.underlying25) (sV (v_neq rfl rfl) (sV (vM rfl) (st_cut (k := 16) (d := 24) (v := .bool (((yp.length : Int) != (zp.length : Int)) || ((yj.length : Int) != (zj.length : Int)))) (fun hcut => bool_want (b := ((yp.length : Int) != (zp.length : Int))) false (fun hg => ?_) (fun hg => ?_)) ?_)))
 ·refine st_sk rfl rfl hg ?_
  iterate 6 refine st_sk rfl rfl hg ?_
  refine sV (vQ (bE rfl hg) rfl) ?_
  exact hcut _ (uH (by first | rfl | (rw [hg]; rfl) | simp_all) (uS rfl (uS rfl (uS rfl (uS rfl (uS rfl (uS rfl (uS rfl (uR)))))))))
 ·skip
  refine sG rfl (bG rfl hg) (vF rfl fa27_0 rfl) (sG rfl (bG rfl hg) (vY rfl ld22) ?_)
  refine sG rfl (bG rfl hg) (v_len rfl Tryz.underlying22) (sG rfl (bG rfl hg) (vF rfl fa27_0 rfl) (sG rfl (bG rfl hg) (vY rfl ld22) ?_))
  refine sG rfl (bG rfl hg) (v_len rfl Tryz.underlying22) (sG rfl (bG rfl hg) (v_neq rfl rfl) (sV (vP (bE rfl hg) rfl) ?_))
  exact hcut _ (uH (by first | rfl | (rw [hg]; rfl) | simp_all) (uS rfl (uS rfl (uS rfl (uS rfl (uS rfl (uS rfl (uS rfl (uR)))))))))
 refine sN (nK [2, 3, 4, 24] rfl (nT (cC rfl (fun h0 => ?_) (fun h0 => ?_))))
 ·skip
  refine cS (cR (sV (vA rfl) (sN (nK [2, 3, 4] rfl (nT (cT (xR ?_)))))))
  rw [decide_eq_false (fun e => by
   simp only [Yard.mk.injEq] at e
   obtain ⟨rfl, rfl⟩ := e
   simp at h0)]
  exact xt_rt rfl ⟨rfl, rfl⟩
 ·skip
  simp only [Bool.or_eq_false_iff, bne_eq_false_iff_eq] at h0
  have hpl : yp.length = zp.length := by omega
  have hjl : yj.length = zj.length := by omega
  refine cK (xT (cS (cS (cR (sV (vA rfl) (sN (nK [2, 3, 4, 5] rfl (nT (cB (cd_lp (σ := Nat) (fun i => [(2, .pointer (some ⟨b2, 0, none⟩)), (3, .pointer (some ⟨b3, 0, none⟩)), (5, .int .i64 (i : Nat))]) (fun _ => pt b2 (cl [.slice ja yj.length jc, .slice pa yp.length pc] 27) :: pt b3 (cl [.slice ja' zj.length jc', .slice pa' zp.length pc'] 27) :: S :: hr) (fun i => i ≤ yj.length ∧ ∀ (j : Nat), j < i → yj[j]? = zj[j]?) (fun i => yj.length - i) 0 ⟨Nat.zero_le _, fun j hj => by omega⟩ ?_))))))))))
  rintro i ⟨hi, hne⟩
  refine cS (cS (cR (sV (vM rfl) (sV (vF rfl fa27_0 rfl) (sV (vY rfl ld22) ?_)))))
  refine sV (v_len rfl Tryz.underlying22) (sV (v_lss rfl rfl) (sN (nK [2, 3, 5, 29] rfl (nT (cC rfl (fun hd => ?_) (fun hd => ?_))))))
  ·skip
   have hlt : i < yj.length := by simpa using hd
   have hlt' : i < zj.length := by omega
   obtain ⟨c1, c2, c3, cu, hcv, hcrd, cv, hcu, hA⟩ := hj.at1 (List.getElem?_eq_getElem hlt)
   obtain ⟨c1', c2', c3', cu', hcv', hcrd', cv', hcu', hA'⟩ := hj'.at1 (List.getElem?_eq_getElem hlt')
   simp only [List.cons.injEq, and_true] at hcu hcu'
   subst hcu hcu'
   obtain ⟨aa, ac, rfl, _⟩ := id hA
   obtain ⟨aa', ac', rfl, _⟩ := id hA'
   have hll := hfj2 _ (List.getElem_mem hlt)
   have hno : yj[i] ≠ zj[i] → decide ((⟨yj, yp⟩ : Yard) = ⟨zj, zp⟩) = false := fun h => decide_eq_false fun e => h (by simp only [Yard.mk.injEq] at e; simp only [e.1])
   have hyes : yj[i] = zj[i] → yj[i]? = zj[i]? := fun h => by rw [List.getElem?_eq_getElem hlt, List.getElem?_eq_getElem hlt', h]
   generalize yj[i] = x at *
   generalize zj[i] = x' at *
   refine cK (xT (cS (cB (cS (cS (cd_drawh (ork [(0, 2), (1, 1), (2, 2), (3, 2), (4, 1), (5, 2), (6, 2), (7, 1), (8, 2), (9, 2), (10, 1), (11, 2), (12, 2)] .nil) (fun _ => true) mixed (by kernel_rfl) ?_))))))
   refine dV rfl (vF rfl fa27_0 rfl) (dr_v rfl (vY rfl ld22) ?_)
   refine dV rfl (vM rfl) (dV rfl (vI (k := i) (congrArg some hcv) rfl sl22 rfl hlt rfl) (dr_v rfl (vY rfl ld108) ?_))
   refine dV rfl (v_len rfl Tryz.underlying108) (dV rfl (vF rfl fa27_0 rfl) (dr_v rfl (vY rfl ld22) ?_))
   refine dV rfl (vM rfl) (dV rfl (vI (k := i) (congrArg some hcv') rfl sl22 rfl hlt' rfl) (dr_v rfl (vY rfl ld108) ?_))
   refine dV rfl (v_len rfl Tryz.underlying108) (dV rfl (v_neq rfl rfl) (dr_nil (nK [2, 3, 5, 44] rfl (nT (cC rfl (fun hq => ?_) (fun hq => ?_))))))
   ·skip
    refine cS (cR (sV (vA rfl) (sN (nK [2, 3, 4, 5] rfl (nT (cT (xR (xW (xR (xR (xW (xR ?_))))))))))))
    rw [hno (fun e => by subst e; simp at hq)]
    exact xt_rt rfl ⟨rfl, rfl⟩
   ·skip
    have hxl : x.length = x'.length := by have := bne_eq_false_iff_eq.1 hq; omega
    refine cK (xT (cS (cR (sV (vA rfl) (sN (nK [2, 3, 5, 6] rfl (nT (cB (cd_lp (σ := Nat) (fun k => [(2, .pointer (some ⟨b2, 0, none⟩)), (3, .pointer (some ⟨b3, 0, none⟩)), (5, .int .i64 (i : Nat)), (6, .int .i64 (k : Nat))]) (fun _ => pt b2 (cl [.slice ja yj.length jc, .slice pa yp.length pc] 27) :: pt b3 (cl [.slice ja' zj.length jc', .slice pa' zp.length pc'] 27) :: S :: hr) (fun k => k ≤ x.length ∧ ∀ (j : Nat), j < k → x[j]? = x'[j]?) (fun k => x.length - k) 0 ⟨Nat.zero_le _, fun j hj => by omega⟩ ?_)))))))))
    rintro k ⟨hk, hke⟩
    refine cS (cS (cR (sV (vM rfl) (sV (vF rfl fa27_0 rfl) (sV (vY rfl ld22) ?_)))))
    refine sV (vM rfl) (sV (vI (k := i) (congrArg some hcv) rfl sl22 rfl hlt rfl) (sV (vY rfl ld108) ?_))
    refine sV (v_len rfl Tryz.underlying108) (sV (v_lss rfl rfl) (sN (nK [2, 3, 5, 6, 52] rfl (nT (cC rfl (fun hd2 => ?_) (fun hd2 => ?_))))))
    ·skip
     have hkt : k < x.length := by simpa using hd2
     obtain ⟨m1, m2, m3, mus, hmv, hmus, hmrd, rfl⟩ := hA.at (List.getElem?_eq_getElem hkt)
     obtain ⟨m1', m2', m3', mus', hmv', hmus', hmrd', rfl⟩ := hA'.at (List.getElem?_eq_getElem (show k < x'.length by omega))
     refine cK (xT (cS (cB (cS (cd_drawh (ork [(0, 2), (1, 1), (2, 2), (3, 2), (4, 1), (5, 2), (6, 2), (7, 1), (8, 2), (9, 1), (10, 2), (11, 2), (12, 1), (13, 2), (14, 2), (15, 1), (16, 1)] .nil) (fun _ => true) mixed (by kernel_rfl) ?_)))))
     refine dV rfl (vF rfl fa27_0 rfl) (dr_v rfl (vY rfl ld22) ?_)
     refine dV rfl (vM rfl) (dV rfl (vI (k := i) (congrArg some hcv) rfl sl22 rfl hlt rfl) (dr_v rfl (vY rfl ld108) ?_))
     refine dV rfl (vM rfl) (dV rfl (vI (k := k) (congrArg some hmv) rfl sl108 rfl hkt rfl) (dr_v rfl (v_ldn rfl ld110 hmus hmrd) ?_))
     refine dV rfl (vF rfl fa27_0 rfl) (dr_v rfl (vY rfl ld22) ?_)
     refine dV rfl (vM rfl) (dV rfl (vI (k := i) (congrArg some hcv') rfl sl22 rfl hlt' rfl) (dr_v rfl (vY rfl ld108) ?_))
     refine dV rfl (vM rfl) (dV rfl (vI (k := k) (congrArg some hmv') rfl sl108 rfl (by omega) rfl) (dr_v rfl (v_ldn rfl ld110 hmus' hmrd') ?_))
     refine dr_v rfl (v_neq_T eq110 rfl rfl) (dr_nil (nK [2, 3, 5, 6, 71] rfl (nT (cC rfl (fun he => ?_) (fun he => ?_)))))
     ·skip
      refine cS (cR (sV (vA rfl) (sN (nK [2, 3, 4, 5, 6] rfl (nT (cT (xW (xR (xR (xW (xW (xR (xR (xW (xR ?_)))))))))))))))
      rw [hno (fun e => by subst e; simp at he)]
      exact xt_rt rfl ⟨rfl, rfl⟩
     ·skip
      refine cK (xB (xT (cR (sV (vM rfl) (sV (v_add rfl rfl (by unfold I64 at *; omega)) (sV (vA rfl) (sN (nK [2, 3, 5, 6] rfl (nx_xt (xt_ag (k + 1) ⟨hkt, fun j hj => ?_⟩ (by show _ - _ < _ - _; omega)))))))))))
      by_cases hjk : j = k
      ·subst hjk
       rw [List.getElem?_eq_getElem hkt, List.getElem?_eq_getElem (show j < x'.length by omega)]
       simp only [Bool.not_eq_false', beq_iff_eq] at he
       rw [he]
      ·exact hke j (by omega)
    ·skip
     have hkl : k = x.length := by
      have : ¬ k < x.length := by simpa using hd2
      omega
     have hxy : x = x' := list_eq hxl fun j hj => hke j (by omega)
     refine cd_exit (xE (xE (xY (xB (xT (cR (sV (vM rfl) (sV (v_add rfl rfl (by unfold I64 at *; omega)) (sV (vA rfl) (sN (nK [2, 3, 5] rfl (nx_xt (xt_ag (i + 1) ⟨hlt, fun j hj => ?_⟩ (by show _ - _ < _ - _; omega))))))))))))))
     by_cases hji : j = i
     ·subst hji; exact hyes hxy
     ·exact hne j (by omega)
  ·skip
   have hil : i = yj.length := by
    have : ¬ i < yj.length := by simpa using hd
    omega
   have hjj : yj = zj := list_eq hjl fun j hj => hne j (by omega)
   refine cd_exit (xE (xE (xY (xT (cS (cS (cR (sV (vA rfl) (sN (nK [2, 3, 7] rfl (nT (cB (cd_lp (σ := Nat) (fun i => [(2, .pointer (some ⟨b2, 0, none⟩)), (3, .pointer (some ⟨b3, 0, none⟩)), (7, .int .i64 (i : Nat))]) (fun _ => pt b2 (cl [.slice ja yj.length jc, .slice pa yp.length pc] 27) :: pt b3 (cl [.slice ja' zj.length jc', .slice pa' zp.length pc'] 27) :: S :: hr) (fun i => i ≤ yp.length ∧ ∀ (j : Nat), j < i → yp[j]? = zp[j]?) (fun i => yp.length - i) 0 ⟨Nat.zero_le _, fun j hj => by omega⟩ ?_)))))))))))))
   rintro i ⟨hi, hne⟩
   refine cS (cS (cR (sV (vM rfl) (sV (vF rfl fa27_1 rfl) (sV (vY rfl ld25) ?_)))))
   refine sV (v_len rfl Tryz.underlying25) (sV (v_lss rfl rfl) (sN (nK [2, 3, 7, 76] rfl (nT (cC rfl (fun hd => ?_) (fun hd => ?_))))))
   ·skip
    have hlt : i < yp.length := by simpa using hd
    have hlt' : i < zp.length := by omega
    obtain ⟨c1, c2, c3, cus, hcv, hcus, hcrd, hA⟩ := hp.at (List.getElem?_eq_getElem hlt)
    obtain ⟨c1', c2', c3', cus', hcv', hcus', hcrd', hA'⟩ := hp'.at (List.getElem?_eq_getElem hlt')
    refine cK (xT (cS (cB (cS (cd_drawh (ork [(0, 2), (1, 1), (2, 2), (3, 2), (4, 1), (5, 2), (6, 1), (7, 2), (8, 2), (9, 1), (10, 1), (11, 2)] .nil) (fun _ => true) mixed (by kernel_rfl) ?_)))))
    refine dV rfl (vF rfl fa27_1 rfl) (dr_v rfl (vY rfl ld25) ?_)
    refine dV rfl (vM rfl) (dV rfl (vI (k := i) (congrArg some hcv) rfl sl25 rfl hlt rfl) (dr_v rfl (v_ldn rfl ld77 hcus hcrd) ?_))
    refine dV rfl (vF rfl fa27_1 rfl) (dr_v rfl (vY rfl ld25) ?_)
    refine dV rfl (vM rfl) (dV rfl (vI (k := i) (congrArg some hcv') rfl sl25 rfl hlt' rfl) (dr_v rfl (v_ldn rfl ld77 hcus' hcrd') ?_))
    refine dr_clr rfl rfl rfl en55 rfl (sameProc_ct hA hA' (hfpp _ (List.getElem_mem hlt))) ?_
    refine dV rfl (vA rfl) (dr_nil (nK [2, 3, 7, 8] rfl (nT (cS (cR (sV (vM rfl) (sV (v_not rfl) (sN (nK [2, 3, 7, 91] rfl (nT (cC rfl (fun hq => ?_) (fun hq => ?_))))))))))))
    ·skip
     refine cS (cR (sV (vA rfl) (sN (nK [2, 3, 4, 7] rfl (nT (cT (xW (xR (xR (xW (xR ?_)))))))))))
     rw [decide_eq_false (fun e => by
      simp only [Yard.mk.injEq] at e
      obtain ⟨_, rfl⟩ := e
      simp at hq)]
     exact xt_rt rfl ⟨rfl, rfl⟩
    ·skip
     refine cK (xB (xT (cR (sV (vM rfl) (sV (v_add rfl rfl (by unfold I64 at *; omega)) (sV (vA rfl) (sN (nK [2, 3, 7] rfl (nx_xt (xt_ag (i + 1) ⟨hlt, fun j hj => ?_⟩ (by show _ - _ < _ - _; omega)))))))))))
     by_cases hji : j = i
     ·subst hji
      rw [List.getElem?_eq_getElem hlt, List.getElem?_eq_getElem hlt']
      simp only [Bool.not_eq_false', decide_eq_true_eq] at hq
      rw [hq]
     ·exact hne j (by omega)
   ·skip
    have hil : i = yp.length := by
     have : ¬ i < yp.length := by simpa using hd
     omega
    have hpp : yp = zp := list_eq hpl fun j hj => hne j (by omega)
    rw [decide_eq_true (by rw [hjj, hpp])]
    refine cd_exit (xE (xE (xY (xT (cS (cR (sV (vA rfl) (sN (nK [4] rfl (nT (cT ?_)))))))))))
    exact xt_rt rfl ⟨rfl, rfl⟩
end
end Go.Wt
namespace Go.Wt
open Go Go.Ck
def exJ1 : List (List Move) := [[(1, 1, 0), (3, 1, 1), (4, 1, 2), (2, 0, 0)], [], []]
def exJ2 : List (List Move) := [[(5, 1, 1), (5, 2, 2)], [(1, 2, 0), (4, 2, 3), (2, 0, 0)], [(1, 1, 0), (4, 1, 3), (2, 0, 0)], []]
def exJ3 : List (List Move) := [[(1, 1, 0), (3, 1, 1), (3, 1, 2), (4, 1, 2), (2, 0, 0)], [(6, 0, 0)], []]
def exY : Nat → Yard
 | 0 => Yard.new exJ1 3
 | k + 1 => ((exY k).step 0)
def exZ1 : Yard := (Yard.gos (fun _ _ => true) 100 (exY 4)).1
def exZ2 : Yard := (Yard.gos (fun _ _ => true) 100 (Yard.new exJ2 3)).1
def exZ3 : Yard := (Yard.gos (fun _ _ => true) 100 (Yard.new exJ3 2)).1
theorem ex_chk : check exJ1 3 = 0 ∧ check exJ2 3 = 0 ∧ check exJ3 2 = 0 := by decide
theorem ex_step : (exY 0).stepE 0 = (exY 1, 0) ∧ (exY 1).stepE 0 = (exY 2, 0) ∧ (exY 2).stepE 0 = (exY 3, 0) ∧ (exY 3).stepE 0 = (exY 4, 0) := ⟨by kernel_rfl, by kernel_rfl, by kernel_rfl, by kernel_rfl⟩
theorem ex_gos1 : (Yard.gos (fun _ _ => true) 100 (exY 4)).2 = 0 := by kernel_rfl
theorem ex_gos2 : (Yard.gos (fun _ _ => true) 100 (Yard.new exJ2 3)).2 = 0 := by kernel_rfl
theorem ex_gos3 : (Yard.gos (fun _ _ => true) 100 (Yard.new exJ3 2)).2 = 0 := by kernel_rfl
end Go.Wt
namespace Go.Ck
open Go
section
variable {c : Cx} {ops : Array Oper} {K : Act → World → Prop} {rest : List Oper} {e : Env} {h h' : SH}
theorem st_grd {d : Option Nat} {op : Op} {ty : TypeId} {pos : String} {after : Array Edge} {g gd : Nat} {want : Bool} (hg : ((ops[g]?).bind (·.dst)) = some gd) (hgv : e.get? gd = some (.bool want)) (hn : St c ops K (⟨d, op, ty, pos, after, none⟩ :: rest) e h) :
  St c ops K (⟨d, op, ty, pos, after, some (g, want)⟩ :: rest) e h := fun a w hk hh hw => by
 have h1 := hn a w hk hh hw
 unfold LsW at h1 ⊢
 have e1 : Region.wanted (⟨d, op, ty, pos, after, none⟩ : Oper) (yielded ops a.tmps) = true := by simp [Region.wanted]
 have e2 : Region.wanted (⟨d, op, ty, pos, after, some (g, want)⟩ : Oper) (yielded ops a.tmps) = true := by simp [Region.wanted, yields_guard hg hgv hk]
 rw [if_pos e1] at h1
 rw [if_pos e2]
 exact h1
end
theorem row_cells {α : Type} {S : Res} {X : List Value → α → Prop} {b n : Nat} {vs : List Value} {l : List α} (hrd : ∀ (i : Nat) v, vs[i]? = some v → Rd S ⟨b, i, none⟩ v) (hl : vs.length = l.length) (hn : l.length = n) (hm : n ≤ maxLen)
  (hx : ∀ (i : Nat) v x, vs[i]? = some v → l[i]? = some x → X [v] x) : Row S 1 X (.slice (some ⟨b, 0, none⟩) n n) l := by
 subst hn
 refine ⟨_, _, rfl, Nat.le_refl _, hm, (fun h => by cases h), fun i x hi => ?_⟩
 have hlt : i < vs.length := by rw [hl]; exact (List.getElem?_eq_some_iff.1 hi).1
 refine ⟨b, 0, [vs[i]], rfl, rfl, fun j hj => ?_, hx i _ x (List.getElem?_eq_getElem hlt) hi⟩
 have hj0 : j = 0 := by simpa using hj
 subst hj0
 have := hrd i vs[i] (List.getElem?_eq_getElem hlt)
 simpa using this
end Go.Ck
namespace Go.Wt
open Go Go.Ck Go.Proofs Go.Proofs.YtboepbencndobaaGreat Fx
attribute [local irreducible] St Cd Xt Nx DrL LsW
section
set_option maxRecDepth 100000 in
theorem menter_ct (s : Int) : Reads Tryz.prog 48 #[.int .i64 s] [] (.agg (mC (1, s, 0)).toArray) := by
 refine ct_of (n := 5) Tryz.func48 rfl rfl (len rfl) fun hr w0 => ?_
 refine cS (cR (st_alc al110 fun b2 => ?_))
 refine sN (nT (cS (cR (sV (vM rfl) (sV (v_build (cells := mC (1, s, 0)) rfl (fun _ => by kernel_rfl)) ?_)))))
 refine st_stoW rfl rfl sz110 rfl rfl ?_
 refine sN (nK [2] rfl (nT (cT ?_)))
 exact xt_retV (.cellN rfl ld110 rfl slq .nil) ⟨rfl, rfl⟩ sbr
set_option maxRecDepth 100000 in
theorem mput_ct (s j : Int) : Reads Tryz.prog 49 #[.int .i64 s, .int .i64 j] [] (.agg (mC (3, s, j)).toArray) := by
 refine ct_of (n := 8) Tryz.func49 rfl rfl (len rfl) fun hr w0 => ?_
 refine cS (cR (st_alc al110 fun b4 => ?_))
 refine sN (nT (cS (cR (sV (vM rfl) (sV (vM rfl) (sV (v_build (cells := mC (3, s, j)) rfl (fun _ => by kernel_rfl)) ?_))))))
 refine st_stoW rfl rfl sz110 rfl rfl ?_
 refine sN (nK [4] rfl (nT (cT ?_)))
 exact xt_retV (.cellN rfl ld110 rfl slq .nil) ⟨rfl, rfl⟩ sbr
set_option maxRecDepth 100000 in
theorem mask_ct (s j : Int) : Reads Tryz.prog 50 #[.int .i64 s, .int .i64 j] [] (.agg (mC (4, s, j)).toArray) := by
 refine ct_of (n := 8) Tryz.func50 rfl rfl (len rfl) fun hr w0 => ?_
 refine cS (cR (st_alc al110 fun b4 => ?_))
 refine sN (nT (cS (cR (sV (vM rfl) (sV (vM rfl) (sV (v_build (cells := mC (4, s, j)) rfl (fun _ => by kernel_rfl)) ?_))))))
 refine st_stoW rfl rfl sz110 rfl rfl ?_
 refine sN (nK [4] rfl (nT (cT ?_)))
 exact xt_retV (.cellN rfl ld110 rfl slq .nil) ⟨rfl, rfl⟩ sbr
set_option maxRecDepth 100000 in
theorem mspawn_ct (s j : Int) : Reads Tryz.prog 53 #[.int .i64 s, .int .i64 j] [] (.agg (mC (5, s, j)).toArray) := by
 refine ct_of (n := 8) Tryz.func53 rfl rfl (len rfl) fun hr w0 => ?_
 refine cS (cR (st_alc al110 fun b4 => ?_))
 refine sN (nT (cS (cR (sV (vM rfl) (sV (vM rfl) (sV (v_build (cells := mC (5, s, j)) rfl (fun _ => by kernel_rfl)) ?_))))))
 refine st_stoW rfl rfl sz110 rfl rfl ?_
 refine sN (nK [4] rfl (nT (cT ?_)))
 exact xt_retV (.cellN rfl ld110 rfl slq .nil) ⟨rfl, rfl⟩ sbr
set_option maxRecDepth 100000 in
theorem mleave_ct (_u : Unit) : Reads Tryz.prog 51 #[] [] (.agg (mC (2, 0, 0)).toArray) := by
 refine ct_of (n := 2) Tryz.func51 rfl rfl (len rfl) fun hr w0 => ?_
 refine cS (cR (st_alc al110 fun b0 => ?_))
 refine sN (nT (cS (cR (sV (v_build (cells := mC (2, 0, 0)) rfl (fun _ => by kernel_rfl)) ?_))))
 refine st_stoW rfl rfl sz110 rfl rfl ?_
 refine sN (nK [0] rfl (nT (cT ?_)))
 exact xt_retV (.cellN rfl ld110 rfl slq .nil) ⟨rfl, rfl⟩ sbr
end
end Go.Wt
