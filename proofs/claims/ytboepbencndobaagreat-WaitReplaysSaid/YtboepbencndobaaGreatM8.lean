/-
  Package wait: the processors that can go on, one by one. Conditions: what is read, that lists are not too long, what is done at each.
  Package wait: copied. Conditions: what is read, that lists are not too long.
  Package wait: line, hold. Conditions: what is read, that lists are not too long.
  A yard that is owned: one processor looked at, its queues. What bounds a yard. No condition.
  Package wait: put, leave. Conditions: what is owned, bounds.
  Package wait: leave. Conditions: what is owned, bounds.
  What leave, end, answer keep: bounds, how many wait. No condition.
  Package wait: end, answer. Conditions: what is owned, bounds.
-/
import Derived.Test.YtboepbencndobaaGreatM7
set_option linter.unusedVariables false
set_option linter.unusedSimpArgs false
namespace Go.Wt
open Go Go.Ck Go.Proofs Go.Proofs.YtboepbencndobaaGreat Fx
attribute [local irreducible] St Cd Xt Nx DrL LsW
theorem xt_pk {c : Cx} {ex : Exit} {Q : Exit → Act → World → Prop} {e : Env} {h k : SH} (p : h.Perm k) (hx : Xt c ex Q e k) : Xt c ex Q e h := xt_vw (fun _ hh => Holds.perm p hh) hx
theorem Yc.frame {P : Program} {l : Nat} {args : Array Value} {hf : SH} {R : Value → SH → Prop} (h : Yc P l args hf R) (r : Res) : Yc P l args (r :: hf) (fun v h' => ∃ k, h' = r :: k ∧ R v k) := fun hr w hh => by
 have h1 : Holds w (hf ++ (r :: hr)) := hh.perm (List.perm_middle (l₁ := hf)).symm
 exact opUpon_mono (fun v w' ⟨k, hR, hH, hS⟩ => ⟨r :: k, ⟨k, rfl, hR⟩, hH.perm (List.perm_middle (l₁ := k)), hS⟩) (h (r :: hr) w h1)
theorem Yc.mono {P : Program} {l : Nat} {args : Array Value} {hf : SH} {R R' : Value → SH → Prop} (h : Yc P l args hf R) (hr : ∀ v k, R v k → R' v k) : Yc P l args hf R' := fun x w hh => opUpon_mono (fun v w' ⟨k, h1, h2, h3⟩ => ⟨k, hr v k h1, h2, h3⟩) (h x w hh)
section
variable {S : Res}
set_option maxRecDepth 100000 in
theorem going1_ct {σ : Type} {jv pv : Value} {procs : List Proc} {b1 yl : Nat} (Inv : σ → SH) (Φ : Nat → σ → Prop) (Stop : Nat → SH → Prop) (s0 : σ) (h0 : Φ 0 s0) (hp : Row S 9 (procR S) pv procs) (hl : procs.length ≤ 1000000)
  (hy : ∀ (i : Nat) (s : σ) (hi : i < procs.length), (procs[i]).goes = true → Φ i s → Yc Tryz.prog yl #[.int .i64 i] (S :: Inv s) fun v h' => (v = .bool true ∧ ∃ s', Φ (i + 1) s' ∧ h' = S :: Inv s') ∨ (v = .bool false ∧ ∃ k, h' = S :: k ∧ Stop i k))
  (hn : ∀ (i : Nat) (s : σ) (hi : i < procs.length), (procs[i]).goes = false → Φ i s → Φ (i + 1) s) :
  Ct Tryz.prog 112 #[.func (.yield yl) #[] #[], .pointer (some ⟨b1, 0, none⟩)] (pt b1 (cl [jv, pv] 27) :: S :: Inv s0) fun u h' => u = .tuple #[] ∧ ((∃ s, Φ procs.length s ∧ h' = pt b1 (cl [jv, pv] 27) :: S :: Inv s) ∨ ∃ i k, Stop i k ∧ h' = pt b1 (cl [jv, pv] 27) :: S :: k) := by
 obtain ⟨ap, cp, rfl, _⟩ := id hp
 refine ct_of (n := 27) Tryz.func112 rfl rfl (len rfl) fun hr w0 => ?_
 refine cS (cR (sV (vF rfl fa27_1 rfl) (sV (vY rfl ld25) ?_)))
 refine sV (v_len rfl Tryz.underlying25) (sV (vM rfl) (sN (nK [0, 1, 7, 8] rfl (nT (cB (cd_lp (σ := Nat × σ) (fun q => [(0, .func (.yield yl) #[] #[]), (1, .pointer (some ⟨b1, 0, none⟩)), (7, .int .i64 procs.length), (8, .int .i64 (q.1 : Nat))]) (fun q => pt b1 (cl [jv, .slice ap procs.length cp] 27) :: S :: (Inv q.2 ++ hr)) (fun q => q.1 ≤ procs.length ∧ Φ q.1 q.2) (fun q => procs.length - q.1) (0, s0) ⟨Nat.zero_le _, h0⟩ ?_))))))
 rintro ⟨i, s⟩ ⟨hi, hΦ⟩
 simp only at hi hΦ
 refine cS (cR (sV (v_lss rfl rfl) (sN (nT (cS (cC rfl (fun hd => ?_) (fun hd => ?_)))))))
 ·skip
  refine cK (xT (cS (cB (cS (cR (sV (vM rfl) (sV (vA rfl) (sN (nK [0, 1, 3, 7, 8] rfl (nT (cS (cR ?_))))))))))))
  have hlt : i < procs.length := by simpa using hd
  refine sV (v_ldn rfl ld27 rfl rds_pt) ?_
  refine sV (vM rfl) (st_clr rfl rfl en68 rfl (state_ct hp hlt) ?_)
  refine sV (vA rfl) (sN (nK [0, 1, 3, 4, 7, 8] rfl (nT (cS ?_))))
  have hg0 : (procs[i]).goes = ((procs[i]).state == 1 || (procs[i]).state == 2) := rfl
  cases hgo : (procs[i]).goes
  ·skip
   rw [hgo] at hg0
   refine cR (sV (vM rfl) (sV (v_eql rfl rfl) (sV (vM rfl) (st_cut (k := 6) (d := 19) (v := .bool ((procs[i]).state == 1 || (procs[i]).state == 2)) (fun hcut => bool_want (b := ((procs[i]).state == 1)) false (fun hg => ?_) (fun hg => ?_)) ?_))))
   ·refine st_sk rfl rfl hg ?_
    refine st_sk rfl rfl hg ?_
    refine sV (vQ (bE rfl hg) rfl) ?_
    exact hcut _ (uH (by first | rfl | (rw [hg]; rfl) | simp_all) (uS rfl (uS rfl (uR))))
   ·skip
    refine sG rfl (bG rfl hg) (vM rfl) (sG rfl (bG rfl hg) (v_eql rfl rfl) (sV (vP (bE rfl hg) rfl) ?_))
    exact hcut _ (uH (by first | rfl | (rw [hg]; rfl) | simp_all) (uS rfl (uS rfl (uR))))
   refine sV (v_is (congrArg Value.bool hg0.symm) (vM rfl)) (st_sk rfl rfl rfl ?_)
   iterate 3 refine st_sk rfl rfl rfl ?_
   refine sV (vP rfl rfl) (sN (nK [0, 1, 7, 8, 25] rfl (nT (cd_false rfl ?_))))
   refine cK (xB (xT (cR (sV (v_add rfl rfl (by unfold I64 at *; omega)) (sV (vM rfl) (sN (nK [0, 1, 7, 8] rfl (nx_xt ?_))))))))
   refine xt_ag (i + 1, s) ⟨hlt, hn i s hlt hgo hΦ⟩ (by show _ - _ < _ - _; omega)
  ·skip
   rw [hgo] at hg0
   refine cR (sV (vM rfl) (sV (v_eql rfl rfl) (sV (vM rfl) (st_cut (k := 6) (d := 19) (v := .bool ((procs[i]).state == 1 || (procs[i]).state == 2)) (fun hcut => bool_want (b := ((procs[i]).state == 1)) false (fun hg => ?_) (fun hg => ?_)) ?_))))
   ·refine st_sk rfl rfl hg ?_
    refine st_sk rfl rfl hg ?_
    refine sV (vQ (bE rfl hg) rfl) ?_
    exact hcut _ (uH (by first | rfl | (rw [hg]; rfl) | simp_all) (uS rfl (uS rfl (uR))))
   ·skip
    refine sG rfl (bG rfl hg) (vM rfl) (sG rfl (bG rfl hg) (v_eql rfl rfl) (sV (vP (bE rfl hg) rfl) ?_))
    exact hcut _ (uH (by first | rfl | (rw [hg]; rfl) | simp_all) (uS rfl (uS rfl (uR))))
   refine sV (v_is (congrArg Value.bool hg0.symm) (vM rfl)) (sG rfl rfl (vM rfl) (sG rfl rfl (vM rfl) ?_))
   refine st_yield (gd := 20) (.inr ⟨_, _, rfl, rfl, rfl⟩) rfl rfl (hy i s hlt hgo hΦ) (Pk.of (hr := pt b1 (cl [jv, .slice ap procs.length cp] 27) :: hr) (by
    exact (List.perm_middle (l₁ := S :: Inv s)).symm)) (ltn rfl) ?_
   rintro v h' (⟨rfl, s', h1, rfl⟩ | ⟨rfl, k, rfl, h1⟩)
   ·skip
    refine sG rfl rfl (v_not rfl) (sV (vQ rfl rfl) (sN (nK [0, 1, 7, 8, 25] rfl (nT (cd_false rfl ?_)))))
    refine cK (xB (xT (cR (sV (v_add rfl rfl (by unfold I64 at *; omega)) (sV (vM rfl) (sN (nK [0, 1, 7, 8] rfl (nx_xt (xt_pk (k := pt b1 (cl [jv, .slice ap procs.length cp] 27) :: S :: (Inv s' ++ hr)) (by exact List.perm_middle (l₁ := S :: Inv s')) ?_)))))))))
    refine xt_ag (i + 1, s') ⟨hlt, h1⟩ (by show _ - _ < _ - _; omega)
   ·skip
    refine sG rfl rfl (v_not rfl) (sV (vQ rfl rfl) (sN (nK [0, 1, 7, 8, 25] rfl (nT (cd_true rfl ?_)))))
    refine cT (xW (xR (xR (xW (xt_pk (k := pt b1 (cl [jv, .slice ap procs.length cp] 27) :: S :: (k ++ hr)) (by exact List.perm_middle (l₁ := S :: k)) ?_)))))
    exact xt_rt rfl ⟨rfl, .inr ⟨i, k, h1, rfl⟩⟩
 ·skip
  refine cd_exit (xE (xE (xY ?_)))
  have hin : i = procs.length := by
   have : ¬ i < procs.length := by simpa using hd
   omega
  subst hin
  exact xt_en rfl ⟨rfl, .inl ⟨s, hΦ, rfl⟩⟩
def rdy (procs : List Proc) (i : Nat) : List Int := ((List.range i).filter fun k => (procs.getD k Proc.empty).goes).map fun (k : Nat) => (k : Int)
theorem rdy_yes {procs : List Proc} {i : Nat} (hi : i < procs.length) (h : (procs[i]).goes = true) : rdy procs (i + 1) = rdy procs i ++ [(i : Int)] := by
 unfold rdy
 rw [List.range_succ, List.filter_append, List.map_append]
 congr 1
 have : (procs.getD i Proc.empty).goes = true := by rw [List.getD_eq_getElem?_getD, List.getElem?_eq_getElem hi]; exact h
 rw [List.filter_cons_of_pos (p := fun k => (procs.getD k Proc.empty).goes) this]; rfl
theorem rdy_no {procs : List Proc} {i : Nat} (hi : i < procs.length) (h : (procs[i]).goes = false) : rdy procs (i + 1) = rdy procs i := by
 unfold rdy
 rw [List.range_succ, List.filter_append, List.map_append]
 have : (procs.getD i Proc.empty).goes = false := by rw [List.getD_eq_getElem?_getD, List.getElem?_eq_getElem hi]; exact h
 rw [List.filter_cons_of_neg (p := fun k => (procs.getD k Proc.empty).goes) (by rw [this]; decide)]; simp
theorem rdy_len (procs : List Proc) (i : Nat) : (rdy procs i).length ≤ i := by
 unfold rdy
 rw [List.length_map]
 exact Nat.le_trans (List.length_filter_le _ _) (by simp)
theorem ready_rdy (y : Yard) : y.ready.map (fun (k : Nat) => (k : Int)) = rdy y.procs y.procs.length := rfl
def seqv (b1 : Nat) : Value := .func (.func 112) #[] #[.pointer (some ⟨b1, 0, none⟩)]
set_option maxRecDepth 100000 in
theorem appseq_ct {jv pv : Value} {procs : List Proc} {b1 : Nat} (hp : Row S 9 (procR S) pv procs) (hl : procs.length ≤ 1000000) :
  Ct Tryz.prog 111 #[.slice none 0 0, seqv b1] [pt b1 (cl [jv, pv] 27), S] fun u h' => u.oneCell' = true ∧ h' = [pt b1 (cl [jv, pv] 27), S, VR u 3 1 ((rdy procs procs.length).map iC)] := by
 unfold seqv
 refine ct_ofM (n := 13) Tryz.func111 rfl rfl (len rfl) fun hr w0 => ?_
 refine cS (cR (st_bx rfl rfl fun b2 => ?_))
 refine sV (vA rfl) (sN (nK [1, 2, 4] rfl (nT (cS (cS (cR (sV (vM rfl) (sN (nK [2, 4, 6] rfl (nT (cB (cd_vw (vw_nil 3 1) (cd_range' rfl en112 fun yl db rec hst hpe hps has hbo hkn2 => ?_)))))))))))))
 refine ⟨_, Ct.perm (going1_ct (σ := Value × List Int) (yl := yl) (jv := jv) (b1 := b1) (fun q => pt yl (.loop rec) :: pt db (.deferred (some [])) :: VR q.1 3 1 (q.2.map iC) :: pt b2 (cl [q.1] 43) :: hr) (fun i q => q.1.oneCell' = true ∧ q.2 = rdy procs i) (fun _ _ => False) (.slice none 0 0, []) ⟨rfl, rfl⟩ hp hl ?_ ?_) ?_, ?_⟩
 ·rintro i ⟨v, l⟩ hi hg ⟨h1, h2⟩
  simp only at h1 h2
  have hll := rdy_len procs i
  rw [← h2] at hll
  refine Yc.mono (R := fun v h' => ∃ k, h' = S :: k ∧ ((v = .bool true ∧ ∃ s' : Value × List Int, (s'.1.oneCell' = true ∧ s'.2 = rdy procs (i + 1)) ∧ k = pt yl (.loop rec) :: pt db (.deferred (some [])) :: VR s'.1 3 1 (s'.2.map iC) :: pt b2 (cl [s'.1] 43) :: hr) ∨ (v = .bool false ∧ False))) (Yc.frame ?_ S) (fun v k h => by
   obtain ⟨k', rfl, (⟨h1, s', h2, rfl⟩ | ⟨_, h2⟩)⟩ := h
   ·exact .inl ⟨h1, s', h2, rfl⟩
   ·exact h2.elim)
  refine Yc.perm (yc_of (n := 13) (rec := rec) (args := [.int .i64 i]) (hf := pt db (.deferred (some [])) :: VR v 3 1 (l.map iC) :: pt b2 (cl [v] 43) :: hr) (by rw [hps]; rfl) hkn2 (by rw [hps]; decide) ?_) (List.Perm.refl _)
  intro hr2 w1
  rw [has, hps, hbo]
  simp only [List.cons_append, List.nil_append]
  refine cR (sV (vA rfl) (sN (nK [2, 4, 5] rfl (nx_xt (xt_mid rfl slq (by first | rfl | assumption) ?_)))))
  refine cB (cR (sV (vY rfl ld43) ?_))
  refine sV (vM rfl) (st_buildSlice (cells := [.int .i64 i]) rfl Tryz.underlying43 inf3 rfl rfl (by kernel_rfl) (ltn rfl) fun b10 => ?_)
  refine st_app [[.int .i64 i]] rfl rfl Tryz.underlying43 inf3 rfl (by decide) slq (by simp) rfl (fun j u2 hu2 => at_here (rd_cl (by simpa using hu2))) (by simp [Value.oneCell']) (by simp; omega) (by simp; omega) (ltn rfl) fun v' hv' _ => ?_
  refine st_sto rfl rfl sz43 ?_
  refine sN (nK [4] rfl (nx_xt (xB (xt_round slq (.inl ⟨rfl, (v', l ++ [(i : Int)]), ⟨hv', by rw [h2, rdy_yes hi hg]⟩, rfl⟩) ?_))))
  rw [rec_back hst hpe]
  dsimp only
  rw [List.map_append]
  exact sbr
 ·rintro i ⟨v, l⟩ hi hg ⟨h1, h2⟩
  exact ⟨h1, by rw [rdy_no hi hg]; exact h2⟩
 ·exact (by repeat (first | exact Pm.refl | refine Pm.cons slq ?_) : Pm _ _).perm
 ·rintro v' h' ⟨rfl, (⟨⟨v, l⟩, ⟨h1, h2⟩, rfl⟩ | ⟨_, _, hf, _⟩)⟩
  ·simp only at h1 h2
   subst h2
   refine ⟨rec, _, slq, (by rw [hst]; simp), ?_⟩
   rw [hpe]
   dsimp only
   refine xB (xT (cS (cR (sV (vY rfl ld43) ?_))))
   refine sV (vA rfl) (sN (nK [4] rfl (nT (cT ?_))))
   exact xt_retM (bs := [db]) rfl rfl ⟨h1, rfl⟩ sbr
  ·exact hf.elim
set_option maxRecDepth 100000 in
theorem collect_ct {jv pv : Value} {procs : List Proc} {b1 : Nat} (hp : Row S 9 (procR S) pv procs) (hl : procs.length ≤ 1000000) :
  Ct Tryz.prog 71 #[seqv b1] [pt b1 (cl [jv, pv] 27), S] fun u h' => u.oneCell' = true ∧ h' = [pt b1 (cl [jv, pv] 27), S, VR u 3 1 ((rdy procs procs.length).map iC)] := by
 refine ct_of (n := 5) Tryz.func71 rfl rfl (len rfl) fun hr w0 => ?_
 refine cS (cR (sV (vA rfl) (sN (nT (cS (cR (sV (vM rfl) (st_cl rfl rfl en111 rfl (appseq_ct hp hl) ?_))))))))
 rintro u h' ⟨h1, rfl⟩
 refine sV (vA rfl) (sN (nK [2] rfl (nT (cT ?_))))
 exact xt_rt rfl ⟨h1, rfl⟩
set_option maxRecDepth 100000 in
theorem going_ct {jv pv : Value} : Ct Tryz.prog 72 #[.agg #[jv, pv]] [] fun u h' => ∃ b1, u = seqv b1 ∧ h' = [pt b1 (cl [jv, pv] 27)] := by
 refine ct_of (n := 4) Tryz.func72 rfl rfl (len rfl) fun hr w0 => ?_
 refine cS (cR (st_bx rfl rfl fun b1 => ?_))
 refine sV (vA rfl) (sN (nK [1, 2] rfl (nT (cS (cR (sV (v_makeFunc rfl rfl) (sV (vA rfl) (sN (nK [2] rfl (nT (cT ?_)))))))))))
 exact xt_rt rfl ⟨b1, rfl, rfl⟩
def readyE (y : Yard) : List Int × Int := if y.right = true then (rdy y.procs y.procs.length, 0) else ([], 2)
set_option maxRecDepth 100000 in
theorem Ready_ct {ys : List Value} {y : Yard} (hy : yardR S ys y) (hf : Fit y) : CtN Tryz.prog 22 #[.agg ys.toArray] [S] fun u T => ∃ v, u = .tuple #[v, .int .i64 (readyE y).2] ∧ T = VR v 3 1 ((readyE y).1.map iC) := by
 obtain ⟨jv, pv, rfl, hj, hp⟩ := id hy
 unfold readyE
 refine ct_of (n := 13) Tryz.func22 rfl rfl (len rfl) fun hr w0 => ?_
 refine cS (cR (st_bx rfl rfl fun b1 => ?_))
 refine sV (vA rfl) (sV (vA rfl) (sN (nK [1, 2, 3] rfl (nT (cS (cS (cR (sV (v_ldn rfl ld27 rfl rds_pt) ?_))))))))
 refine st_clr rfl rfl en67 rfl (opened_ct (l := []) hy hf Row.nil (by simp)) ?_
 refine sV (vA rfl) (sN (nK [1, 2, 3, 4] rfl (nT (cS (cR (sV (vM rfl) (sV (v_neq rfl rfl) (sN (nK [1, 2, 3, 4, 8] rfl (nT ?_))))))))))
 rw [openedE_nil]
 refine cC rfl (fun h1 => ?_) (fun h1 => ?_)
 ·skip
  have h2 : ¬ y.right = true := fun h => by rw [if_pos h] at h1; cases h1
  refine cS (cR (sV (vM rfl) (sV (vA rfl) (sV (vA rfl) (sN (nK [1, 2, 3] rfl (nT (cT (xR ?_)))))))))
  rw [if_neg h2, if_neg h2]
  refine xt_vw (vw_nil 3 1) ?_
  exact xt_rt rfl ⟨VR (.slice none 0 0) 3 1 [], rfl, .slice none 0 0, rfl, rfl⟩
 ·skip
  have h2 : y.right = true := by
   cases hr : y.right with
   | true => rfl
   | false => rw [hr] at h1; cases h1
  rw [if_pos h2, if_pos h2]
  refine cK (xT (cS (cR (sV (v_ldn rfl ld27 rfl rds_pt) ?_))))
  refine st_cl rfl rfl en72 rfl (going_ct (jv := jv) (pv := pv)) ?_
  rintro u h' ⟨b4, rfl, rfl⟩
  refine st_cl rfl rfl en71 rfl (collect_ct (jv := jv) hp hf.2.1) ?_
  rintro u h' ⟨h3, rfl⟩
  refine sV (vA rfl) (sV (vA rfl) (sN (nK [2, 3] rfl (nT (cT ?_)))))
  exact xt_rt rfl ⟨_, rfl, _, rfl, rfl⟩
end
end Go.Wt
namespace Go.Wt
open Go Go.Ck Go.Proofs Go.Proofs.YtboepbencndobaaGreat Fx
attribute [local irreducible] Go.Ck.Sub St Cd Xt Nx DrL LsW
section
variable {S : Res}
theorem aC_one (l : List Ask) : ∀ us x, x ∈ l → eqC aC us x → ∀ u ∈ us, u.oneCell' = true := fun us x _ h u hu => by cases h; simp [aC] at hu; rcases hu with rfl | rfl <;> rfl
theorem hC_one (l : List Hold) : ∀ us x, x ∈ l → eqC holdC us x → ∀ u ∈ us, u.oneCell' = true := fun us x _ h u hu => by cases h; simp [holdC] at hu; rcases hu with rfl | rfl | rfl | rfl <;> rfl
theorem dC_one (l : List Did) : ∀ us x, x ∈ l → eqC dC us x → ∀ u ∈ us, u.oneCell' = true := fun us x _ h u hu => by cases h; simp [dC] at hu; rcases hu with rfl | rfl | rfl | rfl | rfl <;> rfl
theorem jobR_one (l : List (List Move)) : ∀ us x, x ∈ l → jobR S us x → ∀ u ∈ us, u.oneCell' = true := fun us x _ h u hu => by obtain ⟨v, rfl, h1⟩ := h; simp at hu; subst hu; exact h1.one
theorem lineR_one (l : List Line) : ∀ us x, x ∈ l → lineR S us x → ∀ u ∈ us, u.oneCell' = true := fun us x _ h u hu => by obtain ⟨v, rfl, h1⟩ := h; simp [lC] at hu; rcases hu with rfl | rfl | rfl | rfl | rfl <;> first | rfl | exact h1.one
theorem procR_one (l : List Proc) : ∀ us x, x ∈ l → procR S us x → ∀ u ∈ us, u.oneCell' = true := fun us x _ h u hu => by
 obtain ⟨v1, v2, v3, v4, rfl, h1, h2, h3, h4⟩ := h; simp [pC] at hu; rcases hu with rfl | rfl | rfl | rfl | rfl | rfl | rfl | rfl | rfl <;> first | rfl | exact h1.one | exact h2.one | exact h3.one | exact h4.one
theorem jobs_rows {rows : List (List Value)} {jobs : List (List Move)} (hl : rows.length = jobs.length) (h : ∀ (i : Nat) us x, rows[i]? = some us → jobs[i]? = some x → jobR S us x) :
  ∃ hs : List Value, rows = hs.map (fun h => [h]) ∧ hs.length = jobs.length ∧ ∀ (i : Nat) v l, hs[i]? = some v → jobs[i]? = some l → Row S 3 (eqC mC) v l := by
 induction rows generalizing jobs with
 | nil => exact ⟨[], rfl, hl, fun i v l h => by simp at h⟩
 | cons r t ih =>
  cases jobs with
  | nil => simp at hl
  | cons j js =>
   obtain ⟨hs, e1, e2, e3⟩ := ih (jobs := js) (by simpa using hl) fun i us x h1 h2 => h (i + 1) us x (by simpa using h1) (by simpa using h2)
   obtain ⟨v, rfl, hv⟩ := h 0 r j rfl rfl
   refine ⟨v :: hs, by rw [e1]; rfl, by simp [e2], fun i v2 l h1 h2 => ?_⟩
   cases i with
   | zero => simp at h1 h2; subst h1 h2; exact hv
   | succ i => exact e3 i v2 l (by simpa using h1) (by simpa using h2)
theorem lines_rows {rows : List (List Value)} {ls : List Line} (hl : rows.length = ls.length) (h : ∀ (i : Nat) us x, rows[i]? = some us → ls[i]? = some x → lineR S us x) :
  ∃ avs : List Value, rows = lrows avs ls ∧ avs.length = ls.length ∧ ∀ (i : Nat) v l, avs[i]? = some v → ls[i]? = some l → Row S 2 (eqC aC) v l.asks := by
 induction rows generalizing ls with
 | nil =>
  have : ls = [] := List.eq_nil_of_length_eq_zero (by simpa using hl.symm)
  subst this
  exact ⟨[], rfl, rfl, fun i v l h => by simp at h⟩
 | cons r t ih =>
  cases ls with
  | nil => simp at hl
  | cons j js =>
   obtain ⟨hs, e1, e2, e3⟩ := ih (ls := js) (by simpa using hl) fun i us x h1 h2 => h (i + 1) us x (by simpa using h1) (by simpa using h2)
   obtain ⟨v, rfl, hv⟩ := h 0 r j rfl rfl
   refine ⟨v :: hs, by rw [e1]; rfl, by simp [e2], fun i v2 l h1 h2 => ?_⟩
   cases i with
   | zero => simp at h1 h2; subst h1 h2; exact hv
   | succ i => exact e3 i v2 l (by simpa using h1) (by simpa using h2)
theorem take_set {α : Type} {l : List α} {i : Nat} {x : α} (h : i < l.length) : (l.set i x).take (i + 1) = l.take i ++ [x] := by
 apply List.ext_getElem?
 intro k
 rw [List.getElem?_take]
 by_cases hk : k < i
 ·rw [if_pos (by omega), List.getElem?_set, if_neg (by omega), List.getElem?_append_left (by simp; omega), List.getElem?_take, if_pos hk]
 ·by_cases hki : k = i
  ·subst hki
   rw [if_pos (by omega), List.getElem?_set, if_pos rfl, if_pos h, List.getElem?_append_right (by simp; omega)]
   simp [Nat.min_eq_left (Nat.le_of_lt h)]
  ·rw [if_neg (by omega), List.getElem?_eq_none]
   simp; omega
theorem set_at {α : Type} {l : List α} {i : Nat} (h : i < l.length) (x : α) : (l.set i x)[i]? = some x := by rw [List.getElem?_set, if_pos rfl, if_pos h]
theorem lrows_set {avs : List Value} {ls : List Line} {k : Nat} {l : Line} {u : Value} (h : ls[k]? = some l) : (lrows avs ls).set k (lC u l) = lrows (avs.set k u) ls := by
 unfold lrows
 apply List.ext_getElem?
 intro j
 rw [List.getElem?_set, List.length_zipWith]
 by_cases hj : k = j
 ·subst hj
  have hk := (List.getElem?_eq_some_iff.1 h).1
  rw [if_pos rfl, List.getElem?_zipWith, h, List.getElem?_set, if_pos rfl]
  by_cases hka : k < avs.length
  ·rw [if_pos (by omega), if_pos hka]
  ·rw [if_neg (by omega), if_neg hka]
 ·rw [if_neg hj, List.getElem?_zipWith, List.getElem?_zipWith, List.getElem?_set, if_neg hj]
theorem arows_snoc {avs : List Value} {ls : List Line} {v : Value} {l : Line} (h : avs.length = ls.length) : arows (avs ++ [v]) (ls ++ [l]) = arows avs ls ++ [VR v 117 2 (l.asks.map aC)] := by unfold arows; rw [List.zipWith_append h]; rfl
set_option maxHeartbeats 2000000 in
set_option maxRecDepth 100000 in
theorem copied_ct {ys : List Value} {y : Yard} (hy : yardR S ys y) (hf : Fit y) : Ct Tryz.prog 75 #[.agg ys.toArray] [S] fun u h' => ∃ jv pv H hs, u = .agg #[jv, pv] ∧ h' = JO jv hs y.jobs ++ (YO pv y.procs.length H y.pr ++ [S]) := by
 obtain ⟨jv, pv, rfl, hj, hp⟩ := id hy
 obtain ⟨⟨hf1, hf2⟩, hfp, hfpp⟩ := id hf
 refine ct_of (n := 100) Tryz.func75 rfl rfl (len rfl) fun hr w0 => ?_
 refine cS (cR (st_bx rfl rfl fun b1 => ?_))
 refine st_alc al27 fun b2 => ?_
 refine sN (nK [1, 2] rfl (nT (cS (cd_drawh (ork [(0, 2), (1, 1), (3, 2), (4, 1), (2, 0), (6, 2), (5, 0), (7, 0), (8, 2), (9, 0)] .nil) (fun i => !(Nat.beq i 5 || Nat.beq i 7 || Nat.beq i 9)) mixed (by kernel_rfl) ?_))))
 refine dV rfl (vF rfl fa27_0 rfl) (dr_v rfl (vY rfl ld22) ?_)
 refine dV rfl (vF rfl fa27_1 rfl) (dr_v rfl (vY rfl ld25) ?_)
 refine dr_eff rfl (st_cl rfl rfl en114 rfl (clone114_ct hj hf1 (jobR_one _)) ?_)
 rintro u10 h' ⟨T, rfl, ⟨hu10, rows1, rfl, hl1, hr1⟩⟩
 refine dr_nx ?_
 refine dV rfl (vF rfl fa27_0 rfl) (dr_eff rfl (st_cl rfl rfl en115 rfl (clone115_ct hp hfp (procR_one _)) ?_))
 rintro u13 h' ⟨T, rfl, ⟨hu13, rows2, rfl, hl2, hr2⟩⟩
 refine dr_nx ?_
 refine dr_eff rfl (st_sto rfl rfl sz22 (dr_nx ?_))
 refine dV rfl (vF rfl fa27_1 rfl) (dr_eff rfl (st_sto rfl rfl sz25 (dr_nx ?_)))
 refine dr_nil (nK [1, 2] rfl (nT (cS (cS ?_))))
 obtain ⟨hs0, rfl, hs0l, hs0r⟩ := jobs_rows hl1 hr1
 refine cd_rowf (v := u10) slq fun ja jc hju _ _ => ?_
 refine cd_rowf (v := u13) slq fun pa pc hpu _ _ => ?_
 simp only [List.length_map, hs0l, hl2] at hju hpu
 subst hju hpu
 refine cR (sV (vF rfl fa27_0 rfl) (sV (vY rfl ld22) ?_))
 refine sV (v_len rfl Tryz.underlying22) (sV (vM rfl) (sN (nK [1, 2, 17, 18, 19] rfl (nT (cB (cd_pv (pv_add (triv_star (L := []) (fun r h => by cases h))) ?_))))))
 refine cd_lp (σ := Nat × List Value) (fun q => [(1, .pointer (some ⟨b1, 0, none⟩)), (2, .pointer (some ⟨b2, 0, none⟩)), (17, .slice ja y.jobs.length jc), (18, .int .i64 y.jobs.length), (19, .int .i64 (q.1 : Nat))]) (fun q => pt b1 (cl [.slice ja y.jobs.length jc, .slice pa y.procs.length pc] 27) :: VR (.slice ja y.jobs.length jc) 108 1 (q.2.map fun h => [h]) :: Res.star (jrows (q.2.take q.1) (y.jobs.take q.1)) :: VR (.slice pa y.procs.length pc) 77 9 rows2 :: pt b2 (cl [.slice none 0 0, .slice none 0 0] 27) :: S :: hr) (fun q => q.1 ≤ y.jobs.length ∧ q.2.length = y.jobs.length ∧ ∀ (k : Nat) v l, q.1 ≤ k → q.2[k]? = some v → y.jobs[k]? = some l → Row S 3 (eqC mC) v l) (fun q => y.jobs.length - q.1) (0, hs0) ⟨Nat.zero_le _, hs0l, fun k v l _ => hs0r k v l⟩ ?_
 rintro ⟨i, hs⟩ ⟨hi, hsl, hsr⟩
 simp only at hi hsl hsr
 dsimp only
 refine cS (cR (sV (v_lss rfl rfl) (sN (nT (cS (cC rfl (fun hd => ?_) (fun hd => ?_)))))))
 ·skip
  have hlt : i < y.jobs.length := by simpa using hd
  refine cd_row (v := .slice ja y.jobs.length jc) slq (fun _ h0 => by rw [List.map_eq_nil_iff.1 h0] at hsl; simp at hsl; omega) (fun jb jo jc2 hve hjl _ => ?_)
  simp only [List.length_map, hsl, Value.slice.injEq] at hve
  obtain ⟨rfl, _, rfl⟩ := hve
  have hsi : hs[i]? = some hs[i] := List.getElem?_eq_getElem (by omega)
  have hrow : (hs.map fun h => [h])[i]? = some [hs[i]] := by simp [hsi]
  have hRd : Rd (VR (.slice (some ⟨jb, jo, none⟩) y.jobs.length jc) 108 1 (hs.map fun h => [h])) ⟨jb, jo + i * 1, none⟩ hs[i] := by
   have := rd_vrk (E := 108) (b := jb) (o := jo) (n := y.jobs.length) (cp := jc) (sz := 1) (k := 0) hrow rfl
   exact this
  have hj3 := hsr i hs[i] y.jobs[i] (Nat.le_refl _) hsi (List.getElem?_eq_getElem hlt)
  have hl3 := hf2 _ (List.getElem_mem hlt)
  generalize hje : y.jobs[i] = l at *
  refine cK (xT (cS (cB (cS (cR (sV (vM rfl) (sV (vI (k := i) rfl rfl sl22 rfl hlt rfl) (sV (vY rfl ld108) ?_))))))))
  refine sV (vA rfl) (sV (vA rfl) (sN (nK [1, 2, 3, 4, 17, 18, 19] rfl (nT (cd_drawh (ork [(0, 2), (1, 1), (2, 2), (3, 2), (4, 0), (5, 2), (6, 0)] .nil) (fun i => !(Nat.beq i 6)) mixed (by kernel_rfl) ?_)))))
  refine dV rfl (vF rfl fa27_0 rfl) (dr_v rfl (vY rfl ld22) ?_)
  refine dV rfl (vM rfl) (dV rfl (vM rfl) (dr_eff rfl (st_cl rfl rfl en54 rfl (clone54_ct hj3 hl3 (mC_one _)) ?_)))
  rintro u28 h' ⟨T, rfl, hT⟩
  obtain ⟨rfl, hu28⟩ := hT.eqC
  refine dr_nx ?_
  refine dV rfl (vI (k := i) rfl rfl sl22 rfl hlt rfl) (dr_eff rfl (st_vr (sz := 1) (m := i) (k := 0) rfl rfl sz108 hu28 hrow (by decide) rfl slq (dr_nx ?_)))
  refine dr_nil (nK [1, 2, 17, 18, 19] rfl (nx_xt (xB (xT (cR (sV (v_add rfl rfl (by unfold I64 at *; omega)) (sV (vM rfl) (sN (nK [1, 2, 17, 18, 19] rfl (nx_xt ?_))))))))))
  have e2 : ((hs.map fun h => [h]).set i ([hs[i]].set 0 u28)) = (hs.set i u28).map fun h => [h] := by rw [List.map_set]; rfl
  rw [e2]
  refine xt_pv (pv_snoc (L := jrows (hs.take i) (y.jobs.take i)) (r := VR u28 110 3 (l.map mC))) ?_
  have e3 : jrows (hs.take i) (y.jobs.take i) ++ [VR u28 110 3 (l.map mC)] = jrows ((hs.set i u28).take (i + 1)) (y.jobs.take (i + 1)) := by
   rw [take_set (by omega), List.take_succ_eq_append_getElem hlt, hje, jrows_snoc (by simp; omega)]
  rw [e3]
  refine xt_ag (i + 1, hs.set i u28) ⟨hlt, by simp [hsl], fun k v l hk h1 h2 => hsr k v l (by show i ≤ k; have : i + 1 ≤ k := hk; omega) (by rw [← h1, List.getElem?_set, if_neg (by have : i + 1 ≤ k := hk; omega)]) h2⟩ (by show _ - _ < _ - _; omega)
 ·skip
  have hij : i = y.jobs.length := by
   have : ¬ i < y.jobs.length := by simpa using hd
   omega
  subst hij
  rw [List.take_of_length_le (by omega), List.take_of_length_le (Nat.le_refl _)]
  refine cd_exit (xE (xE (xY (xT (cS (cS (cR (sV (vF rfl fa27_1 rfl) (sV (vY rfl ld25) ?_)))))))))
  refine sV (v_len rfl Tryz.underlying25) (sV (vM rfl) (sN (nK [1, 2, 33, 34] rfl (nT (cB (cd_pv (pv_add (triv_star (L := []) (fun r h => by cases h))) ?_))))))
  refine cd_lp (σ := Nat × (Nat → PH) × List (List Value)) (fun q => [(1, .pointer (some ⟨b1, 0, none⟩)), (2, .pointer (some ⟨b2, 0, none⟩)), (33, .int .i64 y.procs.length), (34, .int .i64 (q.1 : Nat))]) (fun q => pt b1 (cl [.slice ja y.jobs.length jc, .slice pa y.procs.length pc] 27) :: VR (.slice pa y.procs.length pc) 77 9 q.2.2 :: Res.star ((List.range q.1).map fun k => PR (q.2.1 k) (y.pr k)) :: VR (.slice ja y.jobs.length jc) 108 1 (hs.map fun h => [h]) :: Res.star (jrows hs y.jobs) :: pt b2 (cl [.slice none 0 0, .slice none 0 0] 27) :: S :: hr) (fun q => q.1 ≤ y.procs.length ∧ q.2.2.length = y.procs.length ∧ (∀ k, k < q.1 → q.2.2[k]? = some (hpC (q.2.1 k) (y.pr k))) ∧ ∀ (k : Nat) us p, q.1 ≤ k → q.2.2[k]? = some us → y.procs[k]? = some p → procR S us p) (fun q => y.procs.length - q.1) (0, (fun _ => PH.nil), rows2) ⟨Nat.zero_le _, hl2, fun k hk => absurd hk (Nat.not_lt_zero _), fun k us p _ => hr2 k us p⟩ ?_
  rintro ⟨i, H, rows⟩ ⟨hi, hrl, hdone, hrest⟩
  simp only at hi hrl hdone hrest
  dsimp only
  refine cS (cR (sV (v_lss rfl rfl) (sN (nT (cS (cC rfl (fun hd2 => ?_) (fun hd2 => ?_)))))))
  ·skip
   have hlt : i < y.procs.length := by simpa using hd2
   refine cd_row (v := .slice pa y.procs.length pc) slq (fun _ h0 => by rw [h0] at hrl; simp at hrl; omega) (fun pb po pc2 hve hjl _ => ?_)
   simp only [hrl, Value.slice.injEq] at hve
   obtain ⟨rfl, _, rfl⟩ := hve
   have hri : rows[i]? = some rows[i] := List.getElem?_eq_getElem (by omega)
   obtain ⟨lv, pv', hv, dv, hus, hL, hP, hH, hD⟩ := hrest i rows[i] y.procs[i] (Nat.le_refl _) hri (List.getElem?_eq_getElem hlt)
   have hfp1 := hfpp _ (List.getElem_mem hlt)
   have hpr := pr_get hlt
   rw [hus] at hri
   generalize hpe : y.procs[i] = p at *
   obtain ⟨hq1, hq2, hq3, hq4, hq5⟩ := hfp1
   have g0 := rd_vrk (E := 77) (b := pb) (o := po) (n := y.procs.length) (cp := pc) (sz := 9) (k := 0) hri rfl
   have g1 := rd_vrk (E := 77) (b := pb) (o := po) (n := y.procs.length) (cp := pc) (sz := 9) (k := 1) hri rfl
   have g5 := rd_vrk (E := 77) (b := pb) (o := po) (n := y.procs.length) (cp := pc) (sz := 9) (k := 5) hri rfl
   have g8 := rd_vrk (E := 77) (b := pb) (o := po) (n := y.procs.length) (cp := pc) (sz := 9) (k := 8) hri rfl
   refine cK (xT (cS (cB (cS (cR (sV (vM rfl) (sV (vA rfl) (sN (nK [1, 2, 5, 33, 34] rfl (nT (cS (cR (sV (vF rfl fa27_1 rfl) (sV (vY rfl ld25) ?_))))))))))))))
   refine sV (vM rfl) (sV (vI (k := i) rfl rfl sl25 rfl hlt rfl) (sV (vA rfl) (sN (nK [1, 2, 6, 33, 34] rfl (nT (cS (cd_drawh (ork [(0, 2), (1, 2), (2, 2), (3, 2), (4, 2), (5, 2), (6, 2), (7, 1), (9, 2), (10, 2), (11, 2), (12, 1), (14, 2), (15, 2), (16, 2), (17, 1), (19, 2), (20, 2), (21, 2), (22, 1), (8, 0), (13, 0), (18, 0), (23, 0), (24, 2), (25, 2), (26, 0), (27, 2), (28, 2), (29, 0), (30, 2), (31, 2), (32, 0), (33, 2), (34, 2), (35, 0)] .nil) (fun i => !(Nat.beq i 23 || Nat.beq i 26 || Nat.beq i 29 || Nat.beq i 32 || Nat.beq i 35)) mixed (by kernel_rfl) ?_)))))))
   refine dV rfl (vM rfl) (dV rfl (vM rfl) (dV rfl (vM rfl) (dV rfl (vM rfl) (dV rfl (vM rfl) (dV rfl (vN rfl) (dV rfl (vF rfl fa77_0 rfl) (dr_v rfl (vY rfl ld73) ?_)))))))
   refine dV rfl (vM rfl) (dV rfl (vN rfl) (dV rfl (vF rfl fa77_1 rfl) (dr_v rfl (vY rfl ld74) ?_)))
   refine dV rfl (vM rfl) (dV rfl (vN rfl) (dV rfl (vF rfl fa77_5 rfl) (dr_v rfl (vY rfl ld75) ?_)))
   refine dV rfl (vM rfl) (dV rfl (vN rfl) (dV rfl (vF rfl fa77_8 rfl) (dr_v rfl (vY rfl ld62) ?_)))
   refine dr_eff rfl (st_cl rfl rfl en116 rfl (clone116_ct hL hq1 (lineR_one _)) ?_)
   rintro u49 h' ⟨T, rfl, ⟨hu49, rows3, rfl, hl3, hr3⟩⟩
   refine dr_nx ?_
   refine dr_eff rfl (st_cl rfl rfl en82 rfl (clone82_ct hP hq2 (kC_one _)) ?_)
   rintro u54 h' ⟨T, rfl, hT⟩
   obtain ⟨rfl, hu54⟩ := hT.eqC
   refine dr_nx ?_
   refine dr_eff rfl (st_cl rfl rfl en117 rfl (clone117_ct hH hq3 (hC_one _)) ?_)
   rintro u59 h' ⟨T, rfl, hT⟩
   obtain ⟨rfl, hu59⟩ := hT.eqC
   refine dr_nx ?_
   refine dr_eff rfl (st_cl rfl rfl en118 rfl (clone118_ct hD hq4 (dC_one _)) ?_)
   rintro u64 h' ⟨T, rfl, hT⟩
   obtain ⟨rfl, hu64⟩ := hT.eqC
   refine dr_nx ?_
   refine dV rfl (vN rfl) (dV rfl (vF rfl fa77_0 rfl) (dr_eff rfl (st_vr (sz := 9) (m := i) (k := 0) rfl rfl sz73 hu49 hri (by decide) rfl slq (dr_nx ?_))))
   refine dV rfl (vN rfl) (dV rfl (vF rfl fa77_1 rfl) (dr_eff rfl (st_vr (sz := 9) (m := i) (k := 1) (rows := rows.set i (pC u49 pv' hv dv p)) (r := pC u49 pv' hv dv p) rfl rfl sz74 hu54 (set_at (by omega) _) (by decide) (List.set_set _) slq (dr_nx ?_))))
   refine dV rfl (vN rfl) (dV rfl (vF rfl fa77_5 rfl) (dr_eff rfl (st_vr (sz := 9) (m := i) (k := 5) (rows := rows.set i (pC u49 u54 hv dv p)) (r := pC u49 u54 hv dv p) rfl rfl sz75 hu59 (set_at (by omega) _) (by decide) (List.set_set _) slq (dr_nx ?_))))
   refine dV rfl (vN rfl) (dV rfl (vF rfl fa77_8 rfl) (dr_eff rfl (st_vr (sz := 9) (m := i) (k := 8) (rows := rows.set i (pC u49 u54 u59 dv p)) (r := pC u49 u54 u59 dv p) rfl rfl sz62 hu64 (set_at (by omega) _) (by decide) (List.set_set _) slq (dr_nx ?_))))
   refine dr_nil (nK [1, 2, 6, 33, 34] rfl (nT (cS ?_)))
   obtain ⟨avs0, rfl, avs0l, avs0r⟩ := lines_rows hl3 hr3
   refine cd_rowf (v := u49) slq fun la lc hlu _ _ => ?_
   simp only [hl3] at hlu
   subst hlu
   have f0 : Rd (VR (.slice (some ⟨pb, po, none⟩) y.procs.length pc) 77 9 (rows.set i (pC (.slice la p.lines.length lc) u54 u59 u64 p))) ⟨pb, po + i * 9 + 0, none⟩ (.slice la p.lines.length lc) := rd_vrk (m := i) (k := 0) (set_at (by omega) _) rfl
   refine cR (sV (vM rfl) (sV (vN rfl) (sV (vF rfl fa77_0 rfl) (sV (vY rfl ld73) ?_))))
   refine sV (v_len rfl Tryz.underlying73) (sV (vM rfl) (sN (nK [1, 2, 6, 33, 34, 77, 78] rfl (nT (cB (cd_pv (pv_add (triv_star (L := []) (fun r h => by cases h))) ?_))))))
   refine cd_lp (σ := Nat × List Value) (fun q => [(1, .pointer (some ⟨b1, 0, none⟩)), (2, .pointer (some ⟨b2, 0, none⟩)), (6, .pointer (some ⟨pb, po + i * 9, none⟩)), (33, .int .i64 y.procs.length), (34, .int .i64 (i : Nat)), (77, .int .i64 p.lines.length), (78, .int .i64 (q.1 : Nat))]) (fun q => VR (.slice (some ⟨pb, po, none⟩) y.procs.length pc) 77 9 (rows.set i (pC (.slice la p.lines.length lc) u54 u59 u64 p)) :: VR (.slice la p.lines.length lc) 120 5 (lrows q.2 p.lines) :: Res.star (arows (q.2.take q.1) (p.lines.take q.1)) :: VR u64 81 5 (p.did.map dC) :: VR u59 161 4 (p.holds.map holdC) :: VR u54 79 2 (p.puts.map kC) :: pt b1 (cl [.slice ja y.jobs.length jc, .slice (some ⟨pb, po, none⟩) y.procs.length pc] 27) :: Res.star ((List.range i).map fun k => PR (H k) (y.pr k)) :: VR (.slice ja y.jobs.length jc) 108 1 (hs.map fun h => [h]) :: Res.star (jrows hs y.jobs) :: pt b2 (cl [.slice none 0 0, .slice none 0 0] 27) :: S :: hr) (fun q => q.1 ≤ p.lines.length ∧ q.2.length = p.lines.length ∧ ∀ (k : Nat) v l, q.1 ≤ k → q.2[k]? = some v → p.lines[k]? = some l → Row S 2 (eqC aC) v l.asks) (fun q => p.lines.length - q.1) (0, avs0) ⟨Nat.zero_le _, avs0l, fun k v l _ => avs0r k v l⟩ ?_
   rintro ⟨k, avs⟩ ⟨hk, hal, har⟩
   simp only at hk hal har
   dsimp only
   refine cS (cR (sV (v_lss rfl rfl) (sN (nT (cS (cC rfl (fun hd3 => ?_) (fun hd3 => ?_)))))))
   ·skip
    have hkt : k < p.lines.length := by simpa using hd3
    have hlen3 : (lrows avs p.lines).length = p.lines.length := by simp [lrows, hal]
    refine cd_row (v := .slice la p.lines.length lc) slq (fun _ h0 => by rw [h0] at hlen3; simp at hlen3; omega) (fun lb lo lc2 hve2 _ _ => ?_)
    simp only [hlen3, Value.slice.injEq] at hve2
    obtain ⟨rfl, _, rfl⟩ := hve2
    have hki : avs[k]? = some avs[k] := List.getElem?_eq_getElem (by omega)
    have hkl : p.lines[k]? = some p.lines[k] := List.getElem?_eq_getElem hkt
    have hrow : (lrows avs p.lines)[k]? = some (lC avs[k] p.lines[k]) := by simp [lrows, List.getElem?_zipWith, hki, hkl]
    have hA := har k avs[k] p.lines[k] (Nat.le_refl _) hki hkl
    have hal3 := hq5 _ (List.getElem_mem hkt)
    generalize hle : p.lines[k] = l at *
    have f1 := rd_vrk (E := 120) (b := lb) (o := lo) (n := p.lines.length) (cp := lc) (sz := 5) (k := 2) hrow rfl
    refine cK (xT (cS (cB (cS (cR (sV (vM rfl) (sV (vA rfl) (sN (nK [1, 2, 6, 7, 33, 34, 77, 78] rfl (nT (cd_drawh (ork [(0, 2), (1, 2), (2, 2), (3, 1), (4, 2), (5, 2), (6, 2), (7, 2), (8, 1), (9, 2), (10, 2), (11, 2), (12, 1), (13, 0), (14, 2), (15, 2), (16, 0)] .nil) (fun i => !(Nat.beq i 16)) mixed (by kernel_rfl) ?_)))))))))))
    refine dV rfl (vM rfl) (dV rfl (vN rfl) (dV rfl (vF rfl fa77_0 rfl) (dr_v rfl (vY rfl ld73) ?_)))
    refine dV rfl (vM rfl) (dV rfl (vM rfl) (dV rfl (vN rfl) (dV rfl (vF rfl fa77_0 rfl) (dr_v rfl (vY rfl ld73) ?_))))
    refine dV rfl (vM rfl) (dV rfl (vI (k := k) rfl rfl sl73 rfl hkt rfl) (dV rfl (vF rfl fa120_1 rfl) (dr_v rfl (vY rfl ld118) ?_)))
    refine dr_eff rfl (st_cl rfl rfl en119 rfl (clone119_ct hA hal3 (aC_one _)) ?_)
    rintro u94 h' ⟨T, rfl, hT⟩
    obtain ⟨rfl, hu94⟩ := hT.eqC
    refine dr_nx ?_
    refine dV rfl (vI (k := k) rfl rfl sl73 rfl hkt rfl) (dV rfl (vF rfl fa120_1 rfl) (dr_eff rfl (st_vr (sz := 5) (m := k) (k := 2) rfl rfl sz118 hu94 hrow (by decide) rfl slq (dr_nx ?_))))
    refine dr_nil (nK [1, 2, 6, 33, 34, 77, 78] rfl (nx_xt (xB (xT (cR (sV (v_add rfl rfl (by unfold I64 at *; omega)) (sV (vM rfl) (sN (nK [1, 2, 6, 33, 34, 77, 78] rfl (nx_xt ?_))))))))))
    have e2 : (lrows avs p.lines).set k ((lC avs[k] l).set 2 u94) = lrows (avs.set k u94) p.lines := lrows_set hkl
    rw [e2]
    refine xt_pv (pv_snoc (L := arows (avs.take k) (p.lines.take k)) (r := VR u94 117 2 (l.asks.map aC))) ?_
    have e3 : arows (avs.take k) (p.lines.take k) ++ [VR u94 117 2 (l.asks.map aC)] = arows ((avs.set k u94).take (k + 1)) (p.lines.take (k + 1)) := by
     rw [take_set (by omega), List.take_succ_eq_append_getElem hkt, hle, arows_snoc (by simp; omega)]
    rw [e3]
    refine xt_ag (k + 1, avs.set k u94) ⟨hkt, by simp [hal], fun j v l hj h1 h2 => har j v l (by show k ≤ j; have : k + 1 ≤ j := hj; omega) (by rw [← h1, List.getElem?_set, if_neg (by have : k + 1 ≤ j := hj; omega)]) h2⟩ (by show _ - _ < _ - _; omega)
   ·skip
    have hkj : k = p.lines.length := by
     have : ¬ k < p.lines.length := by simpa using hd3
     omega
    subst hkj
    rw [List.take_of_length_le (by omega), List.take_of_length_le (Nat.le_refl _)]
    refine cd_exit (xE (xE (xY (xB (xT (cR (sV (v_add rfl rfl (by unfold I64 at *; omega)) (sV (vM rfl) (sN (nK [1, 2, 33, 34] rfl (nx_xt (xt_pv (pv_add (triv_pure (φ := avs.length = p.lines.length) hal)) ?_))))))))))))
    refine xt_pv (pv_pack (L := prl ⟨.slice la p.lines.length lc, u54, u59, u64, avs⟩ p)) ?_
    refine xt_pv (pv_snoc (L := (List.range i).map fun k => PR (H k) (y.pr k)) (r := PR ⟨.slice la p.lines.length lc, u54, u59, u64, avs⟩ p)) ?_
    have e4 : ((List.range i).map fun k => PR (H k) (y.pr k)) ++ [PR ⟨.slice la p.lines.length lc, u54, u59, u64, avs⟩ p] = (List.range (i + 1)).map fun k => PR (upd H i ⟨.slice la p.lines.length lc, u54, u59, u64, avs⟩ k) (y.pr k) := by
     rw [List.range_succ, List.map_append]
     congr 1
     ·exact List.map_congr_left fun j hj => by rw [upd_ne _ _ (by have := List.mem_range.1 hj; omega)]
     ·rw [List.map_singleton, upd_same, hpr]
    rw [e4]
    refine xt_ag (i + 1, upd H i ⟨.slice la p.lines.length lc, u54, u59, u64, avs⟩, rows.set i (pC (.slice la p.lines.length lc) u54 u59 u64 p)) ⟨hlt, by simp [hrl], fun j hj => ?_, fun j us q hj h1 h2 => hrest j us q (by show i ≤ j; have : i + 1 ≤ j := hj; omega) (by rw [← h1, List.getElem?_set, if_neg (by have : i + 1 ≤ j := hj; omega)]) h2⟩ (by show _ - _ < _ - _; omega)
    show (rows.set i _)[j]? = some (hpC (upd H i _ j) (y.pr j))
    by_cases hji : j = i
    ·subst hji; rw [set_at (by omega), upd_same, hpr]; rfl
    ·rw [List.getElem?_set, if_neg (Ne.symm hji), upd_ne _ _ hji]; exact hdone j (by have : j < i + 1 := hj; omega)
  ·skip
   have hin : i = y.procs.length := by
    have : ¬ i < y.procs.length := by simpa using hd2
    omega
   subst hin
   have e5 : rows = (List.range y.procs.length).map fun k => hpC (H k) (y.pr k) := by
    apply List.ext_getElem?
    intro j
    rw [List.getElem?_map]
    by_cases hj : j < y.procs.length
    ·rw [hdone j hj, List.getElem?_range hj]; rfl
    ·rw [List.getElem?_eq_none (by omega), List.getElem?_eq_none (by simp; omega)]; rfl
   rw [e5]
   refine cd_exit (xE (xE (xY (xT (cS (cR (sV (v_ldn rfl ld27 rfl rds_pt) ?_)))))))
   refine st_stoW rfl rfl sz27 rfl rfl ?_
   refine sN (nK [2] rfl (nT (cT (xt_pv (pv_add (triv_pure (φ := hs.length = y.jobs.length) hsl)) ?_))))
   exact xt_retV (.cellN rfl ld27 rfl slq .nil) ⟨.slice ja y.jobs.length jc, .slice pa y.procs.length pc, H, hs, rfl, rfl⟩ sbr
end
end Go.Wt
namespace Go.Ck
open Go
section
variable {P : Program} {r : Option Nat} {n : Nat} {w0 : World} {hr : SH} {R : Value → SH → Prop} {fn : Func} {e : Env} {h h' k : SH} {vs : List Value} {bs : List Nat} {ds : List Deferred}
theorem xt_retMV (hds : ds = bs.map mk) (hv : ResV P k e fn.results.toList vs) (hR : R (outOf vs) h') (hk : Sub (h' ++ hr) k) (hp : Sub (marks bs ++ k) h) : Xt ⟨P, r, n, ds, w0⟩ .ret (bodyPostM (Fw none) 0 P fn (Post w0 hr R)) e h :=
 fun a w hk' hh hw => by
  show LeavesInM (Fw none) 0 P fn a.tmps _ a.defers .returning w
  rw [hk'.defers, hds]
  exact leavesM bs w (hh.sub hp) hw fun w' h1 h2 => ⟨_, run_resultsV hk' hv h1, _, h', rfl, hR, h1.sub hk, h2⟩
end
end Go.Ck
namespace Go.Wt
open Go Go.Ck Go.Proofs Go.Proofs.YtboepbencndobaaGreat Fx
attribute [local irreducible] St Cd Xt Nx DrL LsW
def yv (b : Nat) : Value := .agg #[.pointer (some ⟨b, 0, none⟩)]
def lptr (lv : Value) : Option Nat → Value
 | none => .pointer none
 | some j => match lv with
  | .slice (some ⟨lb, lo, _⟩) _ _ => .pointer (some ⟨lb, lo + j * 5, none⟩)
  | _ => .pointer none
theorem ixF_line (p : Proc) (k : Key) : ixF (fun l : Line => l.key == k) p.lines = match p.line k with | some i => (i : Int) | none => -1 := rfl
section
variable {S : Res}
set_option maxRecDepth 100000 in
theorem linek_ct {S' : Res} {us : List Value} {l : Line} {k : Key} {bk : Nat} (hl : lineR S' us l) : Reads Tryz.prog 191 #[.agg us.toArray, .pointer (some ⟨bk, 0, none⟩)] [pt bk (cl (kC k) 79), S] (.bool (l.key == k)) := by
 obtain ⟨av, rfl, _⟩ := hl
 refine ct_of (n := 8) Tryz.func191 rfl rfl (len rfl) fun hr w0 => ?_
 refine cS (cR (st_bx rfl rfl fun b2 => ?_))
 refine sV (vA rfl) (sN (nK [1, 2, 3] rfl (nT (cS (cR (sV (vF rfl fa120_0 rfl) (sV (v_ldn (vs := kC l.key) rfl ld79 rfl (rds_sub rds_pt rfl)) ?_)))))))
 refine sV (v_ldn (vs := kC k) rfl ld79 rfl rds_pt) ?_
 refine sV (v_eql_T eq79 rfl rfl) (sV (vA rfl) (sN (nK [3] rfl (nT (cT ?_)))))
 exact xt_rt rfl ⟨rfl, rfl⟩
set_option maxRecDepth 100000 in
theorem line_ct {b pb po pc n i : Nat} {jv lv pv hv dv : Value} {p : Proc} (hi : i < n) (hrd : Rds S pb (po + i * 9) (pC lv pv hv dv p)) (hL : Row S 5 (lineR S) lv p.lines) (hl : p.lines.length ≤ 1000000) (k : Key) :
  Reads Tryz.prog 188 #[yv b, .int .i64 i, .agg (kC k).toArray] [pt b (cl [jv, .slice (some ⟨pb, po, none⟩) n pc] 27), S] (lptr lv (p.line k)) := by
 unfold yv
 refine ct_of (n := 26) Tryz.func188 rfl rfl (len rfl) fun hr w0 => ?_
 refine cS (cR (st_bx rfl rfl fun b3 => ?_))
 refine st_bx rfl rfl fun b5 => ?_
 refine sV (vA rfl) (sN (nK [1, 3, 5, 6] rfl (nT (cS (cR (sV (vF rfl fa179_0 rfl) (sV (vY rfl ld177) ?_)))))))
 refine sV (vN rfl) (sV (vF rfl fa27_1 rfl) (sV (vY rfl ld25) ?_))
 refine sV (vM rfl) (sV (vI (k := i) rfl rfl sl25 rfl hi rfl) (sV (vF rfl fa77_0 rfl) (sV (vY rfl ld73) ?_)))
 refine sV (vA rfl) (sN (nK [5, 6, 7] rfl (nT (cS (cR (sV (vM rfl) (sV (v_makeFunc rfl rfl) (st_clr rfl rfl en184 rfl (reads_star (ix184_ct (X := lineR S) (g := fun l : Line => l.key == k) (S := Res.star [pt b5 (cl (kC k) 79), S]) (hL.mono (rd_in (.there .here)) fun _ _ _ h => h) hl en191 fun x hx us hus hX => reads_one (linek_ct hX))) ?_))))))))
 rw [ixF_line]
 cases hk : p.line k with
 | none =>
  refine sV (vA rfl) (sN (nK [6, 7, 8] rfl (nT (cS (cS (cR (sV (vM rfl) (sV (v_lss rfl rfl) (sN (nK [6, 7, 8, 22] rfl (nT (cd_true rfl ?_))))))))))))
  refine cS (cR (sV (vA rfl) (sN (nK [6, 7, 8] rfl (nT (cT (xR ?_)))))))
  exact xt_rt rfl ⟨rfl, rfl⟩
 | some j =>
  have hj : j < p.lines.length := by
   unfold Proc.line at hk
   exact (List.findIdx?_eq_some_iff_getElem.1 hk).1
  obtain ⟨lb, lo, lc, us, rfl, _⟩ := hL.at (List.getElem?_eq_getElem hj)
  refine sV (vA rfl) (sN (nK [6, 7, 8] rfl (nT (cS (cS (cR (sV (vM rfl) (sV (v_lss rfl rfl) (sN (nK [6, 7, 8, 22] rfl (nT (cC rfl (fun hd => ?_) (fun hd => ?_)))))))))))))
  ·skip
   exact absurd hd (by simp)
  ·skip
   refine cK (xT (cS (cR (sV (vM rfl) (sV (vM rfl) (sV (vI (k := j) rfl rfl sl73 rfl hj rfl) (sV (vA rfl) (sN (nK [6] rfl (nT (cT ?_)))))))))))
   exact xt_rt rfl ⟨rfl, rfl⟩
set_option maxRecDepth 100000 in
theorem back1_ct {v : Value} {l : List Hold} {b1 yl : Nat} (Inv : SH) (Stop : Nat → SH → Prop) (g : Hold → Bool) (hv : Row S 4 (eqC holdC) v l) (hl : l.length ≤ 1000000)
  (hy : ∀ (i : Nat) (hi : i < l.length), Yc Tryz.prog yl #[.int .i64 i, .agg (holdC l[i]).toArray] Inv fun u h' => (u = .bool true ∧ g l[i] = false ∧ h' = Inv) ∨ (u = .bool false ∧ g l[i] = true ∧ Stop i h')) :
  Ct Tryz.prog 181 #[.func (.yield yl) #[] #[], .pointer (some ⟨b1, 0, none⟩)] (pt b1 (cl [v] 75) :: S :: Inv) fun u h' => u = .tuple #[] ∧ (((∀ (j : Nat) x, l[j]? = some x → g x = false) ∧ h' = pt b1 (cl [v] 75) :: S :: Inv) ∨ ∃ i, ∃ x, l[i]? = some x ∧ g x = true ∧ (∀ (j : Nat) y, i < j → l[j]? = some y → g y = false) ∧ ∃ k, Stop i k ∧ h' = pt b1 (cl [v] 75) :: S :: k) := by
 obtain ⟨ap, cp, hv1, _⟩ := id hv
 refine ct_of (n := 19) Tryz.func181 rfl rfl (len rfl) fun hr w0 => ?_
 refine cS (cR (sV (vY rfl ld75) ?_))
 refine sV (v_len (congrArg some hv1) Tryz.underlying75) (sV (v_sub rfl rfl (by unfold I64 at *; omega)) (sV (vA rfl) (sN (nK [0, 1, 3] rfl (nT (cB (cd_lp (σ := Nat) (fun m => [(0, .func (.yield yl) #[] #[]), (1, .pointer (some ⟨b1, 0, none⟩)), (3, .int .i64 ((m : Nat) - 1))]) (fun m => pt b1 (cl [v] 75) :: S :: (Inv ++ hr)) (fun m => m ≤ l.length ∧ ∀ (j : Nat) y, m ≤ j → l[j]? = some y → g y = false) (fun m => m) l.length ⟨Nat.le_refl _, fun j y hj hh => by rw [List.getElem?_eq_none hj] at hh; cases hh⟩ ?_)))))))
 rintro m ⟨hm, hne⟩
 refine cS (cS (cR (sV (vM rfl) (sV (v_geq rfl rfl) (sN (nK [0, 1, 3, 8] rfl (nT (cC rfl (fun hd => ?_) (fun hd => ?_)))))))))
 ·skip
  have hm1 : 1 ≤ m := by have := of_decide_eq_true hd; omega
  obtain ⟨m, rfl⟩ : ∃ m', m = m' + 1 := ⟨m - 1, by omega⟩
  have hlt : m < l.length := by omega
  obtain ⟨b, o, cp2, us, hv2, hus, hrd, rfl⟩ := hv.at (List.getElem?_eq_getElem hlt)
  have hcast : ((m + 1 : Nat) : Int) - 1 = (m : Nat) := by omega
  rw [hcast]
  refine cK (xT (cS (cB (cS (cR (sV (vM rfl) (sV (vM rfl) (sV (vY rfl ld75) ?_))))))))
  refine sV (vM rfl) (sV (vI (k := m) (congrArg some hv2) rfl sl75 rfl hlt rfl) (sV (v_ldn rfl ld161 hus hrd) ?_))
  refine st_yield (gd := 0) (.inl rfl) rfl rfl (hy m hlt) (Pk.of (hr := pt b1 (cl [v] 75) :: S :: hr) (by exact (List.perm_append_comm_assoc [pt b1 (cl [v] 75), S] Inv hr))) (ltn rfl) ?_
  rintro u h' (⟨rfl, h1, rfl⟩ | ⟨rfl, h1, h2⟩)
  ·skip
   refine sV (v_not rfl) (sN (nK [0, 1, 3, 18] rfl (nT (cd_false rfl ?_))))
   refine cK (xB (xT (cR (sV (vM rfl) (sV (v_sub rfl rfl (by unfold I64 at *; omega)) (sV (vA rfl) (sN (nK [0, 1, 3] rfl (nx_xt (xt_pk (k := pt b1 (cl [v] 75) :: S :: (h' ++ hr)) (by exact (List.perm_append_comm_assoc h' [pt b1 (cl [v] 75), S] hr)) ?_))))))))))
   refine xt_ag m ⟨by omega, fun j y hj hh => ?_⟩ (Nat.lt_succ_self m)
   by_cases hjm : j = m
   ·subst hjm; rw [List.getElem?_eq_getElem hlt] at hh; cases hh; exact h1
   ·exact hne j y (by omega) hh
  ·skip
   refine sV (v_not rfl) (sN (nK [0, 1, 3, 18] rfl (nT (cd_true rfl ?_))))
   refine cT (xW (xR (xR (xW (xt_pk (k := pt b1 (cl [v] 75) :: S :: (h' ++ hr)) (by exact (List.perm_append_comm_assoc h' [pt b1 (cl [v] 75), S] hr)) ?_)))))
   exact xt_rt rfl ⟨rfl, .inr ⟨m, l[m], List.getElem?_eq_getElem hlt, h1, fun j y hj hh => hne j y (by omega) hh, h', h2, rfl⟩⟩
 ·skip
  refine cd_exit (xE (xE (xY ?_)))
  have hm0 : m = 0 := by have := of_decide_eq_false hd; omega
  subst hm0
  exact xt_en rfl ⟨rfl, .inl ⟨fun j y hh => hne j y (Nat.zero_le _) hh, rfl⟩⟩
set_option maxRecDepth 100000 in
theorem back_ct {ap : Option Addr} {n cp : Nat} : Ct Tryz.prog 153 #[.slice ap n cp] [] fun u h' => ∃ b1, u = .func (.func 181) #[] #[.pointer (some ⟨b1, 0, none⟩)] ∧ h' = [pt b1 (cl [.slice ap n cp] 75)] := by
 refine ct_of (n := 4) Tryz.func153 rfl rfl (len rfl) fun hr w0 => ?_
 refine cS (cR (st_bx rfl rfl fun b1 => ?_))
 refine sV (vA rfl) (sN (nK [1, 2] rfl (nT (cS (cR (sV (v_makeFunc rfl rfl) (sV (vA rfl) (sN (nK [2] rfl (nT (cT ?_)))))))))))
 exact xt_rt rfl ⟨b1, rfl, rfl⟩
def holdV : Option Hold → Value
 | some h => .tuple #[.agg (holdC h).toArray, .bool true]
 | none => .tuple #[.agg (holdC (0, (0, 0), false)).toArray, .bool false]
theorem hold_none {p : Proc} {of : Int} (h : ∀ (j : Nat) x, p.holds[j]? = some x → (x.1 == of && !x.2.2) = false) : p.hold of = none := by
 unfold Proc.hold
 rw [List.find?_eq_none]
 intro x hx
 obtain ⟨j, hj, rfl⟩ := List.mem_iff_getElem.1 (List.mem_reverse.1 hx)
 rw [h j _ (List.getElem?_eq_getElem hj)]; simp
theorem find_last {α : Type} {g : α → Bool} : ∀ (l : List α) (i : Nat) (x : α), l[i]? = some x → g x = true → (∀ (j : Nat) y, i < j → l[j]? = some y → g y = false) → l.reverse.find? g = some x
 | [], i, x, h, _, _ => by simp at h
 | a :: t, i, x, h, h1, h2 => by
  rw [List.reverse_cons, List.find?_append]
  cases i with
  | zero =>
   simp at h; subst h
   have : t.reverse.find? g = none := by
    rw [List.find?_eq_none]
    intro y hy
    obtain ⟨j, hj, rfl⟩ := List.mem_iff_getElem.1 (List.mem_reverse.1 hy)
    rw [h2 (j + 1) t[j] (by omega) (by simp [List.getElem?_eq_getElem hj])]; simp
   rw [this]; simp [h1]
  | succ i =>
   rw [find_last t i x (by simpa using h) h1 fun j y hj hy => h2 (j + 1) y (by omega) (by simpa using hy)]; rfl
theorem hold_some {p : Proc} {of : Int} {i : Nat} {x : Hold} (h : p.holds[i]? = some x) (h1 : (x.1 == of && !x.2.2) = true) (h2 : ∀ (j : Nat) y, i < j → p.holds[j]? = some y → (y.1 == of && !y.2.2) = false) : p.hold of = some x := find_last p.holds i x h h1 h2
set_option maxRecDepth 100000 in
theorem hold_ct {b pb po pc n i : Nat} {jv lv pv hv dv : Value} {p : Proc} (hi : i < n) (hrd : Rds S pb (po + i * 9) (pC lv pv hv dv p)) (hH : Row S 4 (eqC holdC) hv p.holds) (hl : p.holds.length ≤ 1000000) (of : Int) :
  Reads Tryz.prog 125 #[yv b, .int .i64 i, .int .i64 of] [pt b (cl [jv, .slice (some ⟨pb, po, none⟩) n pc] 27), S] (holdV (p.hold of)) := by
 unfold yv
 obtain ⟨ha, hc, rfl, _⟩ := id hH
 refine ct_ofM (n := 35) Tryz.func125 rfl rfl (len rfl) fun hr w0 => ?_
 refine cS (cR (st_bx rfl rfl fun b3 => ?_))
 refine st_bx rfl rfl fun b5 => ?_
 refine st_alc al161 fun b6 => ?_
 refine st_alc al4 fun b7 => ?_
 refine sN (nK [1, 3, 5, 6, 7] rfl (nT (cS (cR (sV (vF rfl fa179_0 rfl) (sV (vY rfl ld177) ?_))))))
 refine sV (vN rfl) (sV (vF rfl fa27_1 rfl) (sV (vY rfl ld25) ?_))
 refine sV (vM rfl) (sV (vI (k := i) rfl rfl sl25 rfl hi rfl) (sV (vF rfl fa77_5 rfl) (sV (vY rfl ld75) ?_)))
 refine sV (vA rfl) (sN (nK [5, 6, 7, 8] rfl (nT (cS (cS (cR (sV (vM rfl) (st_cl rfl rfl en153 rfl (back_ct) ?_))))))))
 rintro u h' ⟨c1, rfl, rfl⟩
 refine sN (nK [5, 6, 7, 21] rfl (nT (cB ?_)))
 simp only [List.cons_append, List.nil_append]
 refine cd_range' rfl en181 fun yl db rec hst hpe hps has hbo hkn2 => ?_
 refine ⟨_, Ct.perm (back1_ct (S := S) (l := p.holds) (b1 := c1) (yl := yl) (pt yl (.loop rec) :: pt db (.deferred (some [])) :: pt b5 (cl [.int .i64 of] 3) :: pt b6 (cl (holdC (0, (0, 0), false)) 161) :: pt b7 (cl [.bool false] 4) :: pt b3 (cl [.pointer (some ⟨b, 0, none⟩)] 179) :: pt b (cl [jv, .slice (some ⟨pb, po, none⟩) n pc] 27) :: hr)
  (fun i h' => ∃ x rec', p.holds[i]? = some x ∧ h' = pt yl (.loop rec') :: pt db (.deferred (some [])) :: pt b5 (cl [.int .i64 of] 3) :: pt b6 (cl (holdC x) 161) :: pt b7 (cl [.bool true] 4) :: pt b3 (cl [.pointer (some ⟨b, 0, none⟩)] 179) :: pt b (cl [jv, .slice (some ⟨pb, po, none⟩) n pc] 27) :: hr ∧ rec'.state ≠ .busy ∧ rec'.pending = some .ret) (fun x => x.1 == of && !x.2.2) hH hl ?_) ?_, ?_⟩
 ·intro j hj
  have hx := List.getElem?_eq_getElem hj
  generalize p.holds[j] = x at hx ⊢
  refine Yc.perm (yc_of (n := 35) (rec := rec) (args := [.int .i64 j, .agg (holdC x).toArray]) (hf := pt db (.deferred (some [])) :: pt b5 (cl [.int .i64 of] 3) :: pt b6 (cl (holdC (0, (0, 0), false)) 161) :: pt b7 (cl [.bool false] 4) :: pt b3 (cl [.pointer (some ⟨b, 0, none⟩)] 179) :: pt b (cl [jv, .slice (some ⟨pb, po, none⟩) n pc] 27) :: hr) (by rw [hps]; rfl) hkn2 (by rw [hps]; decide) ?_) (List.Perm.refl _)
  intro hr2 w1
  rw [has, hps, hbo]
  simp only [List.cons_append, List.nil_append]
  refine cR (st_alc al161 fun b10 => ?_)
  refine st_stoW rfl rfl sz161 rfl rfl ?_
  refine sN (nK [5, 6, 7, 10] rfl (nx_xt (xt_mid rfl slq (by first | rfl | assumption) ?_)))
  refine cB (cS (cR (sV (vF rfl fa161_0 rfl) (sV (vY rfl ld3) ?_))))
  refine sV (vY rfl ld3) ?_
  refine sV (v_eql rfl rfl) (sV (vM rfl) (st_cut (k := 9) (d := 32) (v := .bool (x.1 == of && !x.2.2)) (fun hcut => bool_want (b := (x.1 == of)) true (fun hg => ?_) (fun hg => ?_)) ?_))
  ·refine st_sk rfl rfl hg ?_
   iterate 2 refine st_sk rfl rfl hg ?_
   refine sV (vP (bE rfl hg) rfl) ?_
   exact hcut _ (uH (by first | rfl | (rw [hg]; rfl) | simp_all) (uS rfl (uS rfl (uS rfl (uR)))))
  ·skip
   refine sG rfl (bG rfl hg) (vF rfl fa161_2 rfl) (sG rfl (bG rfl hg) (vY rfl ld4) ?_)
   refine sG rfl (bG rfl hg) (v_not rfl) (sV (vQ (bE rfl hg) rfl) ?_)
   exact hcut _ (uH (by first | rfl | (rw [hg]; rfl) | simp_all) (uS rfl (uS rfl (uS rfl (uR)))))
  refine sN (nK [6, 7, 10, 32] rfl (nT (cC rfl (fun hg => ?_) (fun hg => ?_))))
  ·skip
   refine cS (cR (sV (v_ldn rfl ld161 rfl rds_pt) ?_))
   refine st_stoW rfl rfl sz161 rfl rfl ?_
   refine st_sto rfl rfl sz4 ?_
   refine sN (nK [6, 7] rfl (nT (cT (xW (xt_round_ret slq (.inr ⟨rfl, hg, x, { ({ rec with state := .busy } : Loop) with state := .done, pending := some .ret }, hx, rfl, ?_, rfl⟩) ?_)))))
   ·simp
   ·exact sbr
  ·skip
   refine cK (xB (xt_round slq (.inl ⟨rfl, hg, rfl⟩) ?_))
   rw [rec_back hst hpe]
   exact sbr
 ·exact (by repeat (first | exact Pm.refl | refine Pm.cons slq ?_) : Pm _ _).perm
 ·rintro u h' ⟨rfl, (⟨h1, rfl⟩ | ⟨j, x, hx, hg, hlater, _, ⟨x', rec', hx', rfl, h2, h3⟩, rfl⟩)⟩
  ·rw [hold_none h1]
   refine ⟨rec, _, slq, (by rw [hst]; simp), ?_⟩
   rw [hpe]
   dsimp only
   refine xB (xT (cS (cR (sV (v_build (cells := holdC (0, (0, 0), false)) rfl (fun _ => by kernel_rfl)) ?_))))
   refine st_stoW rfl rfl sz161 rfl rfl ?_
   refine st_sto rfl rfl sz4 ?_
   refine sN (nK [6, 7] rfl (nT (cT (xt_retMV (bs := [db]) (k := pt b6 (cl (holdC (0, (0, 0), false)) 161) :: pt b7 (cl [.bool false] 4) :: ([pt b (cl [jv, .slice (some ⟨pb, po, none⟩) n pc] 27), S] ++ hr)) rfl (.cellN rfl ld161 rfl slq (.cell1 rfl ld4 (at_there (at_here (rd_cl rfl))) .nil)) ⟨rfl, rfl⟩ ?_ ?_))))
   ·exact Sub.cons (Sub.cons (Sub.refl _))
   ·unfold marks
    simp only [List.cons_append, List.nil_append, List.map_cons, List.map_nil]
    exact sbr
  ·rw [hx] at hx'
   cases hx'
   rw [hold_some hx hg hlater]
   refine ⟨rec', _, slq, h2, ?_⟩
   rw [h3]
   dsimp only
   refine cT (xW (xR (xt_retMV (bs := [db]) (k := pt b6 (cl (holdC x) 161) :: pt b7 (cl [.bool true] 4) :: ([pt b (cl [jv, .slice (some ⟨pb, po, none⟩) n pc] 27), S] ++ hr)) rfl (.cellN rfl ld161 rfl slq (.cell1 rfl ld4 (at_there (at_here (rd_cl rfl))) .nil)) ⟨rfl, rfl⟩ ?_ ?_)))
   ·exact Sub.cons (Sub.cons (Sub.refl _))
   ·unfold marks
    simp only [List.cons_append, List.nil_append, List.map_cons, List.map_nil]
    exact sbr
end
end Go.Wt
namespace Go.Wt
open Go Go.Ck Go.Proofs Go.Proofs.YtboepbencndobaaGreat Fx
/-! ## Bounds -/
structure PB (n B : Nat) (p : Proc) : Prop where
 lines : p.lines.length ≤ B
 puts : p.puts.length ≤ B
 holds : p.holds.length ≤ B
 did : p.did.length ≤ B
 asks : ∀ l ∈ p.lines, l.asks.length ≤ B
 made : 0 ≤ p.made ∧ p.made ≤ B
 hs : ∀ h ∈ p.holds, 0 ≤ h.1 ∧ h.1 < n
 ks : ∀ l ∈ p.lines, 0 ≤ l.key.1 ∧ l.key.1 < n
structure YBd (n B : Nat) (y : Yard) : Prop where
 len : y.procs.length = n
 pb : ∀ i, i < n → PB n B (y.pr i)
theorem PB.le {n B B' : Nat} {p : Proc} (h : PB n B p) (hb : B ≤ B') : PB n B' p := ⟨by have := h.lines; omega, by have := h.puts; omega, by have := h.holds; omega, by have := h.did; omega, fun l hl => by have := h.asks l hl; omega, by have := h.made; omega, h.hs, h.ks⟩
theorem YBd.le {n B B' : Nat} {y : Yard} (h : YBd n B y) (hb : B ≤ B') : YBd n B' y := ⟨h.len, fun i hi => (h.pb i hi).le hb⟩
theorem put_len (y : Yard) (i : Nat) (p : Proc) : (y.put i p).procs.length = y.procs.length := by simp [Yard.put]
theorem put_pr {y : Yard} {i : Nat} (hi : i < y.procs.length) (p : Proc) : (y.put i p).pr = upd y.pr i p := by
 funext k
 unfold Yard.pr Yard.put upd
 simp only [List.getD_eq_getElem?_getD, List.getElem?_set]
 by_cases hk : k = i
 ·subst hk; simp [hi]
 ·rw [if_neg hk, if_neg (fun h => hk h.symm)]
theorem put_same {y : Yard} {i : Nat} (hi : i < y.procs.length) (p : Proc) : (y.put i p).pr i = p := by rw [put_pr hi, upd_same]
theorem put_ne {y : Yard} {i k : Nat} (p : Proc) (hk : k ≠ i) : (y.put i p).pr k = y.pr k := by
 unfold Yard.pr Yard.put
 simp only [List.getD_eq_getElem?_getD, List.getElem?_set]
 rw [if_neg (fun h => hk h.symm)]
theorem YBd.put {n B : Nat} {y : Yard} (h : YBd n B y) {i : Nat} {p : Proc} (hp : PB n B p) : YBd n B (y.put i p) := ⟨by rw [put_len, h.len], fun k hk => by
 by_cases hki : k = i
 ·subst hki; rw [put_same (by rw [h.len]; exact hk)]; exact hp
 ·rw [put_ne _ hki]; exact h.pb k hk⟩

/-! ## Lists of resources -/
theorem erase_perm {L : SH} {j : Nat} {r : Res} (h : L[j]? = some r) : L.Perm (r :: L.eraseIdx j) := by
 induction L generalizing j with
 | nil => simp at h
 | cons a t ih =>
  cases j with
  | zero => simp at h; subst h; exact .refl _
  | succ j => exact ((ih (by simpa using h)).cons a).trans (.swap _ _ _)
theorem set_perm {L : SH} {j : Nat} {r : Res} (h : j < L.length) : (L.set j r).Perm (r :: L.eraseIdx j) := by
 have h1 : (L.set j r)[j]? = some r := by rw [List.getElem?_set, if_pos rfl, if_pos h]
 have h2 := erase_perm h1
 have h3 : (L.set j r).eraseIdx j = L.eraseIdx j := by
  clear h1 h2
  induction L generalizing j with
  | nil => rfl
  | cons a t ih =>
   cases j with
   | zero => rfl
   | succ j => simp only [List.set_cons_succ, List.eraseIdx_cons_succ]; rw [ih (by simpa using h)]
 rwa [h3] at h2
theorem pv_lfoc {L : SH} {j : Nat} {r : Res} (h : L[j]? = some r) : ∀ t, Vw ([Res.star L] ++ t) ([r, Res.star (L.eraseIdx j)] ++ t) := fun t w hh => by
 have h1 : Holds w (L ++ t) := holds_star1.1 hh
 have h2 : Holds w ((r :: L.eraseIdx j) ++ t) := h1.perm ((erase_perm h).append_right t)
 have h3 : Holds w (L.eraseIdx j ++ (r :: t)) := h2.perm (by exact List.perm_middle.symm)
 have h4 : Holds w (Res.star (L.eraseIdx j) :: r :: t) := holds_star1.2 h3
 exact h4.perm (.swap _ _ _)
theorem pv_lunf {L : SH} {j : Nat} {r : Res} (h : j < L.length) : ∀ t, Vw ([r, Res.star (L.eraseIdx j)] ++ t) ([Res.star (L.set j r)] ++ t) := fun t w hh => by
 have h1 : Holds w (Res.star (L.eraseIdx j) :: r :: t) := hh.perm (.swap _ _ _)
 have h2 : Holds w (L.eraseIdx j ++ (r :: t)) := holds_star1.1 h1
 have h3 : Holds w ((r :: L.eraseIdx j) ++ t) := h2.perm (by exact List.perm_middle)
 have h4 : Holds w (L.set j r ++ t) := h3.perm ((set_perm h).symm.append_right t)
 exact holds_star1.2 h4

/-! ## One processor looked at -/
theorem pv_focus {pv : Value} {n i : Nat} {H : Nat → PH} {f : Nat → Proc} (hi : i < n) : ∀ t, Vw (YO pv n H f ++ t) ([FP pv n i H f (hpC (H i) (f i)), VR (H i).lv 120 5 (lrows (H i).av (f i).lines), VR (H i).pv 79 2 ((f i).puts.map kC), VR (H i).hv 161 4 ((f i).holds.map holdC), VR (H i).dv 81 5 ((f i).did.map dC), Res.star (arows (H i).av (f i).lines), pureR ((H i).av.length = (f i).lines.length), FX n i H f] ++ t) := fun _ => vw_focus hi
theorem pv_unfocus {pv : Value} {n i : Nat} {H : Nat → PH} {y : Yard} {G : PH} {p : Proc} (hn : y.procs.length = n) (hi : i < n) : ∀ t, Vw ([FP pv n i H y.pr (hpC G p), VR G.lv 120 5 (lrows G.av p.lines), VR G.pv 79 2 (p.puts.map kC), VR G.hv 161 4 (p.holds.map holdC), VR G.dv 81 5 (p.did.map dC), Res.star (arows G.av p.lines), pureR (G.av.length = p.lines.length), FX n i H y.pr] ++ t) (YO pv n (upd H i G) (y.put i p).pr ++ t) := fun t => by
 rw [put_pr (by omega)]; exact vw_unfocus hi
theorem lrows_setl {avs : List Value} {ls : List Line} {j : Nat} {a : Value} {l : Line} (hj : j < ls.length) (ha : avs.length = ls.length) : (lrows avs ls).set j (lC a l) = lrows (avs.set j a) (ls.set j l) := by
 unfold lrows
 apply List.ext_getElem?
 intro k
 rw [List.getElem?_set, List.length_zipWith, List.getElem?_zipWith, List.getElem?_zipWith, List.getElem?_set, List.getElem?_set]
 by_cases hk : j = k
 ·subst hk
  rw [if_pos rfl, if_pos rfl, if_pos rfl, if_pos (by omega), if_pos (by omega), if_pos (by omega)]
 ·rw [if_neg hk, if_neg hk, if_neg hk]
theorem set_self {α : Type} {l : List α} {j : Nat} {a : α} (h : l[j]? = some a) : l.set j a = l := by
 apply List.ext_getElem?
 intro k
 rw [List.getElem?_set]
 by_cases hk : j = k
 ·subst hk; rw [if_pos rfl, if_pos (List.getElem?_eq_some_iff.1 h).1, h]
 ·rw [if_neg hk]
theorem arows_setl {avs : List Value} {ls : List Line} {j : Nat} {a : Value} {l : Line} (hj : j < ls.length) (ha : avs.length = ls.length) : (arows avs ls).set j (VR a 117 2 (l.asks.map aC)) = arows (avs.set j a) (ls.set j l) := by
 unfold arows
 apply List.ext_getElem?
 intro k
 rw [List.getElem?_set, List.length_zipWith, List.getElem?_zipWith, List.getElem?_zipWith, List.getElem?_set, List.getElem?_set]
 by_cases hk : j = k
 ·subst hk
  rw [if_pos rfl, if_pos rfl, if_pos rfl, if_pos (by omega), if_pos (by omega), if_pos (by omega)]
 ·rw [if_neg hk, if_neg hk, if_neg hk]
theorem arows_at {avs : List Value} {ls : List Line} {j : Nat} {a : Value} {l : Line} (ha : avs[j]? = some a) (hl : ls[j]? = some l) : (arows avs ls)[j]? = some (VR a 117 2 (l.asks.map aC)) := by simp [arows, List.getElem?_zipWith, ha, hl]
theorem lrows_at {avs : List Value} {ls : List Line} {j : Nat} {a : Value} {l : Line} (ha : avs[j]? = some a) (hl : ls[j]? = some l) : (lrows avs ls)[j]? = some (lC a l) := by simp [lrows, List.getElem?_zipWith, ha, hl]
theorem arows_same {avs : List Value} {ls : List Line} {j : Nat} {l l' : Line} (hl : ls[j]? = some l) (he : l'.asks = l.asks) : arows avs (ls.set j l') = arows avs ls := by
 unfold arows
 apply List.ext_getElem?
 intro k
 rw [List.getElem?_zipWith, List.getElem?_zipWith, List.getElem?_set]
 by_cases hk : j = k
 ·subst hk
  rw [if_pos rfl, if_pos (List.getElem?_eq_some_iff.1 hl).1, hl]
  cases avs[j]? <;> simp [he]
 ·rw [if_neg hk]
section
variable {c : Cx} {ops : Array Oper} {K : Go.Act → World → Prop} {rest : List Oper} {e : Env} {h h' : SH}
theorem st_fp {T : TypeId} {x z : Operand} {ty : TypeId} {pos : String} {after : Array Edge} {pb po pc n i k : Nat} {H : Nat → PH} {f : Nat → Proc} {u : Value} {cells cells' : List Value}
  (hx : e.ev? x = some (.pointer (some ⟨pb, po + i * 9 + k, none⟩))) (hz : e.ev? z = some u) (hT : Sz c.P T 1) (hv : u.oneCell' = true) (hi : i < n) (hk : k < 9) (hl : cells.set k u = cells') (hs : Sel h (FP (.slice (some ⟨pb, po, none⟩) n pc) n i H f cells) h')
  (hn : St c ops K rest e (FP (.slice (some ⟨pb, po, none⟩) n pc) n i H f cells' :: h')) :
  St c ops K (⟨none, .store T x z, ty, pos, after, none⟩ :: rest) e h :=
 st_vr (sz := 9) (m := i) (k := k) hx hz hT hv (foc_get hi) hk (by rw [hl, foc_set]) hs hn
end
end Go.Wt
namespace Go.Wt
open Go Go.Ck Go.Proofs Go.Proofs.YtboepbencndobaaGreat Fx
attribute [local irreducible] St Cd Xt Nx DrL LsW
section
variable {S : Res}
theorem lrows_snoc {avs : List Value} {ls : List Line} {v : Value} {l : Line} (h : avs.length = ls.length) : lrows avs ls ++ [lC v l] = lrows (avs ++ [v]) (ls ++ [l]) := by unfold lrows; rw [List.zipWith_append h]; rfl
theorem map_snoc {α β : Type} (f : α → β) (l : List α) (x : α) : l.map f ++ [f x] = (l ++ [x]).map f := by simp
set_option maxHeartbeats 1000000 in
set_option maxRecDepth 100000 in
theorem put_ct {b pb po pc n B i j : Nat} {jv asv : Value} {H : Nat → PH} {y : Yard} (hy : YBd n B y) (hB : B ≤ 1000000) (hi : i < n) (hj : j < n) (closed : Bool) (asks : List Ask) :
  Ct Tryz.prog 189 #[yv b, .int .i64 i, .int .i64 j, .bool closed, asv] (VR asv 117 2 (asks.map aC) :: pt b (cl [jv, .slice (some ⟨pb, po, none⟩) n pc] 27) :: YO (.slice (some ⟨pb, po, none⟩) n pc) n H y.pr)
   fun u h' => u = .agg (kC ((i : Int), (y.pr i).made)).toArray ∧ ∃ H', h' = pt b (cl [jv, .slice (some ⟨pb, po, none⟩) n pc] 27) :: YO (.slice (some ⟨pb, po, none⟩) n pc) n H' (y.lay i j closed asks).pr := by
 have hlen := hy.len
 unfold yv
 refine ct_of (n := 65) Tryz.func189 rfl rfl (len rfl) fun hr w0 => ?_
 simp only [List.cons_append]
 refine cd_rowf (v := asv) slq fun aa ac hav _ _ => ?_
 rw [List.length_map] at hav
 subst hav
 refine cS (cR (st_bx rfl rfl fun b5 => ?_))
 refine st_alc al79 fun b10 => ?_
 refine sN (nK [1, 2, 3, 4, 5, 10] rfl (nT (cS (cd_drawh (ork [(0, 2), (1, 1), (2, 2), (3, 2), (4, 1), (5, 2), (6, 2), (7, 2), (8, 1), (9, 2), (10, 2), (11, 1), (12, 2), (13, 2), (14, 2), (15, 2)] .nil) (fun _ => true) mixed (by kernel_rfl) ?_))))
 refine dV rfl (vF rfl fa179_0 rfl) (dr_v rfl (vY rfl ld177) ?_)
 refine dV rfl (vN rfl) (dV rfl (vF rfl fa27_1 rfl) (dr_v rfl (vY rfl ld25) ?_))
 refine dV rfl (vM rfl) (dV rfl (vI (k := i) rfl rfl sl25 rfl hi rfl) (dV rfl (vF rfl fa179_0 rfl) (dr_v rfl (vY rfl ld177) ?_)))
 refine dV rfl (vN rfl) (dV rfl (vF rfl fa27_1 rfl) (dr_v rfl (vY rfl ld25) ?_))
 refine dV rfl (vM rfl) (dV rfl (vI (k := j) rfl rfl sl25 rfl hj rfl) (dV rfl (vA rfl) (dV rfl (vA rfl) (dr_nil (nK [1, 3, 4, 10, 11, 12] rfl (nT (cS ?_)))))))
 obtain ⟨_, _, _, _, _, ⟨hm1, hm2⟩, _, _⟩ := hy.pb i hi
 refine cd_pv (pv_focus hi) ?_
 generalize hG : H i = G
 generalize hp : y.pr i = p at hm1 hm2 ⊢
 refine cR (sV (vM rfl) (sV (vM rfl) (sV (vN rfl) (sV (vF rfl fa77_7 rfl) (sV (vY rfl ld3) ?_)))))
 refine sV (v_build (cells := kC ((i : Int), p.made)) rfl (fun _ => by kernel_rfl)) ?_
 refine st_alc al79 fun b13 => ?_
 refine st_stoW rfl rfl sz79 rfl rfl ?_
 refine sN (nK [3, 4, 10, 11, 12, 13] rfl (nT (cS (cR (sV (vM rfl) (sV (vN rfl) (sV (vF rfl fa77_7 rfl) (sV (vY rfl ld3) ?_))))))))
 refine sV (v_add rfl rfl (by unfold I64 at *; omega)) (sV (vN rfl) (sV (vF rfl fa77_7 rfl) (st_fp (k := 7) (cells' := hpC G { p with made := p.made + 1 }) rfl rfl sz3 rfl hi (by decide) rfl slq ?_)))
 refine sN (nK [3, 4, 10, 12, 13] rfl (nT (cS (cd_pv (pv_unfocus (G := G) (p := { p with made := p.made + 1 }) hlen hi) ?_))))
 have hy1 : YBd n (B + 1) (y.put i { p with made := p.made + 1 }) := (hy.le (Nat.le_succ B)).put (by
  have := hy.pb i hi
  rw [hp] at this
  exact ⟨by have := this.lines; simp; omega, by have := this.puts; simp; omega, by have := this.holds; simp; omega, by have := this.did; simp; omega, fun l hl => by have := this.asks l hl; omega, by simp; omega, this.hs, this.ks⟩)
 have hlen1 := hy1.len
 have hlay : y.lay i j closed asks = (y.put i { p with made := p.made + 1 }).put j { (y.put i { p with made := p.made + 1 }).pr j with lines := ((y.put i { p with made := p.made + 1 }).pr j).lines ++ [⟨((i : Int), p.made), asks, closed, false⟩], puts := ((y.put i { p with made := p.made + 1 }).pr j).puts ++ [((i : Int), p.made)] } := by rw [← hp]; rfl
 rw [hlay]
 generalize y.put i { p with made := p.made + 1 } = y1 at hy1 hlen1 ⊢
 refine cd_pv (pv_focus hj) ?_
 obtain ⟨q1, q2, _, _, _, _, _, _⟩ := hy1.pb j hj
 generalize upd H i G = H1
 generalize hG2 : H1 j = G2
 generalize hp2 : y1.pr j = q at q1 q2 ⊢
 refine cd_ok (r := pureR (G2.av.length = q.lines.length)) slq fun hpu => ?_
 have hal := pureR_ok hpu
 refine cd_drawh (ork [(0, 2), (1, 2), (2, 2), (3, 2), (4, 1), (5, 1), (6, 2), (7, 2), (8, 2), (9, 0), (10, 0), (11, 2), (12, 2), (13, 0)] .nil) (fun i => !(Nat.beq i 10 || Nat.beq i 13)) mixed (by kernel_rfl) ?_
 refine dV rfl (vM rfl) (dV rfl (vM rfl) (dV rfl (vN rfl) (dV rfl (vF rfl fa77_0 rfl) (dr_v rfl (vY rfl ld73) ?_))))
 refine dr_v rfl (v_ldn rfl ld79 rfl rds_pt) ?_
 refine dV rfl (vM rfl) (dV rfl (vM rfl) (dV rfl (v_build (cells := lC (.slice aa asks.length ac) ⟨((i : Int), p.made), asks, closed, false⟩) rfl (fun _ => by kernel_rfl)) ?_))
 refine dr_eff rfl (st_buildSlice (cells := lC (.slice aa asks.length ac) ⟨((i : Int), p.made), asks, closed, false⟩) rfl Tryz.underlying73 inf120 rfl rfl (by kernel_rfl) (ltn rfl) fun b50 => dr_nx ?_)
 refine dr_eff rfl (st_app (v := G2.lv) [lC (.slice aa asks.length ac) ⟨((i : Int), p.made), asks, closed, false⟩] rfl rfl Tryz.underlying73 inf120 rfl (by decide) slq (by simp [lC]) rfl (fun j u2 hu2 => at_here (rd_cl (by simpa using hu2))) (by simp [lC, Value.oneCell']) (by simp [lrows]; omega) (by simp [lrows]; omega) (ltn rfl) fun v' hv' _ => dr_nx ?_)
 refine dV rfl (vN rfl) (dV rfl (vF rfl fa77_0 rfl) (dr_eff rfl (st_fp (k := 0) (cells' := hpC { G2 with lv := v' } q) rfl rfl sz73 hv' hj (by decide) rfl slq (dr_nx ?_))))
 refine dr_nil (nK [10, 12, 13] rfl (nT (cS (cd_drawh (ork [(0, 2), (1, 2), (2, 2), (3, 2), (4, 1), (5, 1), (6, 0), (7, 0), (8, 2), (9, 2), (10, 0)] .nil) (fun i => !(Nat.beq i 7 || Nat.beq i 10)) mixed (by kernel_rfl) ?_))))
 refine dV rfl (vM rfl) (dV rfl (vM rfl) (dV rfl (vN rfl) (dV rfl (vF rfl fa77_1 rfl) (dr_v rfl (vY rfl ld74) ?_))))
 refine dr_v rfl (v_ldn rfl ld79 rfl rds_pt) ?_
 refine dr_eff rfl (st_buildSlice (cells := kC ((i : Int), p.made)) rfl Tryz.underlying74 inf79 rfl rfl (by kernel_rfl) (ltn rfl) fun b60 => dr_nx ?_)
 refine dr_eff rfl (st_app (v := G2.pv) [kC ((i : Int), p.made)] rfl rfl Tryz.underlying74 inf79 rfl (by decide) slq (by simp [kC]) rfl (fun j u2 hu2 => at_here (rd_cl (by simpa using hu2))) (by simp [kC, Value.oneCell']) (by simp; omega) (by simp; omega) (ltn rfl) fun v2 hv2 _ => dr_nx ?_)
 refine dV rfl (vN rfl) (dV rfl (vF rfl fa77_1 rfl) (dr_eff rfl (st_fp (k := 1) (cells' := hpC { G2 with lv := v', pv := v2 } q) rfl rfl sz74 hv2 hj (by decide) rfl slq (dr_nx ?_))))
 refine dr_nil (nK [10, 13] rfl (nT (cS (cR (sV (v_ldn rfl ld79 rfl rds_pt) ?_)))))
 refine st_stoW rfl rfl sz79 rfl rfl ?_
 refine sN (nK [10] rfl (nT (cT ?_)))
 rw [lrows_snoc hal, map_snoc]
 refine xt_pv (pv_snoc (L := arows G2.av q.lines) (r := VR (.slice aa asks.length ac) 117 2 (asks.map aC))) ?_
 have e1 : arows G2.av q.lines ++ [VR (.slice aa asks.length ac) 117 2 (asks.map aC)] = arows (G2.av ++ [.slice aa asks.length ac]) (q.lines ++ [⟨((i : Int), p.made), asks, closed, false⟩]) := (arows_snoc (l := ⟨((i : Int), p.made), asks, closed, false⟩) hal).symm
 rw [e1]
 refine xt_pv (pv_add (triv_pure (φ := (G2.av ++ [(.slice aa asks.length ac : Value)]).length = (q.lines ++ [(⟨((i : Int), p.made), asks, closed, false⟩ : Line)]).length) (by simp [hal]))) ?_
 refine xt_pv (pv_unfocus (G := ⟨v', v2, G2.hv, G2.dv, G2.av ++ [.slice aa asks.length ac]⟩) (p := { q with lines := q.lines ++ [⟨((i : Int), p.made), asks, closed, false⟩], puts := q.puts ++ [((i : Int), p.made)] }) hlen1 hj) ?_
 exact xt_retV (.cellN rfl ld79 rfl slq .nil) ⟨rfl, _, rfl⟩ sbr
theorem reads_YO {P : Program} {k : FuncId} {args : Array Value} {v : Value} {x : SH} {pv : Value} {n : Nat} {H : Nat → PH} {f : Nat → Proc} (h : (∃ g, HoldsF g (YO pv n H f)) → Reads P k args (x ++ [Res.star (YO pv n H f)]) v) : Reads P k args (x ++ YO pv n H f) v := fun hr w hh => by
 have h0 : Holds w (YO pv n H f ++ (x ++ hr)) := hh.perm (by rw [List.append_assoc]; exact (List.perm_append_comm_assoc (YO pv n H f) x hr).symm)
 have hok : ∃ g, HoldsF g (YO pv n H f) := ⟨hp w, (HoldsF.append.1 h0).1⟩
 have h1 : Holds w ((x ++ [Res.star (YO pv n H f)]) ++ hr) := by
  have h2 : Holds w (Res.star (YO pv n H f) :: (x ++ hr)) := holds_star1.2 h0
  exact h2.perm (by rw [List.append_assoc]; exact List.perm_middle.symm)
 refine (h hok hr w h1).mono fun _ _ ⟨u, h', he, ⟨hu, hh'⟩, hH, hS⟩ => ⟨u, _, he, ⟨hu, rfl⟩, ?_, hS⟩
 subst hh'
 have h3 : Holds _ (Res.star (YO pv n H f) :: (x ++ hr)) := hH.perm (by rw [List.append_assoc]; exact List.perm_middle)
 have h4 : Holds _ (YO pv n H f ++ (x ++ hr)) := holds_star1.1 h3
 exact h4.perm (by rw [List.append_assoc]; exact List.perm_append_comm_assoc (YO pv n H f) x hr)
theorem YO_at {pb po pc n i : Nat} {H : Nat → PH} {f : Nat → Proc} (hi : i < n) (hok : ∃ g, HoldsF g (YO (.slice (some ⟨pb, po, none⟩) n pc) n H f)) :
  Rds (Res.star (YO (.slice (some ⟨pb, po, none⟩) n pc) n H f)) pb (po + i * 9) (hpC (H i) (f i)) ∧ Row (Res.star (YO (.slice (some ⟨pb, po, none⟩) n pc) n H f)) 5 (lineR (Res.star (YO (.slice (some ⟨pb, po, none⟩) n pc) n H f))) (H i).lv (f i).lines ∧ Row (Res.star (YO (.slice (some ⟨pb, po, none⟩) n pc) n H f)) 4 (eqC holdC) (H i).hv (f i).holds := by
 obtain ⟨g, hg⟩ := hok
 have h2 : HoldsF g ((List.range n).map fun k => PR (H k) (f k)) := HoldsF.get hg (r := RS n fun k => PR (H k) (f k)) (by simp [YO])
 have hpr := prl_procR (S := Res.star (YO (.slice (some ⟨pb, po, none⟩) n pc) n H f)) (H := H i) (p := f i) ⟨g, HoldsF.get h2 (List.mem_map.2 ⟨i, by simpa using hi, rfl⟩)⟩ fun a u hu => rd_mem (r := RS n fun k => PR (H k) (f k)) (by simp [YO]) a u (RS_in (R := fun k => PR (H k) (f k)) hi a u hu)
 obtain ⟨lv, pv, hv, dv, he, h3, h4, h5, h6⟩ := hpr
 unfold hpC pC at he
 simp only [List.cons.injEq, and_true] at he
 obtain ⟨rfl, rfl, _, _, _, rfl, _, _, rfl⟩ := he
 refine ⟨fun k hk => rd_mem (r := VR (.slice (some ⟨pb, po, none⟩) n pc) 77 9 ((List.range n).map fun k => hpC (H k) (f k))) (by simp [YO]) _ _ (rds_vr (by simp [List.getElem?_map, List.getElem?_range, hi]) k hk), h3, h5⟩
set_option maxRecDepth 100000 in
theorem lineO_ct {b pb po pc n B i : Nat} {jv : Value} {H : Nat → PH} {y : Yard} (hy : YBd n B y) (hB : B ≤ 1000000) (hi : i < n) (k : Key) :
  Reads Tryz.prog 188 #[yv b, .int .i64 i, .agg (kC k).toArray] (pt b (cl [jv, .slice (some ⟨pb, po, none⟩) n pc] 27) :: YO (.slice (some ⟨pb, po, none⟩) n pc) n H y.pr) (lptr (H i).lv ((y.pr i).line k)) := by
 refine reads_YO (x := [pt b (cl [jv, .slice (some ⟨pb, po, none⟩) n pc] 27)]) fun hok => ?_
 obtain ⟨h1, h2, h3⟩ := YO_at hi hok
 exact line_ct hi h1 h2 (by have := (hy.pb i hi).lines; omega) k
set_option maxRecDepth 100000 in
theorem holdO_ct {b pb po pc n B i : Nat} {jv : Value} {H : Nat → PH} {y : Yard} (hy : YBd n B y) (hB : B ≤ 1000000) (hi : i < n) (of : Int) :
  Reads Tryz.prog 125 #[yv b, .int .i64 i, .int .i64 of] (pt b (cl [jv, .slice (some ⟨pb, po, none⟩) n pc] 27) :: YO (.slice (some ⟨pb, po, none⟩) n pc) n H y.pr) (holdV ((y.pr i).hold of)) := by
 refine reads_YO (x := [pt b (cl [jv, .slice (some ⟨pb, po, none⟩) n pc] 27)]) fun hok => ?_
 obtain ⟨h1, h2, h3⟩ := YO_at hi hok
 exact hold_ct hi h1 h3 (by have := (hy.pb i hi).holds; omega) of
end
end Go.Wt
namespace Go.Wt
open Go Go.Ck Go.Proofs Go.Proofs.YtboepbencndobaaGreat Fx
attribute [local irreducible] St Cd Xt Nx DrL LsW
section
theorem PB.holds_le {n B : Nat} {p : Proc} (h : PB n B p) {l : List Hold} (hl : l.length ≤ B) (hm : ∀ x ∈ l, 0 ≤ x.1 ∧ x.1 < n) : PB n B { p with holds := l } := ⟨h.lines, h.puts, hl, h.did, h.asks, h.made, hm, h.ks⟩
theorem put_self {y : Yard} {i : Nat} (hi : i < y.procs.length) : y.put i (y.pr i) = y := by
 apply Yard.ext'
 ·rfl
 ·exact set_self (by rw [pr_get hi]; exact List.getElem?_eq_getElem hi)
set_option maxHeartbeats 1000000 in
set_option maxRecDepth 100000 in
theorem leave_ct {b pb po pc n B i : Nat} {jv : Value} {H : Nat → PH} {y : Yard} (hy : YBd n B y) (hB : B ≤ 1000000) (hn : n ≤ 1000000) (hi : i < n) :
  Ct Tryz.prog 173 #[yv b, .int .i64 i] (pt b (cl [jv, .slice (some ⟨pb, po, none⟩) n pc] 27) :: YO (.slice (some ⟨pb, po, none⟩) n pc) n H y.pr)
   fun u h' => u = .tuple #[] ∧ ∃ H', h' = pt b (cl [jv, .slice (some ⟨pb, po, none⟩) n pc] 27) :: YO (.slice (some ⟨pb, po, none⟩) n pc) n H' (y.leave i).pr := by
 have hlen := hy.len
 have hpi := hy.pb i hi
 unfold yv
 refine ct_of (n := 55) Tryz.func173 rfl rfl (len rfl) fun hr w0 => ?_
 simp only [List.cons_append]
 refine cS (cR (st_bx rfl rfl fun b2 => ?_))
 refine sN (nK [1, 2] rfl (nT (cS (cR (sV (vF rfl fa179_0 rfl) (sV (vY rfl ld177) ?_))))))
 refine sV (vN rfl) (sV (vF rfl fa27_1 rfl) (sV (vY rfl ld25) ?_))
 refine sV (vM rfl) (sV (vI (k := i) rfl rfl sl25 rfl hi rfl) (sV (vA rfl) (sN (nK [2, 4] rfl (nT (cS (cd_pv (pv_focus hi) ?_)))))))
 have hleave : y.leave i = match (y.pr i).holds.getLast? with
  | none => y
  | some h => (y.put i { y.pr i with holds := (y.pr i).holds.dropLast }).close h := rfl
 have hself := put_self (y := y) (i := i) (by omega)
 generalize hG : H i = G
 generalize hp : y.pr i = p at hpi hleave hself ⊢
 obtain ⟨lines, puts, job, at_, waited, holds, waits, made, did⟩ := p
 rcases List.eq_nil_or_concat holds with hh | ⟨ho, ⟨hsp, hky, hown⟩, hh⟩
 ·skip
  subst hh
  have hl : y.leave i = y := hleave
  rw [hl]
  refine cd_rowf (v := G.hv) slq fun ha hc hve _ _ => ?_
  simp only [List.map_nil, List.length_nil] at hve
  refine cR (sV (vM rfl) (sV (vN rfl) (sV (vF rfl fa77_5 rfl) (sV (vY rfl ld75) ?_))))
  refine sV (v_len (congrArg some hve) Tryz.underlying75) (sV (v_sub rfl rfl (by unfold I64 at *; omega)) (sV (vA rfl) (sN (nK [2, 4, 5] rfl (nT (cS (cS (cR (sV (vM rfl) (sV (v_lss rfl rfl) (sN (nK [2, 4, 5, 22] rfl (nT (cd_true rfl ?_))))))))))))))
  refine cT (xR (xt_pv (pv_unfocus (y := y) (G := G) (p := ⟨lines, puts, job, at_, waited, [], waits, made, did⟩) hlen hi) ?_))
  rw [hself]
  exact xt_rt rfl ⟨rfl, _, rfl⟩
 ·skip
  rw [List.concat_eq_append] at hh
  subst hh
  have hl : y.leave i = (y.put i ⟨lines, puts, job, at_, waited, ho, waits, made, did⟩).close (hsp, hky, hown) := by
   rw [hleave]; simp
  rw [hl]
  have hhl : ho.length + 1 ≤ B := by have := hpi.holds; simpa using this
  have hy1 : YBd n B (y.put i ⟨lines, puts, job, at_, waited, ho, waits, made, did⟩) := hy.put (hpi.holds_le (l := ho) (by omega) fun x hx => hpi.hs x (by simp [hx]))
  have hsp1 := hpi.hs (hsp, hky, hown) (by simp)
  simp only at hsp1
  obtain ⟨sp, rfl⟩ := Int.eq_ofNat_of_zero_le hsp1.1
  have hsp2 : sp < n := by omega
  refine cd_row (v := G.hv) slq (fun _ h0 => by simp at h0) (fun hb ho2 hc hve hcl _ => ?_)
  simp only [List.length_map, List.length_append, List.length_singleton] at hve hcl
  have hrow : ((ho ++ [((sp : Int), hky, hown)]).map holdC)[ho.length]? = some (holdC ((sp : Int), hky, hown)) := by simp
  obtain ⟨lv, pv, hv, dv, av⟩ := G
  simp only at hve
  subst hve
  refine cR (sV (vM rfl) (sV (vN rfl) (sV (vF rfl fa77_5 rfl) (sV (vY rfl ld75) ?_))))
  refine sV (v_len (congrArg some rfl) Tryz.underlying75) (sV (v_sub rfl rfl (by unfold I64 at *; omega)) (sV (vA rfl) (sN (nK [2, 4, 5] rfl (nT (cS (cS (cR (sV (vM rfl) (sV (v_lss rfl rfl) (sN (nK [2, 4, 5, 22] rfl (nT (cC rfl (fun hx => ?_) (fun hx => ?_)))))))))))))))
  ·skip
   exfalso
   have := of_decide_eq_true hx
   omega
  ·skip
   refine cK (xT (cS (cR (sV (vM rfl) (sV (vN rfl) (sV (vF rfl fa77_5 rfl) (sV (vY rfl ld75) ?_)))))))
   refine sV (vM rfl) (sV (vI (k := ho.length) rfl rfl sl75 (by push_cast; omega) (by omega) rfl) ?_)
   refine sV (v_ldn rfl ld161 rfl (rds_vr hrow)) ?_
   refine st_alc al161 fun b6 => ?_
   refine st_stoW rfl rfl sz161 rfl rfl ?_
   refine sN (nK [2, 4, 5, 6] rfl (nT (cS (cR (sV (vM rfl) (sV (vM rfl) (sV (vN rfl) (sV (vF rfl fa77_5 rfl) (sV (vY rfl ld75) ?_)))))))))
   refine sV (vM rfl) (sV (v_sliceHead (hi := ho.length) rfl rfl sl75 (by push_cast; omega) (by omega)) ?_)
   refine sV (vN rfl) (sV (vF rfl fa77_5 rfl) (st_fp (k := 5) (cells' := pC lv pv (.slice (some ⟨hb, ho2, none⟩) ho.length hc) dv ⟨lines, puts, job, at_, waited, ho, waits, made, did⟩) rfl rfl sz75 rfl hi (by decide) rfl slq ?_))
   refine sN (nK [2, 6] rfl (nT (cS ?_)))
   refine cd_pv (k := [VR (.slice (some ⟨hb, ho2, none⟩) (ho.length + 1) hc) 161 4 ((ho ++ [((sp : Int), hky, hown)]).map holdC)]) (k' := [VR (.slice (some ⟨hb, ho2, none⟩) ho.length hc) 161 4 (ho.map holdC)]) (fun t => by
    have h1 := vw_take (E := 161) (sz := 4) (b := hb) (o := ho2) (n := ho.length + 1) (cp := hc) (h := t) (rows := (ho ++ [((sp : Int), hky, hown)]).map holdC) (m := ho.length) (by simp)
    rw [List.map_append, List.take_left' (by simp)] at h1
    rw [List.map_append]
    exact h1) ?_
   refine cd_pv (pv_unfocus (y := y) (G := ⟨lv, pv, .slice (some ⟨hb, ho2, none⟩) ho.length hc, dv, av⟩) (p := ⟨lines, puts, job, at_, waited, ho, waits, made, did⟩) hlen hi) ?_
   generalize y.put i ⟨lines, puts, job, at_, waited, ho, waits, made, did⟩ = y1 at hy1 ⊢
   generalize upd H i ⟨lv, pv, .slice (some ⟨hb, ho2, none⟩) ho.length hc, dv, av⟩ = H1
   refine cR (sV (v_ldn rfl ld179 rfl rds_pt) ?_)
   refine sV (vF rfl fa161_0 rfl) (sV (vY rfl ld3) ?_)
   refine sV (vF rfl fa161_1 rfl) (sV (v_ldn (vs := kC hky) rfl ld79 rfl (rds_sub rds_pt rfl)) ?_)
   refine st_clr rfl rfl en188 rfl (lineO_ct hy1 hB hsp2 hky) ?_
   refine sV (vA rfl) (sN (nK [6, 7] rfl (nT (cS ?_))))
   have hc1 : y1.close ((sp : Int), hky, hown) = if hown = true then y1 else match (y1.pr sp).line hky with
    | none => y1
    | some j => y1.put sp ((y1.pr sp).setl j { (y1.pr sp).lines.getD j Line.none with closed := true }) := rfl
   cases hown
   ·skip
    simp only [Bool.false_eq_true, if_false] at hc1
    cases hln : (y1.pr sp).line hky with
    | none =>
     rw [hln] at hc1
     simp only at hc1
     rw [hc1]
     refine cR (sV (vF rfl fa161_2 rfl) (sV (vY rfl ld4) ?_))
     refine sV (v_not rfl) (sV (vM rfl) (sG rfl rfl (vM rfl) (sG rfl rfl (v_neq_ptr_nil rfl rfl pt202) (sV (vQ rfl rfl) (sN (nK [7, 51] rfl (nT (cd_false rfl ?_))))))))
     refine cK ?_
     exact xt_en rfl ⟨rfl, _, rfl⟩
    | some j =>
     rw [hln] at hc1
     simp only at hc1
     rw [hc1]
     have hjl : j < (y1.pr sp).lines.length := by
      unfold Proc.line at hln
      exact (List.findIdx?_eq_some_iff_getElem.1 hln).1
     have hp1 := hy1.pb sp hsp2
     refine cd_pv (pv_focus hsp2) ?_
     generalize hG1 : H1 sp = G1
     generalize hq : y1.pr sp = q at hjl hp1 ⊢
     obtain ⟨lv1, pv1, hv1, dv1, av1⟩ := G1
     refine cd_ok (r := pureR (av1.length = q.lines.length)) slq fun hpu => ?_
     have hal := pureR_ok hpu
     have hlr : (lrows av1 q.lines).length = q.lines.length := by simp [lrows, hal]
     refine cd_row (v := lv1) slq (fun _ h0 => by rw [h0] at hlr; simp at hlr; omega) (fun lb lo lc hve _ _ => ?_)
     rw [hlr] at hve
     subst hve
     have hlj : q.lines[j]? = some q.lines[j] := List.getElem?_eq_getElem hjl
     have haj : av1[j]? = some av1[j] := List.getElem?_eq_getElem (by omega)
     have hgd : q.lines.getD j Line.none = q.lines[j] := by rw [List.getD_eq_getElem?_getD, hlj]; rfl
     rw [hgd]
     generalize q.lines[j] = l at *
     refine cR (sV (vF rfl fa161_2 rfl) (sV (vY rfl ld4) ?_))
     refine sV (v_not rfl) (sV (vM rfl) (sG rfl rfl (vM rfl) (sG rfl rfl (v_neq_ptr_nil rfl rfl pt202) (sV (vQ rfl rfl) (sN (nK [7, 51] rfl (nT (cd_true rfl ?_))))))))
     refine cR (sV (vM rfl) (sV (vN rfl) (sV (vF rfl fa120_2 rfl) (st_vr (sz := 5) (m := j) (k := 3) rfl rfl sz4 rfl (lrows_at haj hlj) (by decide) (show _ = lrows av1 (q.lines.set j { l with closed := true }) from (lrows_setl (l := { l with closed := true }) hjl hal).trans (by rw [set_self haj])) slq ?_))))
     refine sN (nK [] rfl (nx_xt ?_))
     rw [← arows_same (avs := av1) (l' := { l with closed := true }) hlj rfl]
     refine xt_pv (pv_add (triv_pure (φ := av1.length = (q.lines.set j { l with closed := true }).length) (by simp [hal]))) ?_
     refine xt_pv (pv_unfocus (y := y1) (G := ⟨.slice (some ⟨lb, lo, none⟩) q.lines.length lc, pv1, hv1, dv1, av1⟩) (p := q.setl j { l with closed := true }) hy1.len hsp2) ?_
     exact xt_en rfl ⟨rfl, _, rfl⟩
   ·skip
    simp only [if_true] at hc1
    rw [hc1]
    refine cR (sV (vF rfl fa161_2 rfl) (sV (vY rfl ld4) ?_))
    refine sV (v_not rfl) (sV (vM rfl) (st_sk rfl rfl rfl ?_))
    refine st_sk rfl rfl rfl ?_
    refine sV (vP rfl rfl) (sN (nK [7, 51] rfl (nT (cd_false rfl ?_))))
    refine cK ?_
    exact xt_en rfl ⟨rfl, _, rfl⟩
end
end Go.Wt
namespace Go.Wt
def Yard.W (y : Yard) : Nat := y.procs.countP fun p => decide (0 ≤ p.waits)
theorem W_put {y : Yard} {i : Nat} {p : Proc} (h : p.waits = (y.pr i).waits) : (y.put i p).W = y.W := by
 unfold Yard.W Yard.put
 by_cases hi : i < y.procs.length
 ·rw [List.countP_set hi, h, pr_get hi]
  have : (if decide (0 ≤ (y.procs[i]).waits) = true then 1 else 0) ≤ y.procs.countP fun p => decide (0 ≤ p.waits) := by
   split
   ·rename_i hq
    exact List.countP_pos_iff.2 ⟨_, List.getElem_mem hi, hq⟩
   ·exact Nat.zero_le _
  omega
 ·rw [List.set_eq_of_length_le (by omega)]
theorem W_down {y : Yard} {s : Nat} {p : Proc} (hs : s < y.procs.length) (h : 0 ≤ (y.pr s).waits) (hp : p.waits = -1) : (y.put s p).W + 1 = y.W := by
 unfold Yard.W Yard.put
 rw [List.countP_set hs, hp]
 rw [pr_get hs] at h
 have h1 : 0 < y.procs.countP fun p => decide (0 ≤ p.waits) := List.countP_pos_iff.2 ⟨_, List.getElem_mem hs, by simpa using h⟩
 simp only [h, decide_true, if_true] at h1 ⊢
 simp
 omega
theorem leave_len (y : Yard) (i : Nat) : (y.leave i).procs.length = y.procs.length := by
 unfold Yard.leave
 split
 ·rfl
 ·unfold Yard.close
  split
  ·exact put_len ..
  ·split
   ·exact put_len ..
   ·rw [put_len, put_len]
theorem close_cases (y : Yard) (h : Hold) : y.close h = y ∨ ∃ j l, (y.pr h.1.toNat).lines[j]? = some l ∧ y.close h = y.put h.1.toNat ((y.pr h.1.toNat).setl j { l with closed := true }) := by
 unfold Yard.close
 split
 ·exact .inl rfl
 ·cases hl : (y.pr h.1.toNat).line h.2.1 with
  | none => exact .inl rfl
  | some j =>
   right
   unfold Proc.line at hl
   have hj := (List.findIdx?_eq_some_iff_getElem.1 hl).1
   refine ⟨j, (y.pr h.1.toNat).lines[j], List.getElem?_eq_getElem hj, ?_⟩
   simp only [List.getD_eq_getElem?_getD, List.getElem?_eq_getElem hj, Option.getD_some]
theorem close_pr {y : Yard} {h : Hold} {k : Nat} : ((y.close h).pr k).holds = (y.pr k).holds ∧ ((y.close h).pr k).waits = (y.pr k).waits := by
 rcases close_cases y h with e | ⟨j, l, _, e⟩
 ·rw [e]; exact ⟨rfl, rfl⟩
 ·rw [e]
  by_cases hk : k = h.1.toNat
  ·subst hk
   by_cases hi : h.1.toNat < y.procs.length
   ·rw [put_same hi]; exact ⟨rfl, rfl⟩
   ·have : y.put h.1.toNat ((y.pr h.1.toNat).setl j { l with closed := true }) = y := by
     apply Yard.ext'
     ·rfl
     ·exact List.set_eq_of_length_le (by omega)
    rw [this]; exact ⟨rfl, rfl⟩
  ·rw [put_ne _ hk]; exact ⟨rfl, rfl⟩
theorem close_W (y : Yard) (h : Hold) : (y.close h).W = y.W := by
 rcases close_cases y h with e | ⟨j, l, _, e⟩
 ·rw [e]
 ·rw [e]; exact W_put rfl
theorem leave_W (y : Yard) (i : Nat) : (y.leave i).W = y.W := by
 unfold Yard.leave
 split
 ·rfl
 ·rw [close_W]; exact W_put rfl
theorem leave_holds {y : Yard} {i : Nat} (hi : i < y.procs.length) : ((y.leave i).pr i).holds = (y.pr i).holds.dropLast := by
 unfold Yard.leave
 split
 ·rename_i h
  rw [List.getLast?_eq_none_iff] at h
  rw [h]; rfl
 ·rw [close_pr.1, put_same hi]
theorem PB.setl {n B : Nat} {p : Proc} (h : PB n B p) {j : Nat} {l l' : Line} (hl : p.lines[j]? = some l) (ha : l'.asks.length ≤ B) (hk : l'.key = l.key) : PB n B (p.setl j l') :=
 ⟨by have := h.lines; simpa [Proc.setl] using this, h.puts, h.holds, h.did, fun x hx => by
  rcases List.mem_or_eq_of_mem_set hx with hx | rfl
  ·exact h.asks x hx
  ·exact ha, h.made, h.hs, fun x hx => by
  rcases List.mem_or_eq_of_mem_set hx with hx | rfl
  ·exact h.ks x hx
  ·rw [hk]; exact h.ks l (List.mem_of_getElem? hl)⟩
theorem YBd.close {n B : Nat} {y : Yard} (hy : YBd n B y) {h : Hold} (h1 : h.1.toNat < n) : YBd n B (y.close h) := by
 rcases close_cases y h with e | ⟨j, l, hl, e⟩
 ·rw [e]; exact hy
 ·rw [e]
  exact hy.put ((hy.pb _ h1).setl hl (by have := (hy.pb _ h1).asks l (List.mem_of_getElem? hl); exact this) rfl)
theorem YBd.leave {n B : Nat} {y : Yard} (hy : YBd n B y) {i : Nat} (hi : i < n) : YBd n B (y.leave i) := by
 unfold Yard.leave
 have hp := hy.pb i hi
 split
 ·exact hy
 ·rename_i h hh
  have hm : h ∈ (y.pr i).holds := List.mem_of_getLast? hh
  have hs := hp.hs h hm
  exact (hy.put (hp.holds_le (l := (y.pr i).holds.dropLast) (by rw [List.length_dropLast]; have := hp.holds; omega) fun x hx => hp.hs x ((List.dropLast_sublist _).subset hx))).close (by omega)
theorem YBd.leaves {n B : Nat} {i : Nat} (hi : i < n) : ∀ (k : Nat) {y : Yard}, YBd n B y → YBd n B (y.leaves i k)
 | 0, _, hy => hy
 | k + 1, _, hy => YBd.leaves hi k (hy.leave hi)
theorem put_put (y : Yard) (i : Nat) (p q : Proc) : (y.put i p).put i q = y.put i q := by
 apply Yard.ext'
 ·rfl
 ·show (y.procs.set i p).set i q = y.procs.set i q
  exact List.set_set _
theorem ends_eq (m : Nat) {y : Yard} {i : Nat} (hi : i < y.procs.length) (failed : Bool) : Yard.ends (m + 1) y i failed =
  match ((y.leaves i (y.pr i).holds.length).pr i).lines with
  | [] => (y.leaves i (y.pr i).holds.length).put i { (y.leaves i (y.pr i).holds.length).pr i with job := -1, pc := 0, waited := false }
  | l :: t => if ((y.leaves i (y.pr i).holds.length).pr i).waited = true then
    ((y.leaves i (y.pr i).holds.length).put i { (y.leaves i (y.pr i).holds.length).pr i with job := -1, pc := 0, waited := false, did := ((y.leaves i (y.pr i).holds.length).pr i).did ++ [(l.key, ((y.leaves i (y.pr i).holds.length).pr i).job, false, failed)], lines := { l with broken := l.broken || failed } :: t }).answer m l.key.1.toNat i failed
   else (y.leaves i (y.pr i).holds.length).put i { (y.leaves i (y.pr i).holds.length).pr i with job := -1, pc := 0, waited := false, did := ((y.leaves i (y.pr i).holds.length).pr i).did ++ [(l.key, ((y.leaves i (y.pr i).holds.length).pr i).job, false, failed)], lines := { l with broken := l.broken || failed } :: t } := by
 have hlen : ∀ (k : Nat) (z : Yard), (z.leaves i k).procs.length = z.procs.length := by
  intro k
  induction k with
  | zero => exact fun _ => rfl
  | succ k ih => exact fun z => (ih _).trans (leave_len z i)
 have h1 : i < (y.leaves i (y.pr i).holds.length).procs.length := by rw [hlen]; exact hi
 unfold Yard.ends
 simp only
 generalize y.leaves i (y.pr i).holds.length = z at h1 ⊢
 cases (z.pr i).lines with
 | nil => rfl
 | cons l t =>
  simp only [put_same h1, put_put]
  rfl
mutual
theorem YBd.ends {n : Nat} : ∀ (m B : Nat) {y : Yard} {i : Nat} {failed : Bool}, YBd n B y → i < n → YBd n (B + m) (Yard.ends m y i failed)
 | 0, B, y, i, failed, hy, _ => hy
 | m + 1, B, y, i, failed, hy, hi => by
  rw [ends_eq m (by rw [hy.len]; exact hi)]
  have hz := YBd.leaves hi (y.pr i).holds.length hy
  generalize y.leaves i (y.pr i).holds.length = z at hz ⊢
  have hp := hz.pb i hi
  split
  ·exact YBd.le (B := B) (hz.put ⟨hp.lines, hp.puts, hp.holds, hp.did, hp.asks, hp.made, hp.hs, hp.ks⟩) (by omega)
  ·rename_i l t hl
   have hlm : l ∈ (z.pr i).lines := by rw [hl]; simp
   have hy2 : YBd n (B + 1) (z.put i { z.pr i with job := -1, pc := 0, waited := false, did := (z.pr i).did ++ [(l.key, (z.pr i).job, false, failed)], lines := { l with broken := l.broken || failed } :: t }) :=
    (hz.le (Nat.le_succ B)).put ⟨by have := hp.lines; rw [hl] at this; simp at this ⊢; omega, by have := hp.puts; simp; omega, by have := hp.holds; simp; omega, by have := hp.did; simp; omega, fun x hx => by
      rcases List.mem_cons.1 hx with rfl | hx
      ·have := hp.asks l hlm; simp; omega
      ·have := hp.asks x (by rw [hl]; simp [hx]); omega, by have := hp.made; simp; omega, hp.hs, fun x hx => by
      rcases List.mem_cons.1 hx with rfl | hx
      ·exact hp.ks l hlm
      ·exact hp.ks x (by rw [hl]; simp [hx])⟩
   have hk := hp.ks l hlm
   split
   ·exact (YBd.answer m (B + 1) hy2 (by omega)).le (by omega)
   ·exact hy2.le (by omega)
theorem YBd.answer {n : Nat} : ∀ (m B : Nat) {y : Yard} {s i : Nat} {failed : Bool}, YBd n B y → s < n → YBd n (B + m) (y.answer m s i failed) := fun m B y s i failed hy hs => by
 unfold Yard.answer
 split
 ·have hp := hy.pb s hs
  have h2 : YBd n B (y.put s { y.pr s with waits := -1 }) := hy.put ⟨hp.lines, hp.puts, hp.holds, hp.did, hp.asks, hp.made, hp.hs, hp.ks⟩
  simp only
  split
  ·exact YBd.ends m B h2 hs
  ·exact h2.le (by omega)
 ·exact hy.le (by omega)
end
end Go.Wt
namespace Go.Wt
open Go Go.Ck Go.Proofs Go.Proofs.YtboepbencndobaaGreat Fx
attribute [local irreducible] St Cd Xt Nx DrL LsW
def EndC (m : Nat) : Prop := ∀ {b pb po pc n B i : Nat} {jv : Value} {H : Nat → PH} {y : Yard} (failed : Bool), YBd n B y → B + m ≤ 1000000 → n ≤ 1000000 → i < n → y.W < m →
  Ct Tryz.prog 146 #[yv b, .int .i64 i, .bool failed] (pt b (cl [jv, .slice (some ⟨pb, po, none⟩) n pc] 27) :: YO (.slice (some ⟨pb, po, none⟩) n pc) n H y.pr)
   fun u h' => u = .tuple #[] ∧ ∃ H', h' = pt b (cl [jv, .slice (some ⟨pb, po, none⟩) n pc] 27) :: YO (.slice (some ⟨pb, po, none⟩) n pc) n H' (Yard.ends m y i failed).pr
section
set_option maxRecDepth 100000 in
theorem answer_ct {m : Nat} (hE : EndC m) {b pb po pc n B i s : Nat} {jv : Value} {H : Nat → PH} {y : Yard} (failed : Bool) (hy : YBd n B y) (hB : B + m ≤ 1000000) (hn : n ≤ 1000000) (hs : s < n) (hW : y.W ≤ m) :
  Ct Tryz.prog 148 #[yv b, .int .i64 s, .int .i64 i, .bool failed] (pt b (cl [jv, .slice (some ⟨pb, po, none⟩) n pc] 27) :: YO (.slice (some ⟨pb, po, none⟩) n pc) n H y.pr)
   fun u h' => u = .tuple #[] ∧ ∃ H', h' = pt b (cl [jv, .slice (some ⟨pb, po, none⟩) n pc] 27) :: YO (.slice (some ⟨pb, po, none⟩) n pc) n H' (y.answer m s i failed).pr := by
 have hlen := hy.len
 have hps := hy.pb s hs
 have hself := put_self (y := y) (i := s) (by omega)
 have hans : y.answer m s i failed = if (y.pr s).waits = (i : Int) then (if failed = true then Yard.ends m (y.put s { y.pr s with waits := -1 }) s true else y.put s { y.pr s with waits := -1 }) else y := rfl
 rw [hans]
 have hW2 : (y.pr s).waits = (i : Int) → (y.put s { y.pr s with waits := -1 }).W < m := fun h => by
  have := W_down (y := y) (s := s) (p := { y.pr s with waits := -1 }) (by omega) (by omega) rfl
  omega
 unfold yv
 refine ct_of (n := 29) Tryz.func148 rfl rfl (len rfl) fun hr w0 => ?_
 simp only [List.cons_append]
 refine cS (cR (st_bx rfl rfl fun b4 => ?_))
 refine sN (nK [1, 2, 3, 4] rfl (nT (cS (cR (sV (vF rfl fa179_0 rfl) (sV (vY rfl ld177) ?_))))))
 refine sV (vN rfl) (sV (vF rfl fa27_1 rfl) (sV (vY rfl ld25) ?_))
 refine sV (vM rfl) (sV (vI (k := s) rfl rfl sl25 rfl hs rfl) (sV (vA rfl) (sN (nK [1, 2, 3, 4, 8] rfl (nT (cS (cS (cd_pv (pv_focus hs) ?_))))))))
 generalize hG : H s = G
 generalize hp : y.pr s = p at hps hself hW2 ⊢
 refine cR (sV (vM rfl) (sV (vN rfl) (sV (vF rfl fa77_6 rfl) (sV (vY rfl ld3) ?_))))
 refine sV (vM rfl) (sV (v_neq rfl rfl) (sN (nK [1, 3, 4, 8, 21] rfl (nT (cC rfl (fun hc => ?_) (fun hc => ?_))))))
 ·skip
  refine cT (xR ?_)
  rw [if_neg (by simpa using hc)]
  refine xt_pv (pv_unfocus (y := y) (G := G) (p := p) hlen hs) ?_
  rw [hself]
  exact xt_rt rfl ⟨rfl, _, rfl⟩
 ·skip
  have hc2 : p.waits = (i : Int) := by simpa using hc
  have hW3 := hW2 hc2
  rw [if_pos hc2]
  refine cK (xT (cS (cR (sV (vM rfl) (sV (vN rfl) (sV (vF rfl fa77_6 rfl) (st_fp (k := 6) (cells' := hpC G { p with waits := -1 }) rfl rfl sz3 rfl hs (by decide) rfl slq ?_)))))))
  refine sN (nK [1, 3, 4] rfl (nT (cS ?_)))
  have hy2 : YBd n B (y.put s { p with waits := -1 }) := hy.put ⟨hps.lines, hps.puts, hps.holds, hps.did, hps.asks, hps.made, hps.hs, hps.ks⟩
  refine cd_pv (pv_unfocus (y := y) (G := G) (p := { p with waits := -1 }) hlen hs) ?_
  refine cR (sV (vM rfl) (sN (nK [1, 4, 25] rfl (nT (cC rfl (fun hf => ?_) (fun hf => ?_))))))
  ·skip
   refine cR ?_
   subst hf
   refine sV (v_ldn rfl ld179 rfl rds_pt) ?_
   refine sV (vM rfl) (st_cl rfl rfl en146 rfl (hE true hy2 hB hn hs hW3) ?_)
   rintro u h' ⟨rfl, H', rfl⟩
   refine sN (nK [] rfl (nx_xt ?_))
   exact xt_en rfl ⟨rfl, _, rfl⟩
  ·skip
   refine cK ?_
   subst hf
   exact xt_en rfl ⟨rfl, _, rfl⟩
theorem PB.after {n B : Nat} {p : Proc} (hp : PB n B p) {l : Line} {t : List Line} (hl : p.lines = l :: t) (br : Bool) (d : Did) : PB n (B + 1) { p with job := -1, pc := 0, waited := false, did := p.did ++ [d], lines := { l with broken := br } :: t } := by
 have hlm : l ∈ p.lines := by rw [hl]; simp
 exact ⟨by
  have := hp.lines; rw [hl] at this; simp at this ⊢; omega, by have := hp.puts; simp; omega, by have := hp.holds; simp; omega, by have := hp.did; simp; omega, fun x hx => by
  rcases List.mem_cons.1 hx with rfl | hx
  ·have := hp.asks l hlm; simp; omega
  ·have := hp.asks x (by rw [hl]; simp [hx]); omega, by have := hp.made; simp; omega, hp.hs, fun x hx => by
  rcases List.mem_cons.1 hx with rfl | hx
  ·exact hp.ks l hlm
  ·exact hp.ks x (by rw [hl]; simp [hx])⟩
set_option maxHeartbeats 1000000 in
set_option maxRecDepth 100000 in
theorem end_ct {m : Nat} (hE : EndC m) : EndC (m + 1) := by
 intro b pb po pc n B i jv H y failed hy hB hn hi hW
 have hleq := ends_eq m (y := y) (i := i) (by rw [hy.len]; exact hi) failed
 unfold yv
 refine ct_of (n := 92) Tryz.func146 rfl rfl (len rfl) fun hr w0 => ?_
 simp only [List.cons_append]
 refine cS (cR (st_bx rfl rfl fun b3 => ?_))
 refine sN (nK [1, 2, 3] rfl (nT (cS (cR (sV (vF rfl fa179_0 rfl) (sV (vY rfl ld177) ?_))))))
 refine sV (vN rfl) (sV (vF rfl fa27_1 rfl) (sV (vY rfl ld25) ?_))
 refine sV (vM rfl) (sV (vI (k := i) rfl rfl sl25 rfl hi rfl) (sV (vA rfl) (sN (nK [1, 2, 3, 6] rfl (nT (cS (cB (cd_lp (σ := Yard × (Nat → PH)) (fun q => [(1, .int .i64 (i : Nat)), (2, .bool failed), (3, .pointer (some ⟨b3, 0, none⟩)), (6, .pointer (some ⟨pb, po + i * 9, none⟩))]) (fun q => pt b3 (cl [.pointer (some ⟨b, 0, none⟩)] 179) :: pt b (cl [jv, .slice (some ⟨pb, po, none⟩) n pc] 27) :: (YO (.slice (some ⟨pb, po, none⟩) n pc) n q.2 q.1.pr ++ hr)) (fun q => YBd n B q.1 ∧ q.1.W = y.W ∧ q.1.leaves i (q.1.pr i).holds.length = y.leaves i (y.pr i).holds.length) (fun q => (q.1.pr i).holds.length) (y, H) ⟨hy, rfl, rfl⟩ ?_))))))))
 rintro ⟨z, H⟩ ⟨hz, hzW, hzl⟩
 simp only at hz hzW hzl
 dsimp only
 refine cd_pv (pv_focus hi) ?_
 have hzlen := hz.len
 have hpz := hz.pb i hi
 have hself := put_self (y := z) (i := i) (by omega)
 have hlv := leave_holds (y := z) (i := i) (by omega)
 generalize hG : H i = G
 obtain ⟨lv, pv, hv, dv, av⟩ := G
 generalize hp : z.pr i = p at hpz hself hlv hzl ⊢
 refine cd_rowf (v := hv) slq fun ha hc hve _ _ => ?_
 simp only [List.length_map] at hve
 subst hve
 refine cS (cS (cR (sV (vM rfl) (sV (vN rfl) (sV (vF rfl fa77_5 rfl) (sV (vY rfl ld75) ?_))))))
 refine sV (v_len rfl Tryz.underlying75) (sV (v_gtr rfl rfl) (sN (nK [1, 2, 3, 6, 22] rfl (nT (cC rfl (fun hd => ?_) (fun hd => ?_))))))
 ·skip
  have hpos : 0 < p.holds.length := by have := of_decide_eq_true hd; omega
  refine cd_pv (pv_unfocus (y := z) (G := ⟨lv, pv, .slice ha p.holds.length hc, dv, av⟩) (p := p) hzlen hi) ?_
  rw [hself]
  refine cK (xT (cB (cR (sV (v_ldn rfl ld179 rfl rds_pt) ?_))))
  refine sV (vM rfl) (st_cl rfl rfl en173 rfl (leave_ct hz (by omega) hn hi) ?_)
  rintro u h' ⟨rfl, H', rfl⟩
  refine sN (nK [1, 2, 3, 6] rfl (nx_xt (xB (xt_ag (z.leave i, H') ⟨hz.leave hi, by rw [leave_W]; exact hzW, ?_⟩ (by show ((z.leave i).pr i).holds.length < (z.pr i).holds.length; rw [hlv, hp, List.length_dropLast]; omega)))))
  show (z.leave i).leaves i ((z.leave i).pr i).holds.length = _
  rw [hlv, List.length_dropLast, ← hzl]
  obtain ⟨k, hk⟩ : ∃ k, p.holds.length = k + 1 := ⟨p.holds.length - 1, by omega⟩
  rw [hk]; rfl
 ·skip
  have h0 : p.holds = [] := List.eq_nil_of_length_eq_zero (by have := of_decide_eq_false hd; omega)
  rw [← hzl, h0] at hleq
  have hl0 : z.leaves i ([] : List Hold).length = z := rfl
  rw [hl0, hp] at hleq
  refine cd_exit (xE (xE (xY (xT (cS (cd_drawh (ork [(0, 2), (1, 2), (2, 2), (3, 1), (4, 2), (5, 2), (6, 2), (7, 1), (8, 2), (9, 2)] .nil) (fun _ => true) mixed (by kernel_rfl) ?_))))))
  refine dV rfl (vM rfl) (dV rfl (vN rfl) (dV rfl (vF rfl fa77_2 rfl) (dr_v rfl (vY rfl ld3) ?_)))
  refine dV rfl (vM rfl) (dV rfl (vN rfl) (dV rfl (vF rfl fa77_4 rfl) (dr_v rfl (vY rfl ld4) ?_)))
  refine dV rfl (vA rfl) (dV rfl (vA rfl) (dr_nil (nK [1, 2, 3, 6, 7, 8] rfl (nT (cS (cR (sV (vM rfl) (sV (vM rfl) (sV (vM rfl) (sV (vN rfl) (sV (vF rfl fa77_2 rfl) (st_fp (k := 2) (cells' := pC lv pv (.slice ha p.holds.length hc) dv { p with job := -1 }) rfl rfl sz3 rfl hi (by decide) rfl slq ?_))))))))))))
  refine sV (vN rfl) (sV (vF rfl fa77_3 rfl) (st_fp (k := 3) (cells' := pC lv pv (.slice ha p.holds.length hc) dv { p with job := -1, pc := 0 }) rfl rfl sz3 rfl hi (by decide) rfl slq ?_))
  refine sV (vN rfl) (sV (vF rfl fa77_4 rfl) (st_fp (k := 4) (cells' := pC lv pv (.slice ha p.holds.length hc) dv { p with job := -1, pc := 0, waited := false }) rfl rfl sz4 rfl hi (by decide) rfl slq ?_))
  refine sN (nK [1, 2, 3, 6, 7, 8] rfl (nT (cS (cS (cd_ok (r := pureR (av.length = p.lines.length)) slq fun hpu => ?_)))))
  have hal := pureR_ok hpu
  obtain ⟨lines, puts, job, at_, waited, holds, waits, made, did⟩ := p
  cases lines with
  | nil =>
   simp only at hleq
   refine cd_rowf (v := lv) slq fun la lc hve _ _ => ?_
   simp only [lrows, List.zipWith_nil_right, List.length_nil] at hve
   refine cR (sV (vM rfl) (sV (vN rfl) (sV (vF rfl fa77_0 rfl) (sV (vY rfl ld73) ?_))))
   refine sV (v_len (congrArg some hve) Tryz.underlying73) (sV (v_eql rfl rfl) (sN (nK [1, 2, 3, 6, 7, 8, 48] rfl (nT (cd_true rfl ?_)))))
   refine cT (xR (xt_pv (pv_unfocus (y := z) (G := ⟨lv, pv, .slice ha holds.length hc, dv, av⟩) (p := ⟨[], puts, -1, 0, false, holds, waits, made, did⟩) hzlen hi) ?_))
   rw [hleq]
   exact xt_rt rfl ⟨rfl, _, rfl⟩
  | cons l t =>
   simp only at hleq
   cases av with
   | nil => exact absurd hal (by simp)
   | cons a1 avs =>
    have hlr : (lrows (a1 :: avs) (l :: t)).length = (l :: t).length := by simp [lrows] at hal ⊢; omega
    refine cd_row (v := lv) slq (fun _ h0 => by rw [h0] at hlr; simp at hlr) (fun lb lo lc hve _ _ => ?_)
    rw [hlr] at hve
    subst hve
    refine cR (sV (vM rfl) (sV (vN rfl) (sV (vF rfl fa77_0 rfl) (sV (vY rfl ld73) ?_))))
    refine sV (v_len (congrArg some rfl) Tryz.underlying73) (sV (v_eql rfl rfl) (sN (nK [1, 2, 3, 6, 7, 8, 48] rfl (nT (cC rfl (fun hx => ?_) (fun hx => ?_))))))
    ·skip
     exfalso
     simp at hx
     omega
    ·skip
     refine cK (xT (cS (cR (sV (vM rfl) (sV (vN rfl) (sV (vF rfl fa77_0 rfl) (sV (vY rfl ld73) ?_)))))))
     refine sV (vI (k := 0) rfl rfl sl73 rfl (by simp) rfl) ?_
     refine sV (vF rfl fa120_0 rfl) (sV (v_ldn (vs := kC l.key) rfl ld79 rfl (rds_sub (rds_vr (m := 0) (r := lC a1 l) rfl) rfl)) ?_)
     refine st_alc al79 fun b9 => ?_
     refine st_stoW rfl rfl sz79 rfl rfl ?_
     refine sN (nK [1, 2, 3, 6, 7, 8, 9] rfl (nT (cS (cd_drawh (ork [(0, 2), (1, 2), (2, 2), (3, 2), (4, 1), (5, 1), (6, 2), (7, 2), (8, 2), (9, 0), (10, 0), (11, 2), (12, 2), (13, 0)] .nil) (fun i => !(Nat.beq i 10 || Nat.beq i 13)) mixed (by kernel_rfl) ?_))))
     refine dV rfl (vM rfl) (dV rfl (vM rfl) (dV rfl (vN rfl) (dV rfl (vF rfl fa77_8 rfl) (dr_v rfl (vY rfl ld62) ?_))))
     refine dr_v rfl (v_ldn rfl ld79 rfl rds_pt) ?_
     refine dV rfl (vM rfl) (dV rfl (vM rfl) (dV rfl (v_build (cells := dC (l.key, job, false, failed)) rfl (fun _ => by kernel_rfl)) ?_))
     refine dr_eff rfl (st_buildSlice (cells := dC (l.key, job, false, failed)) rfl Tryz.underlying62 inf81 rfl rfl (by kernel_rfl) (ltn rfl) fun b65 => dr_nx ?_)
     have hdl := hpz.did
     simp only at hdl
     refine dr_eff rfl (st_app (v := dv) [dC (l.key, job, false, failed)] rfl rfl Tryz.underlying62 inf81 rfl (by decide) slq (by simp [dC]) rfl (fun j u2 hu2 => at_here (rd_cl (by simpa using hu2))) (by simp [dC, Value.oneCell']) (by simp; omega) (by simp; omega) (ltn rfl) fun v' hv' _ => dr_nx ?_)
     refine dV rfl (vN rfl) (dV rfl (vF rfl fa77_8 rfl) (dr_eff rfl (st_fp (k := 8) (cells' := pC (.slice (some ⟨lb, lo, none⟩) (l :: t).length lc) pv (.slice ha holds.length hc) v' ⟨l :: t, puts, -1, 0, false, holds, waits, made, did⟩) rfl rfl sz62 hv' hi (by decide) rfl slq (dr_nx ?_))))
     refine dr_nil (nK [1, 2, 3, 6, 8, 9] rfl (nT (cS (cd_drawh (ork [(0, 2), (1, 2), (2, 2), (3, 1), (4, 2), (5, 2), (6, 2), (7, 1), (8, 2), (9, 2), (10, 1), (11, 2), (12, 2), (13, 2), (14, 2), (15, 2), (16, 0)] .nil) (fun i => !(Nat.beq i 16)) mixed (by kernel_rfl) ?_))))
     refine dV rfl (vM rfl) (dV rfl (vN rfl) (dV rfl (vF rfl fa77_0 rfl) (dr_v rfl (vY rfl ld73) ?_)))
     refine dV rfl (vM rfl) (dV rfl (vN rfl) (dV rfl (vF rfl fa77_0 rfl) (dr_v rfl (vY rfl ld73) ?_)))
     refine dV rfl (vI (k := 0) rfl rfl sl73 rfl (by simp) rfl) ?_
     have hbr := rd_vrk (E := 120) (b := lb) (o := lo) (n := (l :: t).length) (cp := lc) (sz := 5) (m := 0) (k := 4) (rows := lrows (a1 :: avs) (l :: t)) (r := lC a1 l) rfl rfl
     refine dV rfl (vF rfl fa120_3 rfl) (dr_v rfl (vY rfl ld4) ?_)
     refine dV rfl (vM rfl) (dr_cut (k := 2) (d := 82) (v := .bool (l.broken || failed)) (fun hcut => bool_want (b := l.broken) false (fun hg => ?_) (fun hg => ?_)) ?_)
     ·refine dp_sk rfl rfl rfl hg ?_
      refine dV rfl (vQ (bE rfl hg) rfl) ?_
      exact hcut _ (uH (by first | rfl | (rw [hg]; rfl) | simp_all) (uS rfl (uR)))
     ·skip
      refine dp_vg rfl rfl (bG rfl hg) (vM rfl) (dV rfl (vP (bE rfl hg) rfl) ?_)
      exact hcut _ (uH (by first | rfl | (rw [hg]; rfl) | simp_all) (uS rfl (uR)))
     refine dV rfl (vI (k := 0) rfl rfl sl73 rfl (by simp) rfl) ?_
     refine dV rfl (vF rfl fa120_3 rfl) (dr_eff rfl (st_vr (sz := 5) (m := 0) (k := 4) (r := lC a1 l) rfl rfl sz4 rfl rfl (by decide) (show _ = lrows (a1 :: avs) ({ l with broken := l.broken || failed } :: t) from rfl) slq (dr_nx ?_)))
     refine dr_nil (nK [1, 2, 3, 8, 9] rfl (nT (cS ?_)))
     rw [map_snoc]
     refine cd_pv (pv_unfocus (y := z) (G := ⟨.slice (some ⟨lb, lo, none⟩) (l :: t).length lc, pv, .slice ha holds.length hc, v', a1 :: avs⟩) (p := ⟨{ l with broken := l.broken || failed } :: t, puts, -1, 0, false, holds, waits, made, did ++ [(l.key, job, false, failed)]⟩) hzlen hi) ?_
     refine cR (sV (vM rfl) (sN (nK [1, 2, 3, 9, 85] rfl (nT ?_))))
     have hy3 : YBd n (B + 1) (z.put i ⟨{ l with broken := l.broken || failed } :: t, puts, -1, 0, false, holds, waits, made, did ++ [(l.key, job, false, failed)]⟩) := (hz.le (Nat.le_succ B)).put (hpz.after (p := ⟨l :: t, puts, job, at_, waited, holds, waits, made, did⟩) rfl _ _)
     have hk := hpz.ks l (by simp)
     have hW3 : (z.put i ⟨{ l with broken := l.broken || failed } :: t, puts, -1, 0, false, holds, waits, made, did ++ [(l.key, job, false, failed)]⟩).W = z.W := W_put (by rw [hp])
     refine cC rfl (fun hwt => ?_) (fun hwt => ?_)
     ·skip
      rw [if_pos (by exact hwt)] at hleq
      rw [hleq]
      refine cR (sV (v_ldn rfl ld179 rfl rds_pt) ?_)
      refine sV (vF rfl fa79_0 rfl) (sV (vY rfl ld3) ?_)
      refine sV (vM rfl) (sV (vM rfl) ?_)
      obtain ⟨s, hs⟩ := Int.eq_ofNat_of_zero_le hk.1
      have hs2 : l.key.1.toNat = s := by omega
      rw [hs2]
      refine st_cl rfl rfl en148 rfl ((hs ▸ answer_ct hE (b := b) (pb := pb) (po := po) (pc := pc) (i := i) (s := s) (jv := jv) (H := upd H i ⟨.slice (some ⟨lb, lo, none⟩) (l :: t).length lc, pv, .slice ha holds.length hc, v', a1 :: avs⟩) failed hy3 (by omega) hn (by omega) (by omega))) ?_
      rintro u h' ⟨rfl, H', rfl⟩
      refine sN (nK [] rfl (nx_xt ?_))
      exact xt_en rfl ⟨rfl, _, rfl⟩
     ·skip
      rw [if_neg (by simpa using hwt)] at hleq
      rw [hleq]
      refine cK ?_
      exact xt_en rfl ⟨rfl, _, rfl⟩
end
end Go.Wt
