/-
  Package wait: New. Conditions: what is read.
  Package wait: what a key, a request, a queue, a reservation, a deed must be. Conditions: what is read.
  Package wait: right. Conditions: what is read, that lists are not too long.
  Package wait: opened, state, State, Ended. Conditions: what is read, that lists are not too long.
  Package wait: State, Ended; the processors that can go on. Conditions: what is read, that lists are not too long.
  Package wait: for whom one waits; rings. Conditions: what is read, that lists are not too long.
  Package wait: Ring, CheckRing, Orders. Conditions: what is read, that lists are not too long.
  Rings: what the search for one finds. Nothing of the program is named here. No condition.
  Where nobody can go on all is idle, or there is a ring; a ring stays one. Nothing of the program is named here. No condition.
  Jobs that send requests to greater processors alone: no ring, nothing failed; such jobs made. Nothing of the program is named here. No condition.
  Package wait: Orders, Blocks. Conditions: what is read, that lists are not too long.
  Package wait: Blocks. Conditions: what is read, that lists are not too long.
-/
import Derived.Test.YtboepbencndobaaGreatM6
import Derived.Test.YtboepbencndobaaGreatM4
set_option linter.unusedVariables false
set_option linter.unusedSimpArgs false
namespace Go.Wt
open Go Go.Ck Go.Proofs Go.Proofs.YtboepbencndobaaGreat Fx
attribute [local irreducible] St Cd Xt Nx DrL LsW
section
variable {S : Res} {jv : Value}
theorem fill_one {u : Value} (hu : u.oneCell' = true) (c0 : Array Value) (h0 : c0.size = 1) : Instr.fill (fun i => some (i * 1, 1)) c0 [(0, u)] = some #[u] := by
 have hc : u.cells = #[u] := by cases u <;> first | rfl | (simp [Value.oneCell'] at hu)
 rcases c0 with ⟨_ | ⟨x, _ | ⟨y, t⟩⟩⟩
 ·simp at h0
 ·simp [Instr.fill, hc]
 ·simp at h0
theorem jrows_snoc {hs : List Value} {l1 : List (List Move)} {x : Value} {l : List Move} (h : hs.length = l1.length) : jrows (hs ++ [x]) (l1 ++ [l]) = jrows hs l1 ++ [VR x 110 3 (l.map mC)] := by unfold jrows; rw [List.zipWith_append h]; rfl
theorem replicate_snoc {α : Type} (n : Nat) (a : α) : List.replicate n a ++ [a] = List.replicate (n + 1) a := by rw [List.replicate_succ']
theorem mC_one (l : List Move) : ∀ us x, x ∈ l → eqC mC us x → ∀ u ∈ us, u.oneCell' = true := fun us x _ h u hu => by cases h; simp [mC] at hu; rcases hu with rfl | rfl | rfl <;> rfl
def newY (jobs : List (List Move)) (spots : Int) : Yard := if check jobs spots = 0 then Yard.new jobs spots.toNat else Yard.nil
theorem nil_yard : ∀ T, yardR T [.slice none 0 0, .slice none 0 0] Yard.nil := fun T => ⟨_, _, rfl, Row.nil, Row.nil⟩
theorem new_range (jobs : List (List Move)) (n : Nat) : (⟨jobs, (List.range n).map (Yard.new jobs n).pr⟩ : Yard) = Yard.new jobs n := by
 unfold Yard.new Yard.pr
 congr 1
 apply List.ext_getElem
 ·simp
 ·intro i h1 h2
  simp at h1 h2
  rw [List.getElem_map, List.getElem_range, List.getD_eq_getElem?_getD, List.getElem?_eq_getElem (by simpa using h2), Option.getD_some]
theorem check_pos {jobs : List (List Move)} {spots : Int} (h : check jobs spots = 0) : 0 < spots ∧ spots ≤ 12 ∧ 0 < jobs.length ∧ jobs.length ≤ 30 ∧ ∀ l ∈ jobs, l.length ≤ 20 := by
 unfold check at h
 split at h
 ·cases h
 ·rename_i h1
  split at h
  ·cases h
  ·rename_i h2
   simp at h1 h2
   refine ⟨h2.1, h1.1.1, List.length_pos_iff.2 h2.2, by omega, fun l hl => ?_⟩
   have := h1.2 l hl
   omega
set_option maxRecDepth 100000 in
theorem new_ct {jobs : List (List Move)} {spots : Int} (hj : Row S 1 (jobR S) jv jobs) (hf : Fits jobs) (hs : I64 spots) : CtN Tryz.prog 14 #[jv, .int .i64 spots] [S] fun u T => ∃ ys, u = .tuple #[.agg ys.toArray, .int .i64 (check jobs spots)] ∧ yardR T ys (newY jobs spots) := by
 obtain ⟨a, cap, hv1, _⟩ := id hj
 refine ct_of (n := 62) Tryz.func14 rfl rfl (len rfl) fun hr w0 => ?_
 refine cS (cR (st_alc al27 fun b4 => ?_))
 refine sV (vA rfl) (sN (nT (cS (cS (cR (sV (vM rfl) (sV (vM rfl) (st_clr rfl rfl en17 rfl (check_ct hj hf hs) ?_))))))))
 refine sV (vA rfl) (sN (nK [0, 1, 4, 5, 6] rfl (nT (cS (cR (sV (vM rfl) (sV (v_neq rfl rfl) (sN (nK [0, 1, 4, 5, 6, 15] rfl (nT (cC rfl (fun hc => ?_) (fun hc => ?_))))))))))))
 ·skip
  refine cS (cR (sV (v_build (cells := [.slice none 0 0, .slice none 0 0]) rfl (fun _ => by kernel_rfl)) ?_))
  refine sV (vM rfl) (st_stoW rfl rfl sz27 rfl rfl ?_)
  refine sV (vA rfl) (sN (nK [0, 1, 4, 5] rfl (nT (cT (xR ?_)))))
  have hn : newY jobs spots = Yard.nil := by unfold newY; rw [if_neg (by simpa using hc)]
  rw [hn]
  refine xt_vw (vw_pure (φ := True) trivial) ?_
  exact xt_retV (.cellN rfl ld27 rfl slq (.tmp rfl .nil)) ⟨pureR True, rfl, _, rfl, nil_yard _⟩ sbr
 ·skip
  have hc0 : check jobs spots = 0 := by simpa using hc
  obtain ⟨hs0, hs12, hj0, hj30, hl20⟩ := check_pos hc0
  have hn : newY jobs spots = Yard.new jobs spots.toNat := by unfold newY; rw [if_pos hc0]
  rw [hn]
  refine cK (xT (cS (cR (sV (v_build (cells := [.slice none 0 0, .slice none 0 0]) rfl (fun _ => by kernel_rfl)) ?_))))
  refine st_alc al27 fun b7 => ?_
  refine st_stoW rfl rfl sz27 rfl rfl ?_
  refine sN (nK [0, 1, 4, 5, 7] rfl (nT (cS (cS (cR (sV (vM rfl) (sV (v_len (congrArg some hv1) Tryz.underlying22) (sV (vM rfl) (sN (nK [1, 4, 5, 7, 19, 20, 21] rfl (nT (cB (cd_vw (vw_nil 108 1) (cd_vw (triv_star (L := []) (fun r h => by cases h) · _) ?_))))))))))))))
  refine cd_lp (σ := Nat × Value × List Value) (fun s => [(1, .int .i64 spots), (4, .pointer (some ⟨b4, 0, none⟩)), (5, .int .i64 0), (7, .pointer (some ⟨b7, 0, none⟩)), (19, jv), (20, .int .i64 jobs.length), (21, .int .i64 (s.1 : Nat))]) (fun s => pt b7 (cl [s.2.1, .slice none 0 0] 27) :: VR s.2.1 108 1 (s.2.2.map fun h => [h]) :: Res.star (jrows s.2.2 (jobs.take s.1)) :: pt b4 (cl [.slice none 0 0, .slice none 0 0] 27) :: S :: hr) (fun s => s.1 ≤ jobs.length ∧ s.2.2.length = s.1 ∧ s.2.1.oneCell' = true) (fun s => jobs.length - s.1) (0, .slice none 0 0, []) ⟨Nat.zero_le _, rfl, rfl⟩ ?_
  rintro ⟨k, jv2, hs2⟩ ⟨hk, hkl, h1⟩
  simp only at hk hkl h1
  refine cS (cR (sV (v_lss rfl rfl) (sN (nT (cS (cC rfl (fun hd => ?_) (fun hd => ?_)))))))
  ·skip
   have hlt : k < jobs.length := by simpa using hd
   obtain ⟨b, off, cp2, u, hv2, hrd, u', hu', hX⟩ := hj.at1 (List.getElem?_eq_getElem hlt)
   cases hu'
   refine cK (xT (cS (cB (cS (cR (sV (vI (k := k) (congrArg some hv2) rfl sl22 rfl hlt rfl) (sV (vY rfl ld108) ?_)))))))
   refine sV (vA rfl) (sN (nK [1, 4, 5, 7, 9, 19, 20, 21] rfl (nT (cd_drawh (ork [(0, 2), (1, 1), (2, 2), (3, 0), (4, 0), (5, 0), (6, 2), (7, 0)] .nil) (fun i => !(Nat.beq i 5 || Nat.beq i 7)) mixed (by kernel_rfl) ?_))))
   refine dV rfl (vF rfl fa27_0 rfl) (dr_v rfl (vY rfl ld22) ?_)
   refine dV rfl (vM rfl) (dr_eff rfl (st_cl rfl rfl en54 rfl (clone54_ct hX (by have := hl20 _ (List.getElem_mem hlt); omega) (mC_one _)) ?_))
   rintro u h' ⟨T, rfl, hT⟩
   obtain ⟨rfl, hu1⟩ := hT.eqC
   refine dr_nx ?_
   refine dr_eff rfl (st_buildSlice (cells := [u]) rfl Tryz.underlying22 inf108 rfl rfl (fill_one hu1 _ (by simp)) (ltn rfl) fun b29 => dr_nx ?_)
   refine dr_eff rfl (st_app [[u]] rfl rfl Tryz.underlying22 inf108 rfl (by decide) slq (by simp) rfl (fun j u2 hu2 => by simp only [List.flatten_cons, List.flatten_nil, List.append_nil] at hu2; have hj0 : j = 0 := (by have := (List.getElem?_eq_some_iff.1 hu2).1; simp at this; exact this); subst hj0; cases hu2; exact at_here (rd_cl rfl)) (by simp; exact hu1) (by simp; omega) (by simp; omega) (ltn rfl) fun v' hv' _ => dr_nx ?_)
   refine dV rfl (vF rfl fa27_0 rfl) (dr_eff rfl (st_sto rfl rfl sz22 (dr_nx ?_)))
   refine dr_nil (nK [1, 4, 5, 7, 19, 20, 21] rfl (nx_xt (xB (xT (cR (sV (v_add rfl rfl (by unfold I64 at *; omega)) (sV (vM rfl) (sN (nK [1, 4, 5, 7, 19, 20, 21] rfl (nx_xt ?_))))))))))
   have e1 : jobs.take (k + 1) = jobs.take k ++ [jobs[k]] := by rw [List.take_succ_eq_append_getElem hlt]
   rw [show hs2.map (fun h => [h]) ++ [[u]] = (hs2 ++ [u]).map fun h => [h] by simp]
   refine xt_pv (pv_snoc (L := jrows hs2 (jobs.take k)) (r := VR u 110 3 (jobs[k].map mC))) ?_
   rw [← jrows_snoc (by simp; omega), ← e1]
   refine xt_ag (k + 1, v', hs2 ++ [u]) ⟨hlt, by simp; omega, hv'⟩ (by show _ - _ < _ - _; omega)
  ·skip
   refine cd_exit (xE (xE (xY (xT (cS (cS (cR (sV (vM rfl) (sV (vM rfl) (sN (nK [4, 5, 7, 33, 34] rfl (nT (cB ?_)))))))))))))
   have hkj : k = jobs.length := by
    have : ¬ k < jobs.length := by simpa using hd
    omega
   subst hkj
   rw [List.take_length]
   obtain ⟨m, rfl⟩ : ∃ m : Nat, spots = ((m + 1 : Nat) : Int) := ⟨spots.toNat - 1, by omega⟩
   refine cd_vw (vw_nil 77 9) (cd_lp (σ := Nat × Value) (fun s => [(4, .pointer (some ⟨b4, 0, none⟩)), (5, .int .i64 0), (7, .pointer (some ⟨b7, 0, none⟩)), (33, .int .i64 ((m + 1 : Nat) : Int)), (34, .int .i64 (s.1 : Nat))]) (fun s => pt b7 (cl [jv2, s.2] 27) :: VR s.2 77 9 (List.replicate s.1 (hpC PH.nil Proc.empty)) :: VR jv2 108 1 (hs2.map fun h => [h]) :: Res.star (jrows hs2 jobs) :: pt b4 (cl [.slice none 0 0, .slice none 0 0] 27) :: S :: hr) (fun s => s.1 ≤ m + 1 ∧ s.2.oneCell' = true) (fun s => m + 1 - s.1) (0, .slice none 0 0) ⟨Nat.zero_le _, rfl⟩ ?_)
   rintro ⟨q, pv⟩ ⟨hq, h2⟩
   simp only at hq h2
   refine cS (cR (sV (v_lss rfl rfl) (sN (nT (cS (cC rfl (fun hd2 => ?_) (fun hd2 => ?_)))))))
   ·skip
    have hlt : q < m + 1 := by simp at hd2; omega
    refine cK (xT (cS (cB (cR (sV (vF rfl fa27_1 rfl) (sV (vY rfl ld25) ?_))))))
    refine sV (v_build (cells := hpC PH.nil Proc.empty) rfl (fun _ => by kernel_rfl)) ?_
    refine st_buildSlice (cells := hpC PH.nil Proc.empty) rfl Tryz.underlying25 inf77 rfl rfl (by kernel_rfl) (ltn rfl) fun b39 => ?_
    refine st_app [hpC PH.nil Proc.empty] rfl rfl Tryz.underlying25 inf77 rfl (by decide) slq (by simp [hpC, pC]) rfl (fun j u2 hu2 => at_here (rd_cl (by simpa using hu2))) (by simp [hpC, pC, PH.nil, Value.oneCell']) (by simp; omega) (by simp; omega) (ltn rfl) fun v' hv' _ => ?_
    refine sV (vF rfl fa27_1 rfl) (st_sto rfl rfl sz25 ?_)
    refine sN (nK [4, 5, 7, 33, 34] rfl (nx_xt (xB (xT (cR (sV (v_add rfl rfl (by unfold I64 at *; omega)) (sV (vM rfl) (sN (nK [4, 5, 7, 33, 34] rfl (nx_xt ?_))))))))))
    rw [replicate_snoc]
    refine xt_ag (q + 1, v') ⟨hlt, hv'⟩ (by show _ - _ < _ - _; omega)
   ·skip
    have hqm : q = m + 1 := by simp at hd2; omega
    subst hqm
    refine cd_row (v := pv) slq (fun h0 hr0 => by simp at hr0) (fun pb po cp hpv hle hm => ?_)
    simp only [List.length_replicate] at hpv hle
    subst hpv
    rw [List.replicate_succ]
    refine cd_exit (xE (xE (xY (xT (cS (cR (sV (vF rfl fa27_1 rfl) (sV (vY rfl ld25) ?_))))))))
    refine sV (vI (k := 0) rfl rfl sl25 rfl (by omega) rfl) (sV (vA rfl) (sN (nK [4, 5, 7, 10] rfl (nT (cS (cR (sV (vM rfl) (sV (vM rfl) (sV (vM rfl) (sV (v_build (cells := [.int .i64 0, .bool false]) rfl (fun _ => by kernel_rfl)) ?_))))))))))
    refine st_buildSlice (cells := [.int .i64 0, .bool false]) rfl Tryz.underlying118 inf117 rfl rfl (by kernel_rfl) (ltn rfl) fun b50 => ?_
    refine sV (v_build (cells := [.int .i64 0, .int .i64 0, .slice (some ⟨b50, 0, none⟩) 1 1, .bool true, .bool false]) rfl (fun _ => by kernel_rfl)) ?_
    refine st_buildSlice (cells := [.int .i64 0, .int .i64 0, .slice (some ⟨b50, 0, none⟩) 1 1, .bool true, .bool false]) rfl Tryz.underlying73 inf120 rfl rfl (by kernel_rfl) (ltn rfl) fun b52 => ?_
    refine sV (v_build (cells := [.int .i64 0, .int .i64 0]) rfl (fun _ => by kernel_rfl)) ?_
    refine st_buildSlice (cells := [.int .i64 0, .int .i64 0]) rfl Tryz.underlying74 inf79 rfl rfl (by kernel_rfl) (ltn rfl) fun b54 => ?_
    refine sV (vN rfl) (sV (vF rfl fa77_0 rfl) (st_vr (sz := 9) (m := 0) (k := 0) rfl rfl sz73 rfl rfl (by decide) rfl slq ?_))
    refine sV (vN rfl) (sV (vF rfl fa77_1 rfl) (st_vr (sz := 9) (m := 0) (k := 1) rfl rfl sz74 rfl rfl (by decide) rfl slq ?_))
    refine sV (vN rfl) (sV (vF rfl fa77_7 rfl) (st_vr (sz := 9) (m := 0) (k := 7) rfl rfl sz3 rfl rfl (by decide) rfl slq ?_))
    refine sN (nK [4, 5, 7] rfl (nT (cS (cR (sV (v_ldn rfl ld27 rfl rds_pt) ?_)))))
    refine st_stoW rfl rfl sz27 rfl (by rw [List.all_cons, h1]; rfl) ?_
    refine sV (vA rfl) (sN (nK [4, 5] rfl (nT (cT (xt_pv (pv_new (jobs := jobs) (m := m) (b50 := b50) (b52 := b52) (b54 := b54)) ?_)))))
    refine xt_pv (pv_add (triv_pure (φ := hs2.length = jobs.length) hkl)) ?_
    refine xt_pv (pv_pack (L := JO jv2 hs2 jobs ++ YO _ (m + 1) _ (Yard.new jobs (m + 1)).pr)) ?_
    refine xt_ok .here fun hok => ?_
    have hy : yardR (Res.star (JO jv2 hs2 jobs ++ YO (.slice (some ⟨pb, po, none⟩) (m + 1) cp) (m + 1) (upd (fun _ => PH.nil) 0 ⟨.slice (some ⟨b52, 0, none⟩) 1 1, .slice (some ⟨b54, 0, none⟩) 1 1, .slice none 0 0, .slice none 0 0, [.slice (some ⟨b50, 0, none⟩) 1 1]⟩) (Yard.new jobs (m + 1)).pr)) [jv2, .slice (some ⟨pb, po, none⟩) (m + 1) cp] ⟨jobs, (List.range (m + 1)).map (Yard.new jobs (m + 1)).pr⟩ :=
     own_yard hok (fun r h => h) (fun g hg => (HoldsF.append.1 hg).1) (fun g hg => (HoldsF.append.1 hg).2.1)
    exact xt_retV (.cellN rfl ld27 rfl slq (.tmp rfl .nil)) ⟨_, rfl, [jv2, .slice (some ⟨pb, po, none⟩) (m + 1) cp], by rw [hc0]; rfl, by have := hy; rw [new_range] at this; exact this⟩ sbr
end
end Go.Wt
namespace Go.Wt
open Go Go.Ck Go.Proofs Go.Proofs.YtboepbencndobaaGreat Fx
attribute [local irreducible] St Cd Xt Nx DrL LsW
section
variable {S : Res}
set_option maxRecDepth 100000 in
theorem key_ct (k : Key) {bn : Nat} {n : Int} (hn : 0 ≤ n ∧ n ≤ 1000000) : Reads Tryz.prog 133 #[.agg (kC k).toArray, .pointer (some ⟨bn, 0, none⟩)] [pt bn (cl [.int .i64 n] 3)] (.bool (keyed k n)) := by
 refine ct_of (n := 14) Tryz.func133 rfl rfl (len rfl) fun hr w0 => ?_
 refine cS (cR (st_bx rfl rfl fun b2 => ?_))
 refine sV (vA rfl) (sN (nK [1, 2, 3] rfl (nT (cS (cR (sV (vF rfl fa79_0 rfl) (sV (vY rfl ld3) ?_)))))))
 refine sV (vY rfl ld3) ?_
 refine sV (v_sub rfl rfl (by unfold I64 at *; omega)) (st_clr rfl rfl en80 rfl (within_ct k.1 0 (n - 1)) ?_)
 refine sV (vM rfl) (st_cut (k := 10) (d := 13) (v := .bool (within k.1 0 (n - 1) && decide (0 ≤ k.2))) (fun hcut => bool_want (b := within k.1 0 (n - 1)) true (fun hg => ?_) (fun hg => ?_)) ?_)
 ·refine st_sk rfl rfl hg ?_
  iterate 2 refine st_sk rfl rfl hg ?_
  refine sV (vP (bE rfl hg) rfl) ?_
  exact hcut _ (uH (by first | rfl | (rw [hg]; rfl) | simp_all) (uS rfl (uS rfl (uS rfl (uR)))))
 ·skip
  refine sG rfl (bG rfl hg) (vF rfl fa79_1 rfl) (sG rfl (bG rfl hg) (vY rfl ld3) ?_)
  refine sG rfl (bG rfl hg) (v_geq rfl rfl) (sV (vQ (bE rfl hg) rfl) ?_)
  exact hcut _ (uH (by first | rfl | (rw [hg]; rfl) | simp_all) (uS rfl (uS rfl (uS rfl (uR)))))
 refine sV (vA rfl) (sN (nK [3] rfl (nT (cT ?_))))
 exact xt_rt rfl ⟨rfl, rfl⟩
set_option maxRecDepth 100000 in
theorem askok_ct (a : Ask) {by_ nj cj : Nat} {aj : Option Addr} {pv : Value} (hn : nj ≤ 1000000) : Reads Tryz.prog 134 #[.agg (aC a).toArray, .pointer (some ⟨by_, 0, none⟩)] [pt by_ (cl [.slice aj nj cj, pv] 27)] (.bool (within a.1 0 ((nj : Int) - 1))) := by
 refine ct_of (n := 11) Tryz.func134 rfl rfl (len rfl) fun hr w0 => ?_
 refine cS (cR (st_bx rfl rfl fun b2 => ?_))
 refine sV (vA rfl) (sN (nK [1, 2, 3] rfl (nT (cS (cR (sV (vF rfl fa117_0 rfl) (sV (vY rfl ld3) ?_)))))))
 refine sV (vF rfl fa27_0 rfl) (sV (vY rfl ld22) ?_)
 refine sV (v_len rfl Tryz.underlying22) (sV (v_sub rfl rfl (by unfold I64 at *; omega)) (st_clr rfl rfl en80 rfl (within_ct a.1 0 ((nj : Int) - 1)) ?_))
 refine sV (vA rfl) (sN (nK [3] rfl (nT (cT ?_))))
 exact xt_rt rfl ⟨rfl, rfl⟩
def kf (bn : Nat) : Value := .func (.func 133) #[] #[.pointer (some ⟨bn, 0, none⟩)]
def af (by_ : Nat) : Value := .func (.func 134) #[] #[.pointer (some ⟨by_, 0, none⟩)]
def lineOk (n nj : Int) (l : Line) : Bool := keyed l.key n && decide ((l.asks.length : Int) ≤ 400) && l.asks.all fun a => within a.1 0 (nj - 1)
set_option maxRecDepth 100000 in
theorem lineok_ct {us : List Value} {l : Line} {by_ bn bk ba nj cj : Nat} {aj : Option Addr} {pv : Value} {n : Int} (hl : lineR S us l) (hla : l.asks.length ≤ 1000000) (hn : 0 ≤ n ∧ n ≤ 1000000) (hnj : nj ≤ 1000000) :
  Reads Tryz.prog 135 #[.agg us.toArray, .pointer (some ⟨bk, 0, none⟩), .pointer (some ⟨ba, 0, none⟩)] [pt bk (cl [kf bn] 187), pt ba (cl [af by_] 188), pt bn (cl [.int .i64 n] 3), pt by_ (cl [.slice aj nj cj, pv] 27), S] (.bool (lineOk n nj l)) := by
 obtain ⟨av, rfl, hav⟩ := hl
 obtain ⟨a, cap, rfl, _⟩ := id hav
 refine ct_of (n := 21) Tryz.func135 rfl rfl (len rfl) fun hr w0 => ?_
 refine cS (cR (st_bx rfl rfl fun b3 => ?_))
 refine sV (vA rfl) (sN (nK [1, 2, 3, 4] rfl (nT (cS (cR (sV (vY rfl ld187) ?_))))))
 refine sV (vF rfl fa120_0 rfl) (sV (v_ldn (vs := kC l.key) rfl ld79 rfl (rds_sub rds_pt rfl)) ?_)
 refine st_clr rfl rfl en133 rfl (key_ct l.key hn) ?_
 refine sV (vM rfl) (st_cut (k := 10) (d := 14) (v := .bool (keyed l.key n && decide ((l.asks.length : Int) ≤ 400))) (fun hcut => bool_want (b := keyed l.key n) true (fun hg => ?_) (fun hg => ?_)) ?_)
 ·refine st_sk rfl rfl hg ?_
  iterate 3 refine st_sk rfl rfl hg ?_
  refine sV (vP (bE rfl hg) rfl) ?_
  exact hcut _ (uH (by first | rfl | (rw [hg]; rfl) | simp_all) (uS rfl (uS rfl (uS rfl (uS rfl (uR))))))
 ·skip
  refine sG rfl (bG rfl hg) (vF rfl fa120_1 rfl) (sG rfl (bG rfl hg) (vY rfl ld118) ?_)
  refine sG rfl (bG rfl hg) (v_len rfl Tryz.underlying118) (sG rfl (bG rfl hg) (v_leq rfl rfl) (sV (vQ (bE rfl hg) rfl) ?_))
  exact hcut _ (uH (by first | rfl | (rw [hg]; rfl) | simp_all) (uS rfl (uS rfl (uS rfl (uS rfl (uR))))))
 refine sV (vM rfl) (st_cut (k := 16) (d := 20) (v := .bool (keyed l.key n && decide ((l.asks.length : Int) ≤ 400) && l.asks.all fun a => within a.1 0 ((nj : Int) - 1))) (fun hcut => bool_want (b := (keyed l.key n && decide ((l.asks.length : Int) ≤ 400))) true (fun hg => ?_) (fun hg => ?_)) ?_)
 ·refine st_sk rfl rfl hg ?_
  iterate 3 refine st_sk rfl rfl hg ?_
  refine sV (vP (bE rfl hg) rfl) ?_
  exact hcut _ (uH (by first | rfl | (rw [hg]; rfl) | simp_all) (uS rfl (uS rfl (uS rfl (uS rfl (uR))))))
 ·skip
  refine sG rfl (bG rfl hg) (vF rfl fa120_1 rfl) (sG rfl (bG rfl hg) (vY rfl ld118) ?_)
  refine sG rfl (bG rfl hg) (vY rfl ld188) ?_
  refine st_clrg rfl (bG rfl hg) rfl rfl en136 rfl (reads_star (al136_ct (g := fun a : Ask => within a.1 0 ((nj : Int) - 1)) (S := Res.star [pt by_ (cl [.slice aj nj cj, pv] 27), S]) (hav.mono (rd_in (.there .here)) fun _ _ _ h => h) hla en134 fun x hx us hus hX => by cases hX; exact reads_one ((askok_ct x hnj).more (.cons .here .nil)))) ?_
  refine sV (vQ (bE rfl hg) rfl) ?_
  exact hcut _ (uH (by first | rfl | (rw [hg]; rfl) | simp_all) (uS rfl (uS rfl (uS rfl (uS rfl (uR))))))
 refine sV (vA rfl) (sN (nK [4] rfl (nT (cT ?_))))
 exact xt_rt rfl ⟨rfl, rfl⟩
def holdOk (n : Int) (h : Hold) : Bool := within h.1 0 (n - 1) && keyed h.2.1 n
set_option maxRecDepth 100000 in
theorem holdok_ct (h : Hold) {bn bk : Nat} {n : Int} (hn : 0 ≤ n ∧ n ≤ 1000000) : Reads Tryz.prog 137 #[.agg (holdC h).toArray, .pointer (some ⟨bn, 0, none⟩), .pointer (some ⟨bk, 0, none⟩)] [pt bn (cl [.int .i64 n] 3), pt bk (cl [kf bn] 187)] (.bool (holdOk n h)) := by
 refine ct_of (n := 16) Tryz.func137 rfl rfl (len rfl) fun hr w0 => ?_
 refine cS (cR (st_bx rfl rfl fun b3 => ?_))
 refine sV (vA rfl) (sN (nK [1, 2, 3, 4] rfl (nT (cS (cR (sV (vF rfl fa161_0 rfl) (sV (vY rfl ld3) ?_)))))))
 refine sV (vY rfl ld3) ?_
 refine sV (v_sub rfl rfl (by unfold I64 at *; omega)) (st_clr rfl rfl en80 rfl (within_ct h.1 0 (n - 1)) ?_)
 refine sV (vM rfl) (st_cut (k := 11) (d := 15) (v := .bool (within h.1 0 (n - 1) && keyed h.2.1 n)) (fun hcut => bool_want (b := within h.1 0 (n - 1)) true (fun hg => ?_) (fun hg => ?_)) ?_)
 ·refine st_sk rfl rfl hg ?_
  iterate 3 refine st_sk rfl rfl hg ?_
  refine sV (vP (bE rfl hg) rfl) ?_
  exact hcut _ (uH (by first | rfl | (rw [hg]; rfl) | simp_all) (uS rfl (uS rfl (uS rfl (uS rfl (uR))))))
 ·skip
  refine sG rfl (bG rfl hg) (vY rfl ld187) ?_
  refine sG rfl (bG rfl hg) (vF rfl fa161_1 rfl) (sG rfl (bG rfl hg) (v_ldn (vs := kC h.2.1) rfl ld79 rfl (rds_sub rds_pt rfl)) ?_)
  refine st_clrg rfl (bG rfl hg) rfl rfl en133 rfl (key_ct h.2.1 hn) ?_
  refine sV (vQ (bE rfl hg) rfl) ?_
  exact hcut _ (uH (by first | rfl | (rw [hg]; rfl) | simp_all) (uS rfl (uS rfl (uS rfl (uS rfl (uR))))))
 refine sV (vA rfl) (sN (nK [4] rfl (nT (cT ?_))))
 exact xt_rt rfl ⟨rfl, rfl⟩
def didOk (n nj : Int) (d : Did) : Bool := keyed d.1 n && within d.2.1 0 (nj - 1)
set_option maxRecDepth 100000 in
theorem didok_ct (d : Did) {by_ bn bk nj cj : Nat} {aj : Option Addr} {pv : Value} {n : Int} (hn : 0 ≤ n ∧ n ≤ 1000000) (hnj : nj ≤ 1000000) :
  Reads Tryz.prog 138 #[.agg (dC d).toArray, .pointer (some ⟨bk, 0, none⟩), .pointer (some ⟨by_, 0, none⟩)] [pt bk (cl [kf bn] 187), pt bn (cl [.int .i64 n] 3), pt by_ (cl [.slice aj nj cj, pv] 27)] (.bool (didOk n nj d)) := by
 refine ct_of (n := 18) Tryz.func138 rfl rfl (len rfl) fun hr w0 => ?_
 refine cS (cR (st_bx rfl rfl fun b3 => ?_))
 refine sV (vA rfl) (sN (nK [1, 2, 3, 4] rfl (nT (cS (cR (sV (vY rfl ld187) ?_))))))
 refine sV (vF rfl fa81_0 rfl) (sV (v_ldn (vs := kC d.1) rfl ld79 rfl (rds_sub rds_pt rfl)) ?_)
 refine st_clr rfl rfl en133 rfl (key_ct d.1 hn) ?_
 refine sV (vM rfl) (st_cut (k := 13) (d := 17) (v := .bool (keyed d.1 n && within d.2.1 0 ((nj : Int) - 1))) (fun hcut => bool_want (b := keyed d.1 n) true (fun hg => ?_) (fun hg => ?_)) ?_)
 ·refine st_sk rfl rfl hg ?_
  iterate 6 refine st_sk rfl rfl hg ?_
  refine sV (vP (bE rfl hg) rfl) ?_
  exact hcut _ (uH (by first | rfl | (rw [hg]; rfl) | simp_all) (uS rfl (uS rfl (uS rfl (uS rfl (uS rfl (uS rfl (uS rfl (uR)))))))))
 ·skip
  refine sG rfl (bG rfl hg) (vF rfl fa81_1 rfl) (sG rfl (bG rfl hg) (vY rfl ld3) ?_)
  refine sG rfl (bG rfl hg) (vF rfl fa27_0 rfl) (sG rfl (bG rfl hg) (vY rfl ld22) ?_)
  refine sG rfl (bG rfl hg) (v_len rfl Tryz.underlying22) (sG rfl (bG rfl hg) (v_sub rfl rfl (by unfold I64 at *; omega)) (st_clrg rfl (bG rfl hg) rfl rfl en80 rfl (within_ct d.2.1 0 ((nj : Int) - 1)) ?_))
  refine sV (vQ (bE rfl hg) rfl) ?_
  exact hcut _ (uH (by first | rfl | (rw [hg]; rfl) | simp_all) (uS rfl (uS rfl (uS rfl (uS rfl (uS rfl (uS rfl (uS rfl (uR)))))))))
 refine sV (vA rfl) (sN (nK [4] rfl (nT (cT ?_))))
 exact xt_rt rfl ⟨rfl, rfl⟩
end
end Go.Wt
namespace Go.Wt
open Go Go.Ck Go.Proofs Go.Proofs.YtboepbencndobaaGreat Fx
attribute [local irreducible] St Cd Xt Nx DrL LsW
theorem v_max {P : Program} {e : Env} {h : SH} {ty : TypeId} {x y : Operand} {ts : Array TypeId} {a b : Int} (hx : e.ev? x = some (.int .i64 a)) (hy : e.ev? y = some (.int .i64 b)) (hab : a ≤ b) : Vop P e h (.call { callee := .builtin .max, args := #[x, y], argTypes := ts }) ty (.int .i64 b) :=
 ⟨by simp, by simp, fun ρ w d pos after g hρ _ => by
  have : (if b > a then b else a) = b := by split <;> omega
  simp [execOp, resolve, invoke, builtin, hρ x _ hx, hρ y _ hy, Builtin.max_, Builtin.max2, this]⟩
def FitP (p : Proc) : Prop := p.lines.length ≤ 1000000 ∧ p.puts.length ≤ 1000000 ∧ p.holds.length ≤ 1000000 ∧ p.did.length ≤ 1000000 ∧ ∀ l ∈ p.lines, l.asks.length ≤ 1000000
def Fit (y : Yard) : Prop := Fits y.jobs ∧ y.procs.length ≤ 1000000 ∧ ∀ p ∈ y.procs, FitP p
theorem pr_get {y : Yard} {i : Nat} (hi : i < y.procs.length) : y.pr i = y.procs[i] := by unfold Yard.pr; rw [List.getD_eq_getElem?_getD, List.getElem?_eq_getElem hi]; rfl
section
variable (p : Proc) (i : Int) (y : Yard)
def Proc.g1 : Bool := (!within p.job (-1) ((y.jobs.length : Int) - 1)) || (decide (p.job < 0) && (p.pc != 0 || decide (0 < (p.holds.length : Int)))) || (decide (0 ≤ p.job) && !within p.pc 0 (y.jlen p.job))
def Proc.g2 : Bool := (!within p.waits (-1) ((y.procs.length : Int) - 1)) || (p.waits == i) || (decide (p.job < 0) && decide (0 ≤ p.waits)) || decide (p.made < 0)
def Proc.g3 : Bool := decide (400 < (p.did.length : Int)) || decide (400 < (p.puts.length : Int)) || decide (400 < (p.lines.length : Int)) || decide (20 < (p.holds.length : Int))
def Proc.g4 : Bool := (!p.lines.all fun l => lineOk y.procs.length y.jobs.length l) || (!p.puts.all fun k => keyed k y.procs.length) || (!p.holds.all fun h => holdOk y.procs.length h) || (!p.did.all fun d => didOk y.procs.length y.jobs.length d)
theorem nlt (a b : Int) : (!decide (a < b)) = decide (b ≤ a) := by by_cases h : a < b <;> simp [h] <;> omega
theorem nbeq (a b : Int) : (!(a == b)) = decide (a ≠ b) := by by_cases h : a = b <;> simp [h]
theorem nbne (a b : Int) : decide (a ≠ b) = (a != b) := by by_cases h : a = b <;> simp [h]
theorem right_g : p.right i y = (!p.g1 y && !p.g2 i y && !p.g3 && !p.g4 y) := by
 unfold Proc.right Proc.g1 Proc.g2 Proc.g3 Proc.g4
 simp only [lineOk, holdOk, didOk, Bool.not_or, Bool.not_not, nlt, nbeq, nbne, Bool.and_assoc]
end
theorem right_bad {y : Yard} {i : Nat} (hi : i < y.procs.length) (h : (y.procs[i]).right i y = false) : ((List.range y.procs.length).all fun i => (y.pr i).right i y) = false := by
 rw [List.all_eq_false]
 exact ⟨i, by simpa using hi, by rw [pr_get hi, h]; simp⟩
section
variable {S : Res}
set_option maxHeartbeats 1000000 in
set_option maxRecDepth 100000 in
theorem right_ct {ys : List Value} {y : Yard} (hy : yardR S ys y) (hf : Fit y) : Reads Tryz.prog 108 #[.agg ys.toArray] [S] (.bool y.right) := by
 obtain ⟨jv, pv, rfl, hj, hp⟩ := hy
 obtain ⟨hfj, hfp, hfpp⟩ := hf
 have hnj := hfj.1
 obtain ⟨aj, cj, rfl, _⟩ := id hj
 obtain ⟨ap, cp, rfl, _⟩ := id hp
 unfold Yard.right
 refine ct_of (n := 133) Tryz.func108 rfl rfl (len rfl) fun hr w0 => ?_
 refine cS (cR (st_bx rfl rfl fun b1 => ?_))
 refine sV (vA rfl) (sN (nK [1, 2] rfl (nT (cS (cR (sV (vF rfl fa27_1 rfl) (sV (vY rfl ld25) ?_)))))))
 refine sV (v_len rfl Tryz.underlying25) (st_alc al3 fun b3 => ?_)
 refine st_sto rfl rfl sz3 ?_
 refine sN (nK [1, 2, 3] rfl (nT (cS (cS (cR (sV (vF rfl fa27_0 rfl) (sV (vY rfl ld22) ?_)))))))
 refine sV (vY rfl ld3) ?_
 refine st_clr rfl rfl en17 rfl (check_ct hj hfj (by unfold I64; omega)) ?_
 refine sV (v_neq rfl rfl) (sN (nK [1, 2, 3, 18] rfl (nT (cC rfl (fun hc => ?_) (fun hc => ?_)))))
 ·skip
  refine cS (cR (sV (vA rfl) (sN (nK [1, 2, 3] rfl (nT (cT (xR ?_)))))))
  have hc' : decide (check y.jobs y.procs.length = 0) = false := by simpa using hc
  rw [hc']
  exact xt_rt rfl ⟨rfl, rfl⟩
 ·skip
  have hc' : check y.jobs y.procs.length = 0 := by simpa using hc
  rw [show decide (check y.jobs y.procs.length = 0) = true by simp [hc'], Bool.true_and]
  refine cK (xT (cS (cR (sV (v_makeFunc rfl rfl) (st_alc al187 fun b4 => ?_)))))
  refine st_sto rfl rfl sz187 ?_
  refine sN (nK [1, 2, 3, 4] rfl (nT (cS (cR (sV (v_makeFunc rfl rfl) (st_alc al188 fun b5 => ?_))))))
  refine st_sto rfl rfl sz188 ?_
  refine sN (nK [1, 2, 3, 4, 5] rfl (nT (cS (cR (sV (v_makeFunc rfl rfl) (sV (vA rfl) (sN (nK [1, 2, 3, 4, 6] rfl (nT (cS (cR (sV (v_makeFunc rfl rfl) (sV (vA rfl) (sN (nK [1, 2, 3, 4, 6, 7] rfl (nT (cS (cR (sV (v_makeFunc rfl rfl) ?_)))))))))))))))))))
  refine sV (vA rfl) (sN (nK [1, 2, 3, 4, 6, 7, 8] rfl (nT (cS (cS (cR (sV (vF rfl fa27_1 rfl) (sV (vY rfl ld25) ?_))))))))
  refine sV (v_len rfl Tryz.underlying25) (sV (vM rfl) (sN (nK [1, 2, 3, 4, 6, 7, 8, 25, 26, 27] rfl (nT (cB (cd_lp (σ := Nat) (fun i => [(1, .pointer (some ⟨b1, 0, none⟩)), (3, .pointer (some ⟨b3, 0, none⟩)), (4, .pointer (some ⟨b4, 0, none⟩)), (6, .func (.func 135) #[] #[.pointer (some ⟨b4, 0, none⟩), .pointer (some ⟨b5, 0, none⟩)]), (7, .func (.func 137) #[] #[.pointer (some ⟨b3, 0, none⟩), .pointer (some ⟨b4, 0, none⟩)]), (8, .func (.func 138) #[] #[.pointer (some ⟨b4, 0, none⟩), .pointer (some ⟨b1, 0, none⟩)]), (25, .slice ap y.procs.length cp), (26, .int .i64 y.procs.length), (27, .int .i64 (i : Nat))]) (fun _ => pt b5 (cl [af b1] 188) :: pt b4 (cl [kf b3] 187) :: pt b3 (cl [.int .i64 y.procs.length] 3) :: pt b1 (cl [.slice aj y.jobs.length cj, .slice ap y.procs.length cp] 27) :: S :: hr) (fun i => i ≤ y.procs.length ∧ ∀ k, k < i → (y.pr k).right k y = true) (fun i => y.procs.length - i) 0 ⟨Nat.zero_le _, fun k hk => by omega⟩ ?_))))))
  rintro i ⟨hi, hall⟩
  refine cS (cR (sV (v_lss rfl rfl) (sN (nT (cS (cC rfl (fun hd => ?_) (fun hd => ?_)))))))
  ·skip
   have hlt : i < y.procs.length := by simpa using hd
   obtain ⟨b, off, cp2, us, hv2, hus, hrd, lv, pv', hv, dv, rfl, hL, hP, hH, hD⟩ := hp.at (List.getElem?_eq_getElem hlt)
   obtain ⟨fl, fp, fh, fd, fa⟩ := hfpp _ (List.getElem_mem hlt)
   obtain ⟨al, cl', rfl, _⟩ := id hL
   obtain ⟨ap', cp', rfl, _⟩ := id hP
   obtain ⟨ah, ch', rfl, _⟩ := id hH
   obtain ⟨ad, cd', rfl, _⟩ := id hD
   have hbad := right_bad (y := y) hlt
   have hgood : (y.procs[i]).right i y = true → (y.pr i).right i y = true := fun h => by rw [pr_get hlt]; exact h
   rw [right_g] at hbad hgood
   generalize hpe : y.procs[i] = p at *
   refine cK (xT (cS (cB (cS (cR (sV (vM rfl) (sV (vI (k := i) (congrArg some hv2) rfl sl25 rfl hlt rfl) (sV (v_ldn rfl ld77 hus hrd) ?_))))))))
   refine st_alc al77 fun b10 => ?_
   refine sV (vA rfl) (st_stoW rfl rfl sz77 rfl rfl ?_)
   refine sN (nK [1, 3, 4, 6, 7, 8, 9, 10, 25, 26, 27] rfl (nT (cB (cS (cS (cR (sV (vF rfl fa77_2 rfl) (sV (vY rfl ld3) ?_))))))))
   refine sV (vF rfl fa27_0 rfl) (sV (vY rfl ld22) ?_)
   refine sV (v_len rfl Tryz.underlying22) (sV (v_sub rfl rfl (by unfold I64 at *; omega)) (st_clr rfl rfl en80 rfl (within_ct p.job (-1) ((y.jobs.length : Int) - 1)) ?_))
   refine sV (v_not rfl) (sV (vA rfl) (sN (nK [1, 3, 4, 6, 7, 8, 9, 10, 25, 26, 27, 32] rfl (nT (cC rfl (fun hA1 => ?_) (fun hA1 => ?_))))))
   ·skip
    refine cK (xT (cC rfl (fun hx => ?_) (fun hx => ?_)))
    ·skip
     refine cS (cR (sV (vA rfl) (sN (nK [1, 2, 3, 4, 6, 7, 8, 25, 26, 27] rfl (nT (cT (xW (xW (xR (xR (xW (xR ?_))))))))))))
     rw [hbad (by rw [show p.g1 y = true by unfold Proc.g1; rw [hA1]; simp]; simp)]
     exact xt_rt rfl ⟨rfl, rfl⟩
    ·skip
     rw [hA1] at hx; cases hx
   ·skip
    refine cS (cR (sV (vF rfl fa77_2 rfl) (sV (vY rfl ld3) ?_)))
    refine sV (v_lss rfl rfl) (sV (vM rfl) (st_cut (k := 14) (d := 54) (v := .bool (decide (p.job < 0) && (p.pc != 0 || decide (0 < (p.holds.length : Int))))) (fun hcut => bool_want (b := decide (p.job < 0)) true (fun hg => ?_) (fun hg => ?_)) ?_))
    ·refine st_sk rfl rfl hg ?_
     iterate 3 refine st_sk rfl rfl hg ?_
     refine st_sku rfl rfl ?_
     refine st_sku rfl rfl ?_
     refine st_sku rfl rfl ?_
     refine st_sku rfl rfl ?_
     refine st_sk rfl rfl hg ?_
     refine sV (vP (bE rfl hg) rfl) ?_
     exact hcut _ (uH (by first | rfl | (rw [hg]; rfl) | simp_all) (uS rfl (uS rfl (uS rfl (uS rfl (uS rfl (uS rfl (uS rfl (uS rfl (uS rfl (uR)))))))))))
    ·skip
     refine sG rfl (bG rfl hg) (vF rfl fa77_3 rfl) (sG rfl (bG rfl hg) (vY rfl ld3) ?_)
     refine sG rfl (bG rfl hg) (v_neq rfl rfl) (sG rfl (bG rfl hg) (vM rfl) (st_cut (k := 13) (d := 53) (v := .bool (p.pc != 0 || decide (0 < (p.holds.length : Int)))) (fun hcut => bool_want (b := p.pc != 0) false (fun hg1 => ?_) (fun hg1 => ?_)) ?_))
     ·refine st_sk rfl rfl hg1 ?_
      iterate 3 refine st_sk rfl rfl hg1 ?_
      refine sG rfl (bG rfl hg) (vQ (bE rfl hg1) rfl) ?_
      exact hcut _ (uH (by first | rfl | (rw [hg1]; rfl) | simp_all) (uS rfl (uS rfl (uS rfl (uS rfl (uR))))))
     ·skip
      refine sG rfl (bG rfl hg1) (vF rfl fa77_5 rfl) (sG rfl (bG rfl hg1) (vY rfl ld75) ?_)
      refine sG rfl (bG rfl hg1) (v_len rfl Tryz.underlying75) (sG rfl (bG rfl hg1) (v_gtr rfl rfl) (sG rfl (bG rfl hg) (vP (bE rfl hg1) rfl) ?_))
      exact hcut _ (uH (by first | rfl | (rw [hg1]; rfl) | simp_all) (uS rfl (uS rfl (uS rfl (uS rfl (uR))))))
     refine sV (vQ (bE rfl hg) rfl) ?_
     exact hcut _ (uH (by first | rfl | (rw [hg]; rfl) | simp_all) (by repeat (first | exact uR | refine uS rfl ?_)))
    refine sV (vA rfl) (sN (nK [1, 3, 4, 6, 7, 8, 9, 10, 25, 26, 27, 32] rfl (nT (cC rfl (fun hA2 => ?_) (fun hA2 => ?_)))))
    ·skip
     refine cK (xT (cC rfl (fun hx => ?_) (fun hx => ?_)))
     ·skip
      refine cS (cR (sV (vA rfl) (sN (nK [1, 2, 3, 4, 6, 7, 8, 25, 26, 27] rfl (nT (cT (xW (xW (xR (xR (xW (xR ?_))))))))))))
      rw [hbad (by rw [show p.g1 y = true by unfold Proc.g1; rw [hA2]; simp]; simp)]
      exact xt_rt rfl ⟨rfl, rfl⟩
     ·skip
      rw [hA2] at hx; cases hx
    ·skip
     refine cd_drawh (ork [(0, 2), (1, 1), (2, 2), (3, 2), (4, 2), (5, 1), (6, 2), (7, 1), (8, 2), (9, 1), (10, 2), (11, 2), (12, 1), (13, 2), (14, 1), (15, 2), (16, 2), (17, 2)] .nil) (fun _ => true) mixed (by kernel_rfl) ?_
     refine dV rfl (vF rfl fa77_2 rfl) (dr_v rfl (vY rfl ld3) ?_)
     refine dV rfl (v_geq rfl rfl) (dV rfl (vM rfl) (dr_cut (k := 13) (d := 71) (v := .bool (decide (0 ≤ p.job) && !within p.pc 0 (y.jlen p.job))) (fun hcut => bool_want (b := decide (0 ≤ p.job)) true (fun hg => ?_) (fun hg => ?_)) ?_))
     ·refine dp_sk rfl rfl rfl hg ?_
      refine dr_sk rfl rfl rfl hg ?_
      refine dp_sk rfl rfl rfl hg ?_
      refine dr_sk rfl rfl rfl hg ?_
      refine dp_sk rfl rfl rfl hg ?_
      refine dr_sk rfl rfl rfl hg ?_
      iterate 2 refine dp_sk rfl rfl rfl hg ?_
      refine dr_sk rfl rfl rfl hg ?_
      refine dp_sk rfl rfl rfl hg ?_
      refine dr_sk rfl rfl rfl hg ?_
      refine dp_sk rfl rfl rfl hg ?_
      refine dV rfl (vP (bE rfl hg) rfl) ?_
      exact hcut _ (uH (by first | rfl | (rw [hg]; rfl) | simp_all) (uS rfl (uS rfl (uS rfl (uS rfl (uS rfl (uS rfl (uS rfl (uS rfl (uS rfl (uS rfl (uS rfl (uS rfl (uR))))))))))))))
     ·skip
      have hjob : 0 ≤ p.job := by simpa using hg
      have hjob2 : p.job ≤ (y.jobs.length : Int) - 1 := by have := hA1; unfold within at this; simp at this; omega
      have hjlt : p.job.toNat < y.jobs.length := by omega
      obtain ⟨bj, oj, cj2, uj, hvj, hrdj, uj2, huj, hXj⟩ := hj.at1 (List.getElem?_eq_getElem hjlt)
      cases huj
      obtain ⟨aj3, cj3, rfl, _⟩ := id hXj
      have hjl : (y.jobs[p.job.toNat]).length = y.jlen p.job := by unfold Yard.jlen; rw [List.getD_eq_getElem?_getD, List.getElem?_eq_getElem hjlt]; rfl
      rw [hjl] at hrdj
      refine dp_vg rfl rfl (bG rfl hg) (vF rfl fa77_3 rfl) (dr_vg rfl rfl (bG rfl hg) (vY rfl ld3) ?_)
      refine dp_vg rfl rfl (bG rfl hg) (vF rfl fa27_0 rfl) (dr_vg rfl rfl (bG rfl hg) (vY rfl ld22) ?_)
      refine dp_vg rfl rfl (bG rfl hg) (vF rfl fa77_2 rfl) (dr_vg rfl rfl (bG rfl hg) (vY rfl ld3) ?_)
      refine dp_vg rfl rfl (bG rfl hg) (v_max rfl rfl hjob) (dp_vg rfl rfl (bG rfl hg) (vI (k := p.job.toNat) (congrArg some hvj) rfl sl22 (by omega) hjlt rfl) (dr_vg rfl rfl (bG rfl hg) (vY rfl ld108) ?_))
      refine dp_vg rfl rfl (bG rfl hg) (v_len rfl Tryz.underlying108) (dr_clrg rfl rfl (bG rfl hg) rfl rfl en80 rfl (within_ct p.pc 0 (y.jlen p.job)) ?_)
      refine dp_vg rfl rfl (bG rfl hg) (v_not rfl) (dV rfl (vQ (bE rfl hg) rfl) ?_)
      exact hcut _ (uH (by first | rfl | (rw [hg]; rfl) | simp_all) (uS rfl (uS rfl (uS rfl (uS rfl (uS rfl (uS rfl (uS rfl (uS rfl (uS rfl (uS rfl (uS rfl (uS rfl (uR))))))))))))))
     refine dV rfl (vA rfl) (dr_nil (nK [1, 3, 4, 6, 7, 8, 9, 10, 25, 26, 27, 32] rfl (nT (cC rfl (fun hA3 => ?_) (fun hA3 => ?_)))))
     ·skip
      refine cS (cR (sV (vA rfl) (sN (nK [1, 2, 3, 4, 6, 7, 8, 25, 26, 27] rfl (nT (cT (xW (xW (xR (xR (xW (xR ?_))))))))))))
      rw [hbad (by rw [show p.g1 y = true by unfold Proc.g1; rw [hA3]; simp]; simp)]
      exact xt_rt rfl ⟨rfl, rfl⟩
     ·skip
      have hg1 : p.g1 y = false := by unfold Proc.g1; rw [hA1, hA2, hA3]; rfl
      refine cS (cS (cR (sV (vF rfl fa77_6 rfl) (sV (vY rfl ld3) ?_))))
      refine sV (vY rfl ld3) ?_
      refine sV (v_sub rfl rfl (by unfold I64 at *; omega)) (st_clr rfl rfl en80 rfl (within_ct p.waits (-1) ((y.procs.length : Int) - 1)) ?_)
      refine sV (v_not rfl) (sV (vA rfl) (sN (nK [1, 3, 4, 6, 7, 8, 9, 10, 25, 26, 27, 72] rfl (nT (cC rfl (fun hB1 => ?_) (fun hB1 => ?_))))))
      ·skip
       refine cK (xT (cC rfl (fun hx => ?_) (fun hx => ?_)))
       ·skip
        refine cS (cR (sV (vA rfl) (sN (nK [1, 2, 3, 4, 6, 7, 8, 25, 26, 27] rfl (nT (cT (xW (xW (xR (xR (xW (xR ?_))))))))))))
        rw [hbad (by rw [show p.g2 i y = true by unfold Proc.g2; rw [hB1]; simp]; simp)]
        exact xt_rt rfl ⟨rfl, rfl⟩
       ·skip
        rw [hB1] at hx; cases hx
      ·skip
       refine cS (cR (sV (vF rfl fa77_6 rfl) (sV (vY rfl ld3) ?_)))
       refine sV (vM rfl) (sV (v_eql rfl rfl) (sV (vA rfl) (sN (nK [1, 3, 4, 6, 7, 8, 10, 25, 26, 27, 72] rfl (nT (cC rfl (fun hB2 => ?_) (fun hB2 => ?_)))))))
       ·skip
        refine cK (xT (cC rfl (fun hx => ?_) (fun hx => ?_)))
        ·skip
         refine cS (cR (sV (vA rfl) (sN (nK [1, 2, 3, 4, 6, 7, 8, 25, 26, 27] rfl (nT (cT (xW (xW (xR (xR (xW (xR ?_))))))))))))
         rw [hbad (by rw [show p.g2 i y = true by unfold Proc.g2; rw [hB2]; simp]; simp)]
         exact xt_rt rfl ⟨rfl, rfl⟩
        ·skip
         rw [hB2] at hx; cases hx
       ·skip
        refine cS (cR (sV (vF rfl fa77_2 rfl) (sV (vY rfl ld3) ?_)))
        refine sV (v_lss rfl rfl) (sV (vM rfl) (st_cut (k := 8) (d := 90) (v := .bool (decide (p.job < 0) && decide (0 ≤ p.waits))) (fun hcut => bool_want (b := decide (p.job < 0)) true (fun hg => ?_) (fun hg => ?_)) ?_))
        ·refine st_sk rfl rfl hg ?_
         iterate 2 refine st_sk rfl rfl hg ?_
         refine sV (vP (bE rfl hg) rfl) ?_
         exact hcut _ (uH (by first | rfl | (rw [hg]; rfl) | simp_all) (uS rfl (uS rfl (uS rfl (uR)))))
        ·skip
         refine sG rfl (bG rfl hg) (vF rfl fa77_6 rfl) (sG rfl (bG rfl hg) (vY rfl ld3) ?_)
         refine sG rfl (bG rfl hg) (v_geq rfl rfl) (sV (vQ (bE rfl hg) rfl) ?_)
         exact hcut _ (uH (by first | rfl | (rw [hg]; rfl) | simp_all) (uS rfl (uS rfl (uS rfl (uR)))))
        refine sV (vA rfl) (sN (nK [1, 3, 4, 6, 7, 8, 10, 25, 26, 27, 72] rfl (nT (cC rfl (fun hB3 => ?_) (fun hB3 => ?_)))))
        ·skip
         refine cK (xT (cC rfl (fun hx => ?_) (fun hx => ?_)))
         ·skip
          refine cS (cR (sV (vA rfl) (sN (nK [1, 2, 3, 4, 6, 7, 8, 25, 26, 27] rfl (nT (cT (xW (xW (xR (xR (xW (xR ?_))))))))))))
          rw [hbad (by rw [show p.g2 i y = true by unfold Proc.g2; rw [hB3]; simp]; simp)]
          exact xt_rt rfl ⟨rfl, rfl⟩
         ·skip
          rw [hB3] at hx; cases hx
        ·skip
         refine cR (sV (vF rfl fa77_7 rfl) (sV (vY rfl ld3) ?_))
         refine sV (v_lss rfl rfl) (sV (vA rfl) (sN (nK [1, 3, 4, 6, 7, 8, 10, 25, 26, 27, 72] rfl (nT (cC rfl (fun hB4 => ?_) (fun hB4 => ?_))))))
         ·skip
          refine cS (cR (sV (vA rfl) (sN (nK [1, 2, 3, 4, 6, 7, 8, 25, 26, 27] rfl (nT (cT (xW (xW (xR (xR (xW (xR ?_))))))))))))
          rw [hbad (by rw [show p.g2 i y = true by unfold Proc.g2; rw [hB4]; simp]; simp)]
          exact xt_rt rfl ⟨rfl, rfl⟩
         ·skip
          have hg2 : p.g2 i y = false := by unfold Proc.g2; rw [hB1, hB2, hB3, hB4]; rfl
          refine cS (cS (cR (sV (vF rfl fa77_8 rfl) (sV (vY rfl ld62) ?_))))
          refine sV (v_len rfl Tryz.underlying62) (sV (v_gtr rfl rfl) (sV (vA rfl) (sN (nK [1, 3, 4, 6, 7, 8, 10, 25, 26, 27, 94] rfl (nT (cC rfl (fun hC1 => ?_) (fun hC1 => ?_)))))))
          ·skip
           refine cK (xT (cC rfl (fun hx => ?_) (fun hx => ?_)))
           ·skip
            refine cS (cR (sV (vA rfl) (sN (nK [1, 2, 3, 4, 6, 7, 8, 25, 26, 27] rfl (nT (cT (xW (xW (xR (xR (xW (xR ?_))))))))))))
            rw [hbad (by rw [show p.g3 = true by unfold Proc.g3; rw [hC1]; simp]; simp)]
            exact xt_rt rfl ⟨rfl, rfl⟩
           ·skip
            rw [hC1] at hx; cases hx
          ·skip
           refine cS (cR (sV (vF rfl fa77_1 rfl) (sV (vY rfl ld74) ?_)))
           refine sV (v_len rfl Tryz.underlying74) (sV (v_gtr rfl rfl) (sV (vA rfl) (sN (nK [1, 3, 4, 6, 7, 8, 10, 25, 26, 27, 94] rfl (nT (cC rfl (fun hC2 => ?_) (fun hC2 => ?_)))))))
           ·skip
            refine cK (xT (cC rfl (fun hx => ?_) (fun hx => ?_)))
            ·skip
             refine cS (cR (sV (vA rfl) (sN (nK [1, 2, 3, 4, 6, 7, 8, 25, 26, 27] rfl (nT (cT (xW (xW (xR (xR (xW (xR ?_))))))))))))
             rw [hbad (by rw [show p.g3 = true by unfold Proc.g3; rw [hC2]; simp]; simp)]
             exact xt_rt rfl ⟨rfl, rfl⟩
            ·skip
             rw [hC2] at hx; cases hx
           ·skip
            refine cS (cR (sV (vF rfl fa77_0 rfl) (sV (vY rfl ld73) ?_)))
            refine sV (v_len rfl Tryz.underlying73) (sV (v_gtr rfl rfl) (sV (vA rfl) (sN (nK [1, 3, 4, 6, 7, 8, 10, 25, 26, 27, 94] rfl (nT (cC rfl (fun hC3 => ?_) (fun hC3 => ?_)))))))
            ·skip
             refine cK (xT (cC rfl (fun hx => ?_) (fun hx => ?_)))
             ·skip
              refine cS (cR (sV (vA rfl) (sN (nK [1, 2, 3, 4, 6, 7, 8, 25, 26, 27] rfl (nT (cT (xW (xW (xR (xR (xW (xR ?_))))))))))))
              rw [hbad (by rw [show p.g3 = true by unfold Proc.g3; rw [hC3]; simp]; simp)]
              exact xt_rt rfl ⟨rfl, rfl⟩
             ·skip
              rw [hC3] at hx; cases hx
            ·skip
             refine cR (sV (vF rfl fa77_5 rfl) (sV (vY rfl ld75) ?_))
             refine sV (v_len rfl Tryz.underlying75) (sV (v_gtr rfl rfl) (sV (vA rfl) (sN (nK [1, 3, 4, 6, 7, 8, 10, 25, 26, 27, 94] rfl (nT (cC rfl (fun hC4 => ?_) (fun hC4 => ?_)))))))
             ·skip
              refine cS (cR (sV (vA rfl) (sN (nK [1, 2, 3, 4, 6, 7, 8, 25, 26, 27] rfl (nT (cT (xW (xW (xR (xR (xW (xR ?_))))))))))))
              rw [hbad (by rw [show p.g3 = true by unfold Proc.g3; rw [hC4]; simp]; simp)]
              exact xt_rt rfl ⟨rfl, rfl⟩
             ·skip
              have hg3 : p.g3 = false := by unfold Proc.g3; rw [hC1, hC2, hC3, hC4]; rfl
              refine cS (cS (cR (sV (vF rfl fa77_0 rfl) (sV (vY rfl ld73) ?_))))
              refine sV (vM rfl) (st_clr rfl rfl en139 rfl (reads_star (al139_ct (g := fun l => lineOk y.procs.length y.jobs.length l) (S := Res.star [pt b4 (cl [kf b3] 187), pt b5 (cl [af b1] 188), pt b3 (cl [.int .i64 y.procs.length] 3), pt b1 (cl [.slice aj y.jobs.length cj, .slice ap y.procs.length cp] 27), S]) (hL.mono (rd_in (.there (.there (.there (.there .here))))) fun _ _ _ h => h) fl en135 fun x hx us hus hX => reads_one (lineok_ct hX (fa x hx) ⟨by omega, by omega⟩ hnj))) ?_)
              refine sV (v_not rfl) (sV (vA rfl) (sN (nK [1, 3, 4, 6, 7, 8, 10, 25, 26, 27, 111] rfl (nT (cC rfl (fun hD1 => ?_) (fun hD1 => ?_))))))
              ·skip
               refine cK (xT (cC rfl (fun hx => ?_) (fun hx => ?_)))
               ·skip
                refine cS (cR (sV (vA rfl) (sN (nK [1, 2, 3, 4, 6, 7, 8, 25, 26, 27] rfl (nT (cT (xW (xW (xR (xR (xW (xR ?_))))))))))))
                rw [hbad (by rw [show p.g4 y = true by unfold Proc.g4; rw [hD1]; simp]; simp)]
                exact xt_rt rfl ⟨rfl, rfl⟩
               ·skip
                rw [hD1] at hx; cases hx
              ·skip
               refine cS (cR (sV (vF rfl fa77_1 rfl) (sV (vY rfl ld74) ?_)))
               refine sV (vY rfl ld187) ?_
               refine st_clr rfl rfl en140 rfl (reads_star (al140_ct (g := fun k => keyed k y.procs.length) (S := Res.star [pt b3 (cl [.int .i64 y.procs.length] 3), S]) (hP.mono (rd_in (.there .here)) fun _ _ _ h => h) fp en133 fun x hx us hus hX => by cases hX; exact reads_one ((key_ct x ⟨by omega, by omega⟩).more (.cons .here .nil)))) ?_
               refine sV (v_not rfl) (sV (vA rfl) (sN (nK [1, 3, 4, 6, 7, 8, 10, 25, 26, 27, 111] rfl (nT (cC rfl (fun hD2 => ?_) (fun hD2 => ?_))))))
               ·skip
                refine cK (xT (cC rfl (fun hx => ?_) (fun hx => ?_)))
                ·skip
                 refine cS (cR (sV (vA rfl) (sN (nK [1, 2, 3, 4, 6, 7, 8, 25, 26, 27] rfl (nT (cT (xW (xW (xR (xR (xW (xR ?_))))))))))))
                 rw [hbad (by rw [show p.g4 y = true by unfold Proc.g4; rw [hD2]; simp]; simp)]
                 exact xt_rt rfl ⟨rfl, rfl⟩
                ·skip
                 rw [hD2] at hx; cases hx
               ·skip
                refine cS (cR (sV (vF rfl fa77_5 rfl) (sV (vY rfl ld75) ?_)))
                refine sV (vM rfl) (st_clr rfl rfl en141 rfl (reads_star (al141_ct (g := fun h => holdOk y.procs.length h) (S := Res.star [pt b3 (cl [.int .i64 y.procs.length] 3), pt b4 (cl [kf b3] 187), S]) (hH.mono (rd_in (.there (.there .here))) fun _ _ _ h => h) fh en137 fun x hx us hus hX => by cases hX; exact reads_one ((holdok_ct x ⟨by omega, by omega⟩).more (.cons .here (.cons .here .nil))))) ?_)
                refine sV (v_not rfl) (sV (vA rfl) (sN (nK [1, 3, 4, 6, 7, 8, 10, 25, 26, 27, 111] rfl (nT (cC rfl (fun hD3 => ?_) (fun hD3 => ?_))))))
                ·skip
                 refine cK (xT (cC rfl (fun hx => ?_) (fun hx => ?_)))
                 ·skip
                  refine cS (cR (sV (vA rfl) (sN (nK [1, 2, 3, 4, 6, 7, 8, 25, 26, 27] rfl (nT (cT (xW (xW (xR (xR (xW (xR ?_))))))))))))
                  rw [hbad (by rw [show p.g4 y = true by unfold Proc.g4; rw [hD3]; simp]; simp)]
                  exact xt_rt rfl ⟨rfl, rfl⟩
                 ·skip
                  rw [hD3] at hx; cases hx
                ·skip
                 refine cR (sV (vF rfl fa77_8 rfl) (sV (vY rfl ld62) ?_))
                 refine sV (vM rfl) (st_clr rfl rfl en142 rfl (reads_star (al142_ct (g := fun d => didOk y.procs.length y.jobs.length d) (S := Res.star [pt b4 (cl [kf b3] 187), pt b3 (cl [.int .i64 y.procs.length] 3), pt b1 (cl [.slice aj y.jobs.length cj, .slice ap y.procs.length cp] 27), S]) (hD.mono (rd_in (.there (.there (.there .here)))) fun _ _ _ h => h) fd en138 fun x hx us hus hX => by cases hX; exact reads_one ((didok_ct x ⟨by omega, by omega⟩ hnj).more (.cons .here (.cons .here (.cons .here .nil)))))) ?_)
                 refine sV (v_not rfl) (sV (vA rfl) (sN (nK [1, 3, 4, 6, 7, 8, 25, 26, 27, 111] rfl (nT (cC rfl (fun hD4 => ?_) (fun hD4 => ?_))))))
                 ·skip
                  refine cS (cR (sV (vA rfl) (sN (nK [1, 2, 3, 4, 6, 7, 8, 25, 26, 27] rfl (nT (cT (xW (xW (xR (xR (xW (xR ?_))))))))))))
                  rw [hbad (by rw [show p.g4 y = true by unfold Proc.g4; rw [hD4]; simp]; simp)]
                  exact xt_rt rfl ⟨rfl, rfl⟩
                 ·skip
                  have hg4 : p.g4 y = false := by unfold Proc.g4; rw [hD1, hD2, hD3, hD4]; rfl
                  refine cK (xB (xB (xT (cR (sV (v_add rfl rfl (by unfold I64 at *; omega)) (sV (vM rfl) (sN (nK [1, 3, 4, 6, 7, 8, 25, 26, 27] rfl (nx_xt (xt_ag (i + 1) ⟨hlt, fun k hk => ?_⟩ (by show _ - _ < _ - _; omega)))))))))))
                  by_cases hki : k = i
                  ·subst hki; exact hgood (by rw [hg1, hg2, hg3, hg4]; rfl)
                  ·exact hall k (by omega)
  ·skip
   refine cd_exit (xE (xE (xY (xT (cS (cR (sV (vA rfl) (sN (nK [2] rfl (nT (cT ?_)))))))))))
   have hin : i = y.procs.length := by
    have : ¬ i < y.procs.length := by simpa using hd
    omega
   rw [List.all_eq_true.2 fun k hk => hall k (by rw [hin]; simpa using hk)]
   exact xt_rt rfl ⟨rfl, rfl⟩
end
end Go.Wt
namespace Go.Wt
open Go Go.Ck Go.Proofs Go.Proofs.YtboepbencndobaaGreat Fx
attribute [local irreducible] St Cd Xt Nx DrL LsW
def openedE (y : Yard) (l : List Int) : Int := firstE [if y.right = true then 0 else 2, if (l.all fun n => within n 0 ((y.procs.length : Int) - 1)) = true then 0 else 1]
section
variable {S : Res}
set_option maxRecDepth 100000 in
theorem spot_ct {b n cp : Nat} {ap : Option Addr} {jv : Value} (k : Int) (hn : n ≤ 1000000) : Reads Tryz.prog 110 #[.int .i64 k, .pointer (some ⟨b, 0, none⟩)] [pt b (cl [jv, .slice ap n cp] 27)] (.bool (within k 0 ((n : Int) - 1))) := by
 refine ct_of (n := 10) Tryz.func110 rfl rfl (len rfl) fun hr w0 => ?_
 refine cS (cR (sV (vA rfl) (sN (nT (cS (cR (sV (vM rfl) (sV (vF rfl fa27_1 rfl) (sV (vY rfl ld25) ?_)))))))))
 refine sV (v_len rfl Tryz.underlying25) (sV (v_sub rfl rfl (by unfold I64 at *; omega)) (st_clr rfl rfl en80 rfl (within_ct k 0 ((n : Int) - 1)) ?_))
 refine sV (vA rfl) (sN (nK [3] rfl (nT (cT ?_))))
 exact xt_rt rfl ⟨rfl, rfl⟩
set_option maxRecDepth 100000 in
theorem opened_ct {ys : List Value} {y : Yard} {v : Value} {l : List Int} (hy : yardR S ys y) (hf : Fit y) (hv : Row S 1 (eqC iC) v l) (hl : l.length ≤ 1000000) : Reads Tryz.prog 67 #[.agg ys.toArray, v] [S] (.int .i64 (openedE y l)) := by
 obtain ⟨jv, pv, rfl, hj, hp⟩ := id hy
 obtain ⟨ap, cp, rfl, _⟩ := id hp
 refine ct_of (n := 14) Tryz.func67 rfl rfl (len rfl) fun hr w0 => ?_
 refine cS (cR (st_bx rfl rfl fun b2 => ?_))
 refine sV (vA rfl) (sN (nK [1, 2, 4] rfl (nT (cS (cR (sV (v_ldn rfl ld27 rfl rds_pt) ?_))))))
 refine st_clr rfl rfl en108 rfl (right_ct hy hf) ?_
 refine st_clr rfl rfl en63 rfl (unless_ct y.right 2) ?_
 refine sV (vM rfl) (sV (v_makeFunc rfl rfl) (st_clr rfl rfl en109 rfl (reads_star (al109_ct (g := fun n => within n 0 ((y.procs.length : Int) - 1)) (S := Res.star [pt b2 (cl [jv, .slice ap y.procs.length cp] 27), S]) (hv.mono (rd_in (.there .here)) fun _ _ _ h => h) hl en110 fun x hx u hX => by cases hX; exact reads_one ((spot_ct x hf.2.1).more (.cons .here .nil)))) ?_))
 refine st_clr rfl rfl en63 rfl (unless_ct (l.all fun n => within n 0 ((y.procs.length : Int) - 1)) 1) ?_
 unfold openedE
 generalize (if y.right = true then (0 : Int) else 2) = e1
 generalize (if (l.all fun n => within n 0 ((y.procs.length : Int) - 1)) = true then (0 : Int) else 1) = e2
 refine st_buildSlice (cells := [.int .i64 e1, .int .i64 e2]) rfl Tryz.underlying166 inf28 rfl rfl (by kernel_rfl) (ltn rfl) fun b12 => ?_
 refine st_cl rfl rfl en62 rfl (first_ct (S := pt b12 (cl [.int .i64 e1, .int .i64 e2] 28)) (l := [e1, e2]) (row_pt rfl (by simp [iC]) rfl (by decide)) (by simp)) ?_
 rintro u h' ⟨rfl, rfl⟩
 refine sV (vA rfl) (sN (nK [4] rfl (nT (cT ?_))))
 exact xt_rt rfl ⟨rfl, rfl⟩
set_option maxRecDepth 100000 in
theorem state_ct {jv pv : Value} {procs : List Proc} {i : Nat} (hp : Row S 9 (procR S) pv procs) (hi : i < procs.length) : Reads Tryz.prog 68 #[.agg #[jv, pv], .int .i64 i] [S] (.int .i64 (procs[i]).state) := by
 obtain ⟨b, off, cp2, us, rfl, hus, hrd, lv, pv', hv, dv, rfl, hL, hP, hH, hD⟩ := hp.at (List.getElem?_eq_getElem hi)
 obtain ⟨al, cl', rfl, _⟩ := id hL
 obtain ⟨ap', cp', rfl, _⟩ := id hP
 obtain ⟨ah, ch', rfl, _⟩ := id hH
 obtain ⟨ad, cd', rfl, _⟩ := id hD
 generalize hpe : procs[i] = p at *
 generalize hst : p.state = st
 unfold Proc.state at hst
 refine ct_of (n := 44) Tryz.func68 rfl rfl (len rfl) fun hr w0 => ?_
 refine cS (cR (st_bx rfl rfl fun b2 => ?_))
 refine sV (vA rfl) (sN (nK [1, 2, 4] rfl (nT (cS (cR (sV (vF rfl fa27_1 rfl) (sV (vY rfl ld25) ?_)))))))
 refine sV (vM rfl) (sV (vI (k := i) rfl rfl sl25 rfl hi rfl) (sV (v_ldn rfl ld77 hus hrd) ?_))
 refine st_alc al77 fun b5 => ?_
 refine st_stoW rfl rfl sz77 rfl rfl ?_
 refine sN (nK [4, 5] rfl (nT (cS (cB (cS (cR (sV (vF rfl fa77_2 rfl) (sV (vY rfl ld3) ?_))))))))
 refine sV (v_geq rfl rfl) (sV (vM rfl) (st_cut (k := 8) (d := 19) (v := .bool (decide (0 ≤ p.job) && decide (0 ≤ p.waits))) (fun hcut => bool_want (b := decide (0 ≤ p.job)) true (fun hg => ?_) (fun hg => ?_)) ?_))
 ·refine st_sk rfl rfl hg ?_
  iterate 2 refine st_sk rfl rfl hg ?_
  refine sV (vP (bE rfl hg) rfl) ?_
  exact hcut _ (uH (by first | rfl | (rw [hg]; rfl) | simp_all) (uS rfl (uS rfl (uS rfl (uR)))))
 ·skip
  refine sG rfl (bG rfl hg) (vF rfl fa77_6 rfl) (sG rfl (bG rfl hg) (vY rfl ld3) ?_)
  refine sG rfl (bG rfl hg) (v_geq rfl rfl) (sV (vQ (bE rfl hg) rfl) ?_)
  exact hcut _ (uH (by first | rfl | (rw [hg]; rfl) | simp_all) (uS rfl (uS rfl (uS rfl (uR)))))
 refine sV (vA rfl) (sN (nK [4, 5, 11] rfl (nT (cC rfl (fun h1 => ?_) (fun h1 => ?_)))))
 ·skip
  refine cS (cR (sV (vA rfl) (sN (nK [4] rfl (nT (cT (xW (xR ?_))))))))
  rw [if_pos (by simpa using h1)] at hst
  subst hst
  exact xt_rt rfl ⟨rfl, rfl⟩
 ·skip
  have h1' : ¬(0 ≤ p.job ∧ 0 ≤ p.waits) := fun h => by rw [decide_eq_true h.1, decide_eq_true h.2] at h1; cases h1
  rw [if_neg h1'] at hst
  refine cS (cR (sV (vF rfl fa77_2 rfl) (sV (vY rfl ld3) ?_)))
  refine sV (v_geq rfl rfl) (sV (vA rfl) (sN (nK [4, 5, 20] rfl (nT (cC rfl (fun h2 => ?_) (fun h2 => ?_))))))
  ·skip
   refine cS (cR (sV (vA rfl) (sN (nK [4] rfl (nT (cT (xW (xR ?_))))))))
   rw [if_pos (by simpa using h2)] at hst
   subst hst
   exact xt_rt rfl ⟨rfl, rfl⟩
  ·skip
   rw [if_neg (by simpa using h2)] at hst
   refine cS (cR (sV (vF rfl fa77_0 rfl) (sV (vY rfl ld73) ?_)))
   refine sV (v_len rfl Tryz.underlying73) (sV (v_eql rfl rfl) (sV (vA rfl) (sN (nK [4, 5, 24] rfl (nT ?_)))))
   obtain ⟨lines, puts, job, pc, waited, holds, waits, made, did⟩ := p
   simp only at *
   cases lines with
   | nil =>
    refine cC rfl (fun h3 => ?_) (fun h3 => ?_)
    ·skip
     refine cS (cR (sV (vA rfl) (sN (nK [4] rfl (nT (cT (xW (xR ?_))))))))
     obtain rfl : 5 = st := hst
     exact xt_rt rfl ⟨rfl, rfl⟩
    ·skip
     exact absurd h3 (by decide)
   | cons l ls =>
    obtain ⟨b2, o2, cp3, us2, hv2, hus2, hrd2, av, rfl, hA⟩ := hL.at (show (l :: ls)[0]? = some l from rfl)
    obtain ⟨aa, ca, rfl, _⟩ := id hA
    cases hv2
    refine cC rfl (fun h3 => ?_) (fun h3 => ?_)
    ·skip
     exact absurd h3 (by simp; omega)
    ·skip
     refine cS (cR (sV (vF rfl fa77_0 rfl) (sV (vY rfl ld73) ?_)))
     refine sV (vI (k := 0) rfl rfl sl73 rfl (by simp) rfl) ?_
     refine sV (vF rfl fa120_1 rfl) (sV (vY rfl ld118) ?_)
     refine sV (v_len rfl Tryz.underlying118) (sV (v_gtr rfl rfl) (sV (vM rfl) (st_cut (k := 14) (d := 43) (v := .bool (decide (0 < (l.asks.length : Int)) || l.closed)) (fun hcut => bool_want (b := decide (0 < (l.asks.length : Int))) false (fun hg => ?_) (fun hg => ?_)) ?_)))
     ·refine st_sk rfl rfl hg ?_
      iterate 4 refine st_sk rfl rfl hg ?_
      refine sV (vQ (bE rfl hg) rfl) ?_
      exact hcut _ (uH (by first | rfl | (rw [hg]; rfl) | simp_all) (uS rfl (uS rfl (uS rfl (uS rfl (uS rfl (uR)))))))
     ·skip
      refine sG rfl (bG rfl hg) (vF rfl fa77_0 rfl) (sG rfl (bG rfl hg) (vY rfl ld73) ?_)
      refine sG rfl (bG rfl hg) (vI (k := 0) rfl rfl sl73 rfl (by simp) rfl) ?_
      refine sG rfl (bG rfl hg) (vF rfl fa120_2 rfl) (sG rfl (bG rfl hg) (vY rfl ld4) ?_)
      refine sV (vP (bE rfl hg) rfl) ?_
      exact hcut _ (uH (by first | rfl | (rw [hg]; rfl) | simp_all) (uS rfl (uS rfl (uS rfl (uS rfl (uS rfl (uR)))))))
     refine sV (vA rfl) (sN (nK [4, 29] rfl (nT ?_)))
     have hcl : (l.asks ≠ [] ∨ l.closed = true) ↔ (decide (0 < (l.asks.length : Int)) || l.closed) = true := by
      cases l.asks <;> simp
     refine cC rfl (fun h4 => ?_) (fun h4 => ?_)
     ·skip
      refine cS (cR (sV (vA rfl) (sN (nK [4] rfl (nT (cT (xW (xR ?_))))))))
      obtain rfl : 2 = st := by rw [← hst]; exact (if_pos (hcl.2 h4)).symm
      exact xt_rt rfl ⟨rfl, rfl⟩
     ·skip
      obtain rfl : 4 = st := by rw [← hst]; exact (if_neg (fun h => by rw [hcl.1 h] at h4; cases h4)).symm
      refine cK (xB (xT (cS (cR (sV (vA rfl) (sN (nK [4] rfl (nT (cT ?_)))))))))
      exact xt_rt rfl ⟨rfl, rfl⟩
end
end Go.Wt
namespace Go.Wt
open Go Go.Ck Go.Proofs Go.Proofs.YtboepbencndobaaGreat Fx
attribute [local irreducible] St Cd Xt Nx DrL LsW
theorem openedE_zero {y : Yard} {l : List Int} (h : openedE y l = 0) : y.right = true ∧ ∀ n ∈ l, 0 ≤ n ∧ n.toNat < y.procs.length := by
 unfold openedE firstE at h
 cases hr : y.right with
 | false => simp [hr] at h
 | true =>
  refine ⟨rfl, fun n hn => ?_⟩
  cases ha : (l.all fun n => within n 0 ((y.procs.length : Int) - 1)) with
  | false => simp [hr, ha] at h
  | true =>
   have := List.all_eq_true.1 ha n hn
   unfold within at this
   simp at this
   omega
theorem openedE_nil (y : Yard) : openedE y [] = if y.right = true then 0 else 2 := by
 unfold openedE firstE
 cases y.right <;> simp
def stateE (y : Yard) (spot : Int) : Int × Int := if openedE y [spot] = 0 then ((y.pr spot.toNat).state, 0) else (0, openedE y [spot])
section
variable {S : Res}
set_option maxRecDepth 100000 in
theorem State_ct {ys : List Value} {y : Yard} (hy : yardR S ys y) (hf : Fit y) (spot : Int) : Reads Tryz.prog 20 #[.agg ys.toArray, .int .i64 spot] [S] (.tuple #[.int .i64 (stateE y spot).1, .int .i64 (stateE y spot).2]) := by
 obtain ⟨jv, pv, rfl, hj, hp⟩ := id hy
 unfold stateE
 refine ct_of (n := 17) Tryz.func20 rfl rfl (len rfl) fun hr w0 => ?_
 refine cS (cR (st_bx rfl rfl fun b2 => ?_))
 refine sV (vA rfl) (sV (vA rfl) (sN (nK [1, 2, 4, 5] rfl (nT (cS (cS (cR (sV (v_ldn rfl ld27 rfl rds_pt) ?_))))))))
 refine sV (vM rfl) (st_buildSlice (cells := [.int .i64 spot]) rfl Tryz.underlying43 inf3 rfl rfl (by kernel_rfl) (ltn rfl) fun b9 => ?_)
 refine st_clr rfl rfl en67 rfl (reads_star (opened_ct (S := Res.star [pt b9 (cl [.int .i64 spot] 3), S]) (l := [spot]) (hy.mono (rd_in (.there .here))) hf ((row_pt (C := iC) (sz := 1) (l := [spot]) (n := 1) rfl (by simp [iC]) rfl (by decide)).mono (rd_in .here) fun _ _ _ h => h) (by simp))) ?_
 refine sV (vA rfl) (sN (nK [1, 2, 4, 5, 6] rfl (nT (cS (cR (sV (vM rfl) (sV (v_neq rfl rfl) (sN (nK [1, 2, 4, 5, 6, 12] rfl (nT (cC rfl (fun h1 => ?_) (fun h1 => ?_))))))))))))
 ·skip
  refine cS (cR (sV (vM rfl) (sV (vA rfl) (sV (vA rfl) (sN (nK [1, 2, 4, 5] rfl (nT (cT (xR ?_)))))))))
  rw [if_neg (by simpa using h1)]
  exact xt_rt rfl ⟨rfl, rfl⟩
 ·skip
  have h1' : openedE y [spot] = 0 := by simpa using h1
  rw [if_pos h1']
  obtain ⟨_, hsp⟩ := openedE_zero h1'
  obtain ⟨hs0, hs1⟩ := hsp spot (by simp)
  obtain ⟨i, rfl⟩ := Int.eq_ofNat_of_zero_le hs0
  rw [Int.toNat_natCast] at hs1 ⊢
  refine cK (xT (cS (cR (sV (v_ldn rfl ld27 rfl rds_pt) ?_))))
  refine sV (vM rfl) (st_clr rfl rfl en68 rfl (state_ct hp hs1) ?_)
  refine sV (vA rfl) (sV (vA rfl) (sN (nK [4, 5] rfl (nT (cT ?_)))))
  rw [pr_get hs1]
  exact xt_rt rfl ⟨rfl, rfl⟩
def endedE (y : Yard) : Bool × Int := if y.right = true then ((List.range y.procs.length).all fun i => (y.pr i).state == 5, 0) else (false, 2)
set_option maxRecDepth 100000 in
theorem Ended_ct {ys : List Value} {y : Yard} (hy : yardR S ys y) (hf : Fit y) : Reads Tryz.prog 24 #[.agg ys.toArray] [S] (.tuple #[.bool (endedE y).1, .int .i64 (endedE y).2]) := by
 obtain ⟨jv, pv, rfl, hj, hp⟩ := id hy
 obtain ⟨ap, cp, rfl, _⟩ := id hp
 have hfp := hf.2.1
 unfold endedE
 refine ct_of (n := 22) Tryz.func24 rfl rfl (len rfl) fun hr w0 => ?_
 refine cS (cR (st_bx rfl rfl fun b1 => ?_))
 refine sV (vA rfl) (sV (vA rfl) (sN (nK [1, 2, 3] rfl (nT (cS (cS (cR (sV (v_ldn rfl ld27 rfl rds_pt) ?_))))))))
 refine st_clr rfl rfl en67 rfl (opened_ct (l := []) hy hf Row.nil (by simp)) ?_
 refine sV (vA rfl) (sN (nK [1, 2, 3, 4] rfl (nT (cS (cR (sV (vM rfl) (sV (v_neq rfl rfl) (sN (nK [1, 2, 3, 4, 9] rfl (nT ?_))))))))))
 rw [openedE_nil]
 refine cC rfl (fun h1 => ?_) (fun h1 => ?_)
 ·skip
  have h2 : ¬ y.right = true := fun h => by rw [if_pos h] at h1; cases h1
  refine cS (cR (sV (vM rfl) (sV (vA rfl) (sV (vA rfl) (sN (nK [1, 2, 3] rfl (nT (cT (xR ?_)))))))))
  rw [if_neg h2, if_neg h2]
  exact xt_rt rfl ⟨rfl, rfl⟩
 ·skip
  have h2 : y.right = true := by
   cases hr : y.right with
   | true => rfl
   | false => rw [hr] at h1; cases h1
  rw [if_pos h2, if_pos h2]
  refine cK (xT (cS (cS (cR (sV (vF rfl fa27_1 rfl) (sV (vY rfl ld25) ?_))))))
  refine sV (v_len rfl Tryz.underlying25) (sV (vM rfl) (sN (nK [1, 2, 3, 13, 14] rfl (nT (cB (cd_lp (σ := Nat) (fun i => [(1, .pointer (some ⟨b1, 0, none⟩)), (13, .int .i64 y.procs.length), (14, .int .i64 (i : Nat))]) (fun _ => pt b1 (cl [jv, .slice ap y.procs.length cp] 27) :: S :: hr) (fun i => i ≤ y.procs.length ∧ ∀ k, k < i → ((y.pr k).state == 5) = true) (fun i => y.procs.length - i) 0 ⟨Nat.zero_le _, fun k hk => by omega⟩ ?_))))))
  rintro i ⟨hi, hall⟩
  refine cS (cR (sV (v_lss rfl rfl) (sN (nT (cS (cC rfl (fun hd => ?_) (fun hd => ?_)))))))
  ·skip
   have hlt : i < y.procs.length := by simpa using hd
   refine cK (xT (cS (cB (cS (cR (sV (vM rfl) (sV (vA rfl) (sN (nK [1, 5, 13, 14] rfl (nT (cS (cR (sV (v_ldn rfl ld27 rfl rds_pt) ?_)))))))))))))
   refine sV (vM rfl) (st_clr rfl rfl en68 rfl (state_ct hp hlt) ?_)
   refine sV (v_neq rfl rfl) (sN (nK [1, 13, 14, 20] rfl (nT (cC rfl (fun h3 => ?_) (fun h3 => ?_)))))
   ·skip
    refine cS (cR (sV (vA rfl) (sV (vA rfl) (sN (nK [1, 2, 3, 13, 14] rfl (nT (cT (xW (xR (xR (xW (xR ?_))))))))))))
    have hb : ((List.range y.procs.length).all fun i => (y.pr i).state == 5) = false := by
     rw [List.all_eq_false]
     exact ⟨i, by simpa using hlt, by rw [pr_get hlt]; simpa using h3⟩
    rw [hb]
    exact xt_rt rfl ⟨rfl, rfl⟩
   ·skip
    refine cK (xB (xT (cR (sV (v_add rfl rfl (by unfold I64 at *; omega)) (sV (vM rfl) (sN (nK [1, 13, 14] rfl (nx_xt (xt_ag (i + 1) ⟨hlt, fun k hk => ?_⟩ (by show _ - _ < _ - _; omega))))))))))
    by_cases hki : k = i
    ·subst hki; rw [pr_get hlt]; simpa using h3
    ·exact hall k (by omega)
  ·skip
   refine cd_exit (xE (xE (xY (xT (cS (cR (sV (vA rfl) (sV (vA rfl) (sN (nK [2, 3] rfl (nT (cT ?_))))))))))))
   have hin : i = y.procs.length := by
    have : ¬ i < y.procs.length := by simpa using hd
    omega
   rw [List.all_eq_true.2 fun k hk => hall k (by rw [hin]; simpa using hk)]
   exact xt_rt rfl ⟨rfl, rfl⟩
end
end Go.Wt
namespace Go.Wt
open Go Go.Ck Go.Proofs Go.Proofs.YtboepbencndobaaGreat Fx
attribute [local irreducible] St Cd Xt Nx DrL LsW
def Proc.waitsFor (p : Proc) : Int := if 0 ≤ p.waits then p.waits else if p.state = 4 then (p.lines.headD Line.none).key.1 else -1
theorem right_pr {y : Yard} (h : y.right = true) {i : Nat} (hi : i < y.procs.length) : (y.procs[i]).right i y = true := by
 unfold Yard.right at h
 rw [Bool.and_eq_true] at h
 have := List.all_eq_true.1 h.2 i (by simpa using hi)
 rwa [pr_get hi] at this
theorem state4 {p : Proc} (h : p.state = 4) : ∃ l ls, p.lines = l :: ls := by
 unfold Proc.state at h
 split at h
 ·cases h
 ·split at h
  ·cases h
  ·cases hl : p.lines with
   | nil => rw [hl] at h; cases h
   | cons l ls => exact ⟨l, ls, rfl⟩
theorem waitsFor_lt {y : Yard} (h : y.right = true) {i : Nat} (hi : i < y.procs.length) (h0 : 0 ≤ (y.procs[i]).waitsFor) : ((y.procs[i]).waitsFor).toNat < y.procs.length := by
 have hr := right_pr h hi
 generalize y.procs[i] = p at *
 rw [right_g] at hr
 simp only [Bool.and_eq_true, Bool.not_eq_true'] at hr
 obtain ⟨⟨⟨_, h2⟩, _⟩, h4⟩ := hr
 unfold Proc.waitsFor at h0 ⊢
 split at h0
 ·rename_i hw
  rw [if_pos hw]
  unfold Proc.g2 within at h2
  simp only [Bool.or_eq_false_iff, Bool.not_eq_false', Bool.and_eq_true, decide_eq_true_eq] at h2
  omega
 ·rename_i hw
  rw [if_neg hw]
  split at h0
  ·rename_i hs
   rw [if_pos hs]
   obtain ⟨l, ls, hl⟩ := state4 hs
   rw [hl] at h0 ⊢
   unfold Proc.g4 at h4
   rw [hl] at h4
   simp only [Bool.or_eq_false_iff, Bool.not_eq_false', List.all_cons, Bool.and_eq_true] at h4
   have := h4.1.1.1.1
   unfold lineOk keyed within at this
   simp only [Bool.and_eq_true, decide_eq_true_eq] at this
   simp only [List.headD_cons] at h0 ⊢
   omega
  ·omega
section
variable {S : Res}
set_option maxRecDepth 100000 in
theorem waits_ct {jv pv : Value} {procs : List Proc} {i : Nat} (hp : Row S 9 (procR S) pv procs) (hi : i < procs.length) : Reads Tryz.prog 81 #[.agg #[jv, pv], .int .i64 i] [S] (.int .i64 (procs[i]).waitsFor) := by
 obtain ⟨b, off, cp2, us, rfl, hus, hrd, lv, pv', hv, dv, rfl, hL, hP, hH, hD⟩ := hp.at (List.getElem?_eq_getElem hi)
 have hst := state_ct (jv := jv) hp hi
 obtain ⟨al, cl', rfl, _⟩ := id hL
 obtain ⟨ap', cp', rfl, _⟩ := id hP
 obtain ⟨ah, ch', rfl, _⟩ := id hH
 obtain ⟨ad, cd', rfl, _⟩ := id hD
 generalize hpe : procs[i] = p at *
 generalize hw : p.waitsFor = w
 unfold Proc.waitsFor at hw
 refine ct_of (n := 28) Tryz.func81 rfl rfl (len rfl) fun hr w0 => ?_
 refine cS (cR (st_bx rfl rfl fun b2 => ?_))
 refine sV (vA rfl) (sN (nK [1, 2, 4] rfl (nT (cS (cR (sV (vF rfl fa27_1 rfl) (sV (vY rfl ld25) ?_)))))))
 refine sV (vM rfl) (sV (vI (k := i) rfl rfl sl25 rfl hi rfl) (sV (v_ldn rfl ld77 hus hrd) ?_))
 refine st_alc al77 fun b5 => ?_
 refine st_stoW rfl rfl sz77 rfl rfl ?_
 refine sN (nK [1, 2, 4, 5] rfl (nT (cS (cB (cS (cR (sV (vF rfl fa77_6 rfl) (sV (vY rfl ld3) ?_))))))))
 refine sV (v_geq rfl rfl) (sV (vA rfl) (sN (nK [1, 2, 4, 5, 11] rfl (nT (cC rfl (fun h1 => ?_) (fun h1 => ?_))))))
 ·skip
  refine cS (cR (sV (vF rfl fa77_6 rfl) (sV (vY rfl ld3) ?_)))
  refine sV (vA rfl) (sN (nK [4] rfl (nT (cT (xW (xR ?_))))))
  rw [if_pos (by simpa using h1)] at hw
  subst hw
  exact xt_rt rfl ⟨rfl, rfl⟩
 ·skip
  rw [if_neg (by simpa using h1)] at hw
  refine cS (cR (sV (v_ldn rfl ld27 rfl rds_pt) ?_))
  refine sV (vM rfl) (st_clr rfl rfl en68 rfl (hst) ?_)
  refine sV (v_eql rfl rfl) (sV (vA rfl) (sN (nK [4, 5, 17] rfl (nT (cC rfl (fun h2 => ?_) (fun h2 => ?_))))))
  ·skip
   refine cS (cR (sV (vF rfl fa77_0 rfl) (sV (vY rfl ld73) ?_)))
   have h2' : p.state = 4 := by simpa using h2
   rw [if_pos h2'] at hw
   obtain ⟨l, ls, hl⟩ := state4 h2'
   rw [hl] at hw
   obtain ⟨b2, o2, cp3, us2, hv2, hus2, hrd2, av, rfl, hA⟩ := hL.at (show p.lines[0]? = some l by rw [hl]; rfl)
   refine sV (vI (k := 0) (congrArg some hv2) rfl sl73 rfl (by rw [hl]; simp) rfl) ?_
   refine sV (vF rfl fa120_0 rfl) (sV (vF rfl fa79_0 rfl) (sV (vY rfl ld3) ?_))
   refine sV (vA rfl) (sN (nK [4] rfl (nT (cT (xW (xR ?_))))))
   subst hw
   exact xt_rt rfl ⟨rfl, rfl⟩
  ·skip
   rw [if_neg (by simpa using h2)] at hw
   subst hw
   refine cK (xB (xT (cS (cR (sV (vA rfl) (sN (nK [4] rfl (nT (cT ?_)))))))))
   exact xt_rt rfl ⟨rfl, rfl⟩
end
def ringAt (w : Nat → Int) (n i : Nat) : Nat → List Int → Int → Option (List Int)
 | 0, _, _ => none
 | f + 1, l, x => if 0 ≤ x ∧ l.length ≤ n then (if x = i then (if 1 < l.length then some l else none) else ringAt w n i f (l ++ [x]) (w x.toNat)) else none
def Yard.wf (y : Yard) (i : Nat) : Int := (y.pr i).waitsFor
def ringE (y : Yard) : List Int := ((List.range y.procs.length).findSome? fun i => ringAt y.wf y.procs.length i (y.procs.length + 1) [(i : Int)] (y.wf i)).getD []
theorem ringE_some {y : Yard} {i : Nat} {l : List Int} (hi : i < y.procs.length) (hl : ringAt y.wf y.procs.length i (y.procs.length + 1) [(i : Int)] (y.wf i) = some l) (hb : ∀ k, k < i → ringAt y.wf y.procs.length k (y.procs.length + 1) [(k : Int)] (y.wf k) = none) : ringE y = l := by
 have key : ∀ (n m : Nat), m ≤ i → i < m + n → ((List.range' m n).findSome? fun i => ringAt y.wf y.procs.length i (y.procs.length + 1) [(i : Int)] (y.wf i)) = some l := by
  intro n
  induction n with
  | zero => intro m h1 h2; omega
  | succ n ih =>
   intro m h1 h2
   rw [List.range'_succ, List.findSome?_cons]
   by_cases hm : m = i
   ·subst hm; rw [hl]
   ·rw [hb m (by omega)]; exact ih (m + 1) (by omega) (by omega)
 unfold ringE
 rw [List.range_eq_range', key _ 0 (Nat.zero_le _) (by omega)]
 rfl
theorem ringE_none {y : Yard} (hb : ∀ k, k < y.procs.length → ringAt y.wf y.procs.length k (y.procs.length + 1) [(k : Int)] (y.wf k) = none) : ringE y = [] := by
 unfold ringE
 rw [List.findSome?_eq_none_iff.2 fun k hk => hb k (by simpa using hk)]
 rfl
section
variable {S : Res}
set_option maxRecDepth 100000 in
theorem ring_ct {ys : List Value} {y : Yard} (hy : yardR S ys y) (hf : Fit y) (hyr : y.right = true) : CtN Tryz.prog 77 #[.agg ys.toArray] [S] fun u T => T = VR u 3 1 ((ringE y).map iC) ∧ u.oneCell' = true := by
 obtain ⟨jv, pv, rfl, hj, hp⟩ := id hy
 obtain ⟨ap, cp, rfl, _⟩ := id hp
 have hfp := hf.2.1
 refine ct_of (n := 47) Tryz.func77 rfl rfl (len rfl) fun hr w0 => ?_
 refine cS (cR (st_bx rfl rfl fun b1 => ?_))
 refine sV (vA rfl) (sN (nK [1, 2] rfl (nT (cS (cS (cR (sV (vF rfl fa27_1 rfl) (sV (vY rfl ld25) ?_))))))))
 refine sV (v_len rfl Tryz.underlying25) (sV (vM rfl) (sN (nK [1, 2, 8, 9] rfl (nT (cB (cd_lp (σ := Nat) (fun i => [(1, .pointer (some ⟨b1, 0, none⟩)), (8, .int .i64 y.procs.length), (9, .int .i64 (i : Nat))]) (fun _ => pt b1 (cl [jv, .slice ap y.procs.length cp] 27) :: S :: hr) (fun i => i ≤ y.procs.length ∧ ∀ k, k < i → ringAt y.wf y.procs.length k (y.procs.length + 1) [(k : Int)] (y.wf k) = none) (fun i => y.procs.length - i) 0 ⟨Nat.zero_le _, fun k hk => by omega⟩ ?_))))))
 rintro i ⟨hi, hall⟩
 refine cS (cR (sV (v_lss rfl rfl) (sN (nT (cS (cC rfl (fun hd => ?_) (fun hd => ?_)))))))
 ·skip
  have hlt : i < y.procs.length := by simpa using hd
  refine cK (xT (cS (cB (cS (cR (sV (vM rfl) (sV (vA rfl) (sN (nK [1, 3, 8, 9] rfl (nT (cS (cR (sV (vM rfl) (st_buildSlice (cells := [.int .i64 i]) rfl Tryz.underlying43 inf3 rfl rfl (by kernel_rfl) (ltn rfl) fun b13 => ?_))))))))))))))
  refine sV (vA rfl) (sN (nK [1, 3, 4, 8, 9] rfl (nT (cS (cR (sV (v_ldn rfl ld27 rfl rds_pt) ?_))))))
  refine sV (vM rfl) (st_clr rfl rfl en81 rfl (waits_ct hp hlt) ?_)
  refine sV (vA rfl) (sN (nK [1, 3, 4, 5, 8, 9] rfl (nT (cB ?_))))
  have hwi : (y.procs[i]).waitsFor = y.wf i := by unfold Yard.wf; rw [pr_get hlt]
  rw [hwi]
  refine cd_pv (pv_of (E := 3) (sz := 1) [iC (i : Int)] rfl (by simp [iC]) rfl (show 1 ≤ maxLen by decide)) ?_
  generalize hg0 : ringAt y.wf y.procs.length i (y.procs.length + 1) [(i : Int)] (y.wf i) = g0
  refine cd_lp (σ := List Int × Int × Value) (fun s => [(1, .pointer (some ⟨b1, 0, none⟩)), (3, .int .i64 (i : Nat)), (4, s.2.2), (5, .int .i64 s.2.1), (8, .int .i64 y.procs.length), (9, .int .i64 (i : Nat))]) (fun s => VR s.2.2 3 1 (s.1.map iC) :: pt b1 (cl [jv, .slice ap y.procs.length cp] 27) :: S :: hr) (fun s => 1 ≤ s.1.length ∧ s.1.length ≤ y.procs.length + 1 ∧ (0 ≤ s.2.1 → s.2.1.toNat < y.procs.length) ∧ ringAt y.wf y.procs.length i (y.procs.length + 2 - s.1.length) s.1 s.2.1 = g0) (fun s => y.procs.length + 1 - s.1.length) ([(i : Int)], y.wf i, .slice (some ⟨b13, 0, none⟩) 1 1) ⟨by simp, by simp, fun h => by rw [← hwi] at h ⊢; exact waitsFor_lt hyr hlt h, hg0⟩ ?_
  rintro ⟨l, x, v⟩ ⟨hl1, hln, hx, hg⟩
  simp only at hl1 hln hx hg
  refine cd_row (v := v) slq (fun h0 hr0 => by simp at hr0; subst hr0; simp at hl1) (fun vb vo vc hve _ _ => ?_)
  simp only [List.length_map] at hve
  subst hve
  refine cS (cS (cR (sV (vM rfl) (sV (v_geq rfl rfl) (sV (vM rfl) (st_cut (k := 10) (d := 26) (v := .bool (decide (0 ≤ x) && decide ((l.length : Int) ≤ y.procs.length))) (fun hcut => bool_want (b := decide (0 ≤ x)) true (fun hg => ?_) (fun hg => ?_)) ?_))))))
  ·refine st_sk rfl rfl hg ?_
   iterate 5 refine st_sk rfl rfl hg ?_
   refine sV (vP (bE rfl hg) rfl) ?_
   exact hcut _ (uH (by first | rfl | (rw [hg]; rfl) | simp_all) (uS rfl (uS rfl (uS rfl (uS rfl (uS rfl (uS rfl (uR))))))))
  ·skip
   refine sG rfl (bG rfl hg) (vM rfl) (sG rfl (bG rfl hg) (v_len rfl Tryz.underlying43) (sG rfl (bG rfl hg) (vF rfl fa27_1 rfl) (sG rfl (bG rfl hg) (vY rfl ld25) ?_)))
   refine sG rfl (bG rfl hg) (v_len rfl Tryz.underlying25) (sG rfl (bG rfl hg) (v_leq rfl rfl) (sV (vQ (bE rfl hg) rfl) ?_))
   exact hcut _ (uH (by first | rfl | (rw [hg]; rfl) | simp_all) (uS rfl (uS rfl (uS rfl (uS rfl (uS rfl (uS rfl (uR))))))))
  refine sN (nK [1, 3, 4, 5, 8, 9, 26] rfl (nT ?_))
  rw [show y.procs.length + 2 - l.length = (y.procs.length + 1 - l.length) + 1 by omega] at hg
  unfold ringAt at hg
  refine cC rfl (fun h1 => ?_) (fun h1 => ?_)
  ·skip
   refine cK (xT (cS (cB (cS (cS (cR (sV (vM rfl) (sV (vM rfl) (sV (v_eql rfl rfl) (sV (vM rfl) ?_))))))))))
   have h1' : 0 ≤ x ∧ l.length ≤ y.procs.length := by simp at h1; omega
   rw [if_pos h1'] at hg
   refine st_cut (k := 8) (d := 37) (v := .bool ((x == (i : Int)) && decide (1 < (l.length : Int)))) (fun hcut => bool_want (b := (x == (i : Int))) true (fun hg => ?_) (fun hg => ?_)) ?_
   ·refine st_sk rfl rfl hg ?_
    iterate 2 refine st_sk rfl rfl hg ?_
    refine sV (vP (bE rfl hg) rfl) ?_
    exact hcut _ (uH (by first | rfl | (rw [hg]; rfl) | simp_all) (uS rfl (uS rfl (uS rfl (uR)))))
   ·skip
    refine sG rfl (bG rfl hg) (vM rfl) (sG rfl (bG rfl hg) (v_len rfl Tryz.underlying43) (sG rfl (bG rfl hg) (v_gtr rfl rfl) (sV (vQ (bE rfl hg) rfl) ?_)))
    exact hcut _ (uH (by first | rfl | (rw [hg]; rfl) | simp_all) (uS rfl (uS rfl (uS rfl (uR)))))
   refine sN (nK [1, 3, 4, 5, 8, 9, 37] rfl (nT (cC rfl (fun h2 => ?_) (fun h2 => ?_))))
   ·skip
    refine cS (cR (sV (vM rfl) (sV (vA rfl) (sN (nK [1, 2, 3, 4, 5, 8, 9] rfl (nT (cT (xR (xW (xR (xR (xW (xW (xR (xR ?_)))))))))))))))
    refine xW (xR ?_)
    have h2' : x = i ∧ 1 < l.length := by simp at h2; omega
    rw [if_pos h2'.1, if_pos h2'.2] at hg
    subst hg
    rw [ringE_some hlt hg0 hall]
    exact xt_rt rfl ⟨_, rfl, rfl, rfl⟩
   ·skip
    refine cK (xT (cS (cS (cR (sV (vM rfl) (sV (vM rfl) (sV (v_eql rfl rfl) (sN (nK [1, 3, 4, 5, 8, 9, 41] rfl (nT (cC rfl (fun h3 => ?_) (fun h3 => ?_))))))))))))
    ·skip
     refine cd_exit (xE (xt_exit_block_ne (by decide) ?_))
     refine xE (xE (xY (xB (xT (cR (sV (v_add rfl rfl (by unfold I64 at *; omega)) (sV (vM rfl) (sN (nK [1, 8, 9] rfl (nx_xt ?_))))))))))
     have h3' : x = i := by simpa using h3
     have h4 : ¬ 1 < l.length := fun h => by rw [h3] at h2; simp at h2; omega
     rw [if_pos h3', if_neg h4] at hg
     subst hg
     refine xt_ag (i + 1) ⟨hlt, fun k hk => ?_⟩ (by show _ - _ < _ - _; omega)
     by_cases hki : k = i
     ·subst hki; exact hg0
     ·exact hall k (by omega)
    ·skip
     refine cK (xT (cR (sV (vM rfl) (sV (vM rfl) ?_))))
     have h3' : ¬ x = i := by simpa using h3
     rw [if_neg h3'] at hg
     obtain ⟨x', rfl⟩ := Int.eq_ofNat_of_zero_le h1'.1
     have hx' := hx h1'.1
     rw [Int.toNat_natCast] at hx' hg
     refine st_buildSlice (cells := [.int .i64 (x' : Int)]) rfl Tryz.underlying43 inf3 rfl rfl (by kernel_rfl) (ltn rfl) fun b44 => ?_
     refine st_app [iC (x' : Int)] rfl rfl Tryz.underlying43 inf3 rfl (by decide) slq (by simp [iC]) rfl (fun j u2 hu2 => at_here (rd_cl (by simpa [iC] using hu2))) (by simp [iC, Value.oneCell']) (by simp; omega) (by simp; omega) (ltn rfl) fun v' hv' _ => ?_
     refine sV (vA rfl) (sN (nK [1, 3, 4, 5, 8, 9] rfl (nx_xt (xB (xT (cR (sV (v_ldn rfl ld27 rfl rds_pt) ?_)))))))
     refine sV (vM rfl) (st_clr rfl rfl en81 rfl (waits_ct hp hx') ?_)
     refine sV (vA rfl) (sN (nK [1, 3, 4, 5, 8, 9] rfl (nx_xt ?_)))
     have hwx : (y.procs[x']).waitsFor = y.wf x' := by unfold Yard.wf; rw [pr_get hx']
     rw [hwx]
     refine xt_pv (pv_eq (show VR v' 3 1 (l.map iC ++ [iC (x' : Int)]) = VR v' 3 1 ((l ++ [(x' : Int)]).map iC) by simp)) ?_
     refine xt_ag (l ++ [(x' : Int)], y.wf x', v') ⟨by simp, by simp; omega, fun h => by rw [← hwx] at h ⊢; exact waitsFor_lt hyr hx' h, by rw [← hg]; congr 1; simp⟩ (by simp; omega)
  ·skip
   refine cd_exit (xE (xE (xY (xB (xT (cR (sV (v_add rfl rfl (by unfold I64 at *; omega)) (sV (vM rfl) (sN (nK [1, 8, 9] rfl (nx_xt ?_)))))))))))
   have h1' : ¬ (0 ≤ x ∧ l.length ≤ y.procs.length) := fun h => by simp at h1; omega
   rw [if_neg h1'] at hg
   subst hg
   refine xt_ag (i + 1) ⟨hlt, fun k hk => ?_⟩ (by show _ - _ < _ - _; omega)
   by_cases hki : k = i
   ·subst hki; exact hg0
   ·exact hall k (by omega)
 ·skip
  refine cd_exit (xE (xE (xY (xT (cS (cR (sV (vA rfl) (sN (nK [2] rfl (nT (cT ?_)))))))))))
  have hin : i = y.procs.length := by
   have : ¬ i < y.procs.length := by simpa using hd
   omega
  rw [ringE_none (fun k hk => hall k (by omega))]
  refine xt_vw (vw_nil 3 1) ?_
  exact xt_rt rfl ⟨_, rfl, rfl, rfl⟩
end
end Go.Wt
namespace Go.Wt
open Go Go.Ck Go.Proofs Go.Proofs.YtboepbencndobaaGreat Fx
attribute [local irreducible] St Cd Xt Nx DrL LsW
section
variable {P : Program} {e : Env} {h : SH} {ty : TypeId}
theorem v_remp {t t' : TypeId} {x y : Operand} {a b : Int} (hx : e.ev? x = some (.int .i64 a)) (hy : e.ev? y = some (.int .i64 b)) (ha : 0 ≤ a) (hb : 0 < b) (hr : I64 b) : Vop P e h (.binOp .rem t x y t') ty (.int .i64 (a % b)) :=
 ⟨by simp, by simp, fun ρ w d pos after g hρ _ => by
  have h1 : a.tmod b = a % b := Int.tmod_eq_emod_of_nonneg ha
  have h2 : 0 ≤ a % b := Int.emod_nonneg a (by omega)
  have h3 : a % b < b := Int.emod_lt_of_pos a hb
  have hw : IntKind.i64.wrap (a.tmod b) = a % b := by rw [h1]; exact I64.wrap (by unfold I64 at *; omega)
  have hb0 : ¬ b = 0 := by omega
  simp [execOp, hρ x _ hx, hρ y _ hy, eqGuard_rem, binOp_rem, Op.intDiv, hb0, hw]
  try exact h1⟩
end
def ringYE (y : Yard) : List Int × Bool × Int := if y.right = true then (ringE y, decide (0 < ((ringE y).length : Int)), 0) else ([], false, 2)
section
variable {S : Res}
set_option maxRecDepth 100000 in
theorem Ring_ct {ys : List Value} {y : Yard} (hy : yardR S ys y) (hf : Fit y) : CtN Tryz.prog 32 #[.agg ys.toArray] [S] fun u T => ∃ v, u = .tuple #[v, .bool (ringYE y).2.1, .int .i64 (ringYE y).2.2] ∧ T = VR v 3 1 ((ringYE y).1.map iC) := by
 obtain ⟨jv, pv, rfl, hj, hp⟩ := id hy
 obtain ⟨ap, cp, rfl, _⟩ := id hp
 unfold ringYE
 refine ct_of (n := 18) Tryz.func32 rfl rfl (len rfl) fun hr w0 => ?_
 refine cS (cR (st_bx rfl rfl fun b1 => ?_))
 refine sV (vA rfl) (sV (vA rfl) (sV (vA rfl) (sN (nK [1, 2, 3, 4] rfl (nT (cS (cS (cR (sV (v_ldn rfl ld27 rfl rds_pt) ?_)))))))))
 refine st_clr rfl rfl en67 rfl (opened_ct (l := []) hy hf Row.nil (by simp)) ?_
 refine sV (vA rfl) (sN (nK [1, 2, 3, 4, 5] rfl (nT (cS (cR (sV (vM rfl) (sV (v_neq rfl rfl) (sN (nK [1, 2, 3, 4, 5, 10] rfl (nT ?_))))))))))
 rw [openedE_nil]
 refine cC rfl (fun h1 => ?_) (fun h1 => ?_)
 ·skip
  have h2 : ¬ y.right = true := fun h => by rw [if_pos h] at h1; cases h1
  refine cS (cR (sV (vM rfl) (sV (vA rfl) (sV (vA rfl) (sV (vA rfl) (sN (nK [1, 2, 3, 4] rfl (nT (cT (xR ?_))))))))))
  rw [if_neg h2, if_neg h2]
  refine xt_vw (vw_nil 3 1) ?_
  exact xt_rt rfl ⟨VR (.slice none 0 0) 3 1 [], rfl, .slice none 0 0, rfl, rfl⟩
 ·skip
  have h2 : y.right = true := by
   cases hr : y.right with
   | true => rfl
   | false => rw [hr] at h1; cases h1
  rw [if_pos h2, if_pos h2]
  refine cK (xT (cS (cR (sV (v_ldn rfl ld27 rfl rds_pt) ?_))))
  refine st_cl rfl rfl en77 rfl (ring_ct hy hf h2) ?_
  rintro v h' ⟨T, rfl, rfl, hv⟩
  refine sV (vA rfl) (sN (nK [2, 3, 4, 6] rfl (nT (cS (cd_row (v := v) slq (fun h0 hr0 => ?_) (fun vb vo vc hve _ _ => ?_))))))
  ·have hl0 : ringE y = [] := by simpa using hr0
   subst h0
   rw [hl0]
   refine cR (sV (vM rfl) (sV (vM rfl) (sV (v_len rfl Tryz.underlying43) (sV (v_gtr rfl rfl) (sV (vA rfl) (sV (vA rfl) (sV (vA rfl) (sN (nK [2, 3, 4] rfl (nT (cT ?_)))))))))))
   exact xt_rt rfl ⟨VR (.slice none 0 0) 3 1 [], rfl, .slice none 0 0, rfl, rfl⟩
  ·simp only [List.length_map] at hve
   subst hve
   refine cR (sV (vM rfl) (sV (vM rfl) (sV (v_len rfl Tryz.underlying43) (sV (v_gtr rfl rfl) (sV (vA rfl) (sV (vA rfl) (sV (vA rfl) (sN (nK [2, 3, 4] rfl (nT (cT ?_)))))))))))
   exact xt_rt rfl ⟨VR (.slice (some ⟨vb, vo, none⟩) (ringE y).length vc) 3 1 ((ringE y).map iC), rfl, .slice (some ⟨vb, vo, none⟩) (ringE y).length vc, rfl, rfl⟩
def ringOk (y : Yard) (l : List Int) (i : Nat) (x : Int) : Bool := within x 0 ((y.procs.length : Int) - 1) && !(l.take i).contains x && y.wf x.toNat == l.getD ((i + 1) % l.length) 0
def checkRingE (y : Yard) (l : List Int) : Int := if y.right = true then (if l.length < 2 ∨ y.procs.length < l.length then 11 else if ((List.range l.length).all fun i => ringOk y l i (l.getD i 0)) = true then 0 else 11) else 2
end
end Go.Wt
namespace Go.Wt
def orb (w : Nat → Int) (i : Nat) : Nat → Int
 | 0 => i
 | k + 1 => if 0 ≤ orb w i k then w (orb w i k).toNat else -1
section
variable {w : Nat → Int} {n i : Nat}
def Back (w : Nat → Int) (n i k : Nat) : Prop := 2 ≤ k ∧ k ≤ n ∧ orb w i k = i ∧ ∀ j, 1 ≤ j → j < k → orb w i j ≠ i ∧ 0 ≤ orb w i j
/-! ## Orbits -/
end
/-! ## The ring that is found -/
section
variable {y : Yard}
structure IsRing (w : Nat → Int) (n : Nat) (l : List Int) : Prop where
 len : 2 ≤ l.length ∧ l.length ≤ n
 lt : ∀ (i : Nat) x, l[i]? = some x → 0 ≤ x ∧ x < n
 next : ∀ (i : Nat) x, l[i]? = some x → l[(i + 1) % l.length]? = some (w x.toNat)
 nd : l.Nodup
end
end Go.Wt
namespace Go.Wt
section
variable {h : HYard}
/-! ## For whom one waits -/
theorem wf_now (i : Nat) : h.now.wf i = (h.pr i).now.waitsFor := by unfold Yard.wf; rw [HYard.now_pr]
theorem waitsFor_of {p : Proc} (h : p.waits < 0) : p.waitsFor = if p.state = 4 then (p.lines.headD Line.none).key.1 else -1 := by unfold Proc.waitsFor; rw [if_neg (by omega)]
theorem blocked {p : HProc} (h4 : p.now.state = 4) : p.job < 0 ∧ p.gone < p.hl.length ∧ p.head.all.drop p.head.tk = [] ∧ p.head.closed = false := by
 unfold Proc.state at h4
 have e1 : p.now.job = p.job := rfl
 have e2 : p.now.waits = p.waits := rfl
 rw [e1, e2] at h4
 by_cases h1 : 0 ≤ p.job ∧ 0 ≤ p.waits
 ·rw [if_pos h1] at h4; cases h4
 ·rw [if_neg h1] at h4
  by_cases h2 : 0 ≤ p.job
  ·rw [if_pos h2] at h4; cases h4
  ·rw [if_neg h2] at h4
   rcases Nat.lt_or_ge p.gone p.hl.length with h3 | h3
   ·rw [now_lines.1 h3] at h4
    simp only at h4
    have e3 : p.head.now.asks = p.head.all.drop p.head.tk := rfl
    have e4 : p.head.now.closed = p.head.closed := rfl
    rw [e3, e4] at h4
    split at h4
    ·cases h4
    ·rename_i hc
     rw [not_or] at hc
     refine ⟨by omega, h3, ?_, by simpa using hc.2⟩
     exact Classical.not_not.1 hc.1
   ·rw [now_lines.2 h3] at h4; cases h4
theorem wf_blocked {p : HProc} (hw : p.waits < 0) (h4 : p.now.state = 4) : p.now.waitsFor = p.head.key.1 := by
 rw [waitsFor_of (by exact hw), if_pos h4, now_lines.1 (blocked h4).2.1]; rfl
/-! ## Nobody can go on -/
end
end Go.Wt
namespace Go.Wt
section
variable {h : HYard}
theorem busy_state {p : HProc} (hj : 0 ≤ p.job) (hw : p.waits < 0) : p.now.state = 1 := by
 unfold Proc.state
 have e1 : p.now.job = p.job := rfl
 have e2 : p.now.waits = p.waits := rfl
 rw [e1, e2, if_neg (by omega), if_pos hj]
theorem Nr.wf (N : Nr h) (H : HInv h) {i : Nat} (hi : i < h.procs.length) (hw : 0 ≤ h.now.wf i) : (h.now.wf i).toNat < h.procs.length ∧ ((i : Int) < h.now.wf i ∨ h.now.wf (h.now.wf i).toNat = -1) := by
 have ok := H.ok i hi
 have Ni := (nr_iff.1 N).2 i hi
 rw [wf_now] at hw ⊢
 by_cases hws : 0 ≤ (h.pr i).waits
 ·have e : (h.pr i).now.waitsFor = (h.pr i).waits := by
   unfold Proc.waitsFor
   have e2 : (h.pr i).now.waits = (h.pr i).waits := rfl
   rw [e2, if_pos hws]
  rw [e]
  rcases ok.waits with w | ⟨w1, w2, w3, w4⟩
  ·omega
  ·refine ⟨by omega, .inl ?_⟩
   obtain ⟨k, hk⟩ := Ni.wait hws
   obtain ⟨o, _, hH⟩ := Ni.at_ w4
   cases o with
   | none => have hH : (h.pr i).holds = [] := hH; rw [hH] at hk; cases hk
   | some s =>
    obtain ⟨h1, k', h2⟩ := hH
    rw [h2] at hk
    simp only [List.cons.injEq, Prod.mk.injEq, and_true] at hk
    omega
 ·have hws : (h.pr i).waits < 0 := by omega
  have h4 : (h.pr i).now.state = 4 := by
   rw [waitsFor_of hws] at hw
   split at hw
   ·assumption
   ·omega
  rw [wf_blocked hws h4] at hw ⊢
  have hb := blocked h4
  have hgh := get_head hb.2.1
  have okl := ok.line _ _ hgh
  have hs : (h.pr i).head.key.1.toNat < h.procs.length := by have := okl.key; omega
  refine ⟨hs, .inr ?_⟩
  have hop := H.opened i hi _ (List.mem_of_getElem? hgh) hb.2.2.2
  have hsi : (((h.pr i).head.key.1.toNat : Nat) : Int) = (h.pr i).head.key.1 := Int.toNat_of_nonneg okl.key.1
  generalize hsd : (h.pr i).head.key.1.toNat = s at hs hop hsi
  have oks := H.ok s hs
  have Ns := (nr_iff.1 N).2 s hs
  have hjs : 0 ≤ (h.pr s).job := by
   rcases Int.lt_or_le (h.pr s).job 0 with hj | hj
   ·rw [(oks.idle hj).2.2.1] at hop; simp at hop
   ·exact hj
  rw [wf_now]
  rcases oks.waits with w | ⟨w1, w2, w3, w4⟩
  ·have hst := busy_state hjs (by omega)
   rw [waitsFor_of (by show (h.pr s).waits < 0; omega), hst]; rfl
  ·exfalso
   obtain ⟨k, hk⟩ := Ns.wait w1
   rw [hk] at hop
   have hop := List.mem_singleton.1 hop
   simp only [Prod.mk.injEq, and_true] at hop
   obtain ⟨hwi, hkk⟩ := hop
   have haw := H.aw s i hs hi
   rw [← hwi, if_pos rfl] at haw
   have hwt : (h.pr i).waited = false := (ok.idle hb.1).2.2.2.2
   unfold HProc.aw at haw
   rw [if_neg (fun hh => by rw [hwt] at hh; cases hh.1)] at haw
   obtain ⟨l, hl, hl0⟩ : ∃ l ∈ (h.pr i).hl.drop (h.pr i).gone, 0 < HLine.aw s l := by
    refine Classical.byContradiction fun hno => ?_
    have : (((h.pr i).hl.drop (h.pr i).gone).map (HLine.aw s)).sum = 0 := by
     have key : ∀ (L : List HLine), (∀ l ∈ L, HLine.aw s l = 0) → (L.map (HLine.aw s)).sum = 0 := by
      intro L
      induction L with
      | nil => intro _; rfl
      | cons x L ih => intro hL; simp [hL x (by simp), ih fun l hl => hL l (by simp [hl])]
     refine key _ fun l hl => ?_
     rcases Nat.eq_zero_or_pos (HLine.aw s l) with h0 | h0
     ·exact h0
     ·exact absurd ⟨l, hl, h0⟩ hno
    omega
   unfold HLine.aw at hl0
   split at hl0
   ·rename_i hkl
    obtain ⟨a, ha, hat⟩ := List.countP_pos_iff.1 hl0
    obtain ⟨j0, hj0⟩ := List.getElem?_of_mem hl
    rw [List.getElem?_drop] at hj0
    have hlo := Ni.ao _ l (Nat.le_add_right _ _) hj0 (.inl ⟨a, ha, hat⟩)
    have hop2 := H.opened i hi l (List.mem_of_mem_drop hl) hlo
    have : l.key.1.toNat = s := by omega
    rw [this, hk] at hop2
    have hop2 := List.mem_singleton.1 hop2
    simp only [Prod.mk.injEq, and_true] at hop2
    have hke : l.key = (h.pr i).head.key := by rw [hop2.2, hkk]
    have hix := key_at ok.nd hj0 hgh hke
    rw [hix, hgh] at hj0
    have hll : (h.pr i).head = l := Option.some.inj hj0
    rw [← hll, hb.2.2.1] at ha
    simp at ha
   ·omega
theorem Nr.did (N : Nr h) {t : Nat} (ht : t < h.procs.length) : ∀ d ∈ (h.pr t).now.did, d.2.2.1 = false ∧ d.2.2.2 = false := fun d hd => by
 obtain ⟨l, hl, hd⟩ := List.mem_flatMap.1 (show d ∈ (h.pr t).hl.flatMap HLine.dids from hd)
 unfold HLine.dids at hd
 obtain ⟨⟨a, r⟩, hx, rfl⟩ := List.mem_map.1 hd
 have := (N.res t ht l hl).2 r (List.of_mem_zip hx).2
 simp only [this]
 exact ⟨trivial, trivial⟩
end
/-! ## Such jobs -/
abbrev Item := Nat × Nat × Nat
def partE (n L i : Nat) (x : Item) : List Move :=
 if (x.2.1 % L) % n ≤ i % n then []
 else match x.1 % 4 with
  | 0 => [(1, ((x.2.1 % L) % n : Nat), 0), (3, ((x.2.1 % L) % n : Nat), (x.2.1 % L : Nat)), (2, 0, 0)]
  | 1 => [(1, ((x.2.1 % L) % n : Nat), 0), (3, ((x.2.1 % L) % n : Nat), (x.2.1 % L : Nat)), (4, ((x.2.1 % L) % n : Nat), (x.2.1 % L : Nat)), (2, 0, 0)]
  | 2 => [(1, ((x.2.1 % L) % n : Nat), 0), (4, ((x.2.1 % L) % n : Nat), (x.2.1 % L : Nat)), (3, ((x.2.1 % L) % n : Nat), (x.2.1 % L : Nat)), (2, 0, 0)]
  | _ => [(5, ((x.2.1 % L) % n : Nat), (x.2.1 % L : Nat))]
def jobE (n L i : Nat) (l : List Item) : List Move := l.flatMap (partE n L i)
def apartE (n : Nat) (l : List (List Item)) : List (List Move) := l.mapIdx fun i x => jobE n l.length i x
end Go.Wt
namespace Go.Wt
open Go Go.Ck Go.Proofs Go.Proofs.YtboepbencndobaaGreat Fx
attribute [local irreducible] St Cd Xt Nx DrL LsW
/-! ## Rows of rows -/
section
variable {α : Type} {E2 : TypeId} {sz : Nat} {C : α → List Value}
def nrows (E2 : TypeId) (sz : Nat) (C : α → List Value) (hs : List Value) (ls : List (List α)) : List Res := List.zipWith (fun h l => VR h E2 sz (l.map C)) hs ls
def NO (E : TypeId) (E2 : TypeId) (sz : Nat) (C : α → List Value) (v : Value) (hs : List Value) (ls : List (List α)) : SH := [VR v E 1 (hs.map fun h => [h]), Res.star (nrows E2 sz C hs ls), pureR (hs.length = ls.length)]
def nR (S : Res) (sz : Nat) (C : α → List Value) (us : List Value) (l : List α) : Prop := ∃ v, us = [v] ∧ Row S sz (eqC C) v l
theorem NO_row {E : TypeId} {v : Value} {hs : List Value} {ls : List (List α)} {S : Res} (hok : ∃ g, HoldsF g (NO E E2 sz C v hs ls)) (hr : ∀ r ∈ NO E E2 sz C v hs ls, ∀ a u, Rd r a u → Rd S a u) : Row S 1 (nR S sz C) v ls := by
 obtain ⟨g, hg⟩ := hok
 have hlen : hs.length = ls.length := HoldsF.get hg (r := pureR (hs.length = ls.length)) (by simp [NO])
 have h2 : HoldsF g (nrows E2 sz C hs ls) := HoldsF.get hg (r := Res.star (nrows E2 sz C hs ls)) (by simp [NO])
 refine row_vr (E := E) (rows := hs.map fun h => [h]) ⟨g, HoldsF.get hg (by simp [NO])⟩ (by simp [hlen]) (hr _ (by simp [NO])) fun i us l h3 h4 => ?_
 have hli : i < ls.length := (List.getElem?_eq_some_iff.1 h4).1
 have hai : hs[i]? = some hs[i] := List.getElem?_eq_getElem (by omega)
 have h5 : us = [hs[i]] := by simp [List.getElem?_map, hai] at h3; exact h3.symm
 have hmem : VR hs[i] E2 sz (l.map C) ∈ nrows E2 sz C hs ls := List.mem_of_getElem? (i := i) (by simp [nrows, List.getElem?_zipWith, hai, h4])
 refine ⟨hs[i], h5, row_vr (E := E2) (rows := l.map C) ⟨g, HoldsF.get h2 hmem⟩ (by simp) (fun a u hu => hr (Res.star (nrows E2 sz C hs ls)) (by simp [NO]) a u (rd_mem hmem a u hu)) fun j us x g1 g2 => ?_⟩
 simp [List.getElem?_map, g2] at g1; exact g1.symm
theorem NO_star {E : TypeId} {v : Value} {hs : List Value} {ls : List (List α)} (hok : ∃ g, (Res.star (NO E E2 sz C v hs ls)).ok g) : Row (Res.star (NO E E2 sz C v hs ls)) 1 (nR (Res.star (NO E E2 sz C v hs ls)) sz C) v ls := NO_row hok fun _ hr a u hu => rd_mem hr a u hu
theorem nrows_snoc {hs : List Value} {ls : List (List α)} {x : Value} {l : List α} (h : hs.length = ls.length) : nrows E2 sz C (hs ++ [x]) (ls ++ [l]) = nrows E2 sz C hs ls ++ [VR x E2 sz (l.map C)] := by unfold nrows; rw [List.zipWith_append h]; rfl
end
theorem kC_one (l : List Key) : ∀ us x, x ∈ l → eqC kC us x → ∀ u ∈ us, u.oneCell' = true := fun us x _ h u hu => by cases h; simp [kC] at hu; rcases hu with rfl | rfl <;> rfl
def ordersE (y : Yard) : List (List Key) × Int := if y.right = true then (y.procs.map (·.puts), 0) else ([], 2)
section
variable {S : Res}
set_option maxRecDepth 100000 in
theorem Orders_ct {ys : List Value} {y : Yard} (hy : yardR S ys y) (hf : Fit y) : CtN Tryz.prog 38 #[.agg ys.toArray] [S] fun u T => ∃ v, u = .tuple #[v, .int .i64 (ordersE y).2] ∧ Row T 1 (nR T 2 kC) v (ordersE y).1 := by
 obtain ⟨jv, pv, rfl, hj, hp⟩ := id hy
 obtain ⟨ap, cp, hpv, _⟩ := id hp
 have hfp := hf.2.1
 unfold ordersE
 subst hpv
 refine ct_of (n := 28) Tryz.func38 rfl rfl (len rfl) fun hr w0 => ?_
 refine cS (cR (st_bx rfl rfl fun b1 => ?_))
 refine sV (vA rfl) (sV (vA rfl) (sN (nK [1, 2, 3] rfl (nT (cS (cS (cR (sV (v_ldn rfl ld27 rfl rds_pt) ?_))))))))
 refine st_clr rfl rfl en67 rfl (opened_ct (l := []) hy hf Row.nil (by simp)) ?_
 refine sV (vA rfl) (sN (nK [1, 2, 3, 4] rfl (nT (cS (cR (sV (vM rfl) (sV (v_neq rfl rfl) (sN (nK [1, 2, 3, 4, 11] rfl (nT ?_))))))))))
 rw [openedE_nil]
 refine cC rfl (fun h1 => ?_) (fun h1 => ?_)
 ·skip
  have h2 : ¬ y.right = true := fun h => by rw [if_pos h] at h1; cases h1
  refine cS (cR (sV (vM rfl) (sV (vA rfl) (sV (vA rfl) (sN (nK [1, 2, 3] rfl (nT (cT (xR ?_)))))))))
  rw [if_neg h2, if_neg h2]
  refine xt_vw (vw_pure (φ := True) trivial) ?_
  exact xt_rt rfl ⟨pureR True, rfl, .slice none 0 0, rfl, Row.nil⟩
 ·skip
  have h2 : y.right = true := by
   cases hr : y.right with
   | true => rfl
   | false => rw [hr] at h1; cases h1
  rw [if_pos h2, if_pos h2]
  refine cK (xT (cS (cR (sV (vA rfl) (sN (nK [1, 2, 3, 5] rfl (nT (cS (cS (cR (sV (vF rfl fa27_1 rfl) (sV (vY rfl ld25) ?_))))))))))))
  refine sV (v_len rfl Tryz.underlying25) (sV (vM rfl) (sN (nK [2, 3, 5, 14, 15, 16] rfl (nT (cB (cd_vw (vw_nil 74 1) (cd_pv (pv_add (triv_star (L := []) (fun r h => by cases h))) ?_)))))))
  refine cd_lp (σ := Nat × Value × List Value) (fun s => [(5, s.2.1), (14, .slice ap y.procs.length cp), (15, .int .i64 y.procs.length), (16, .int .i64 (s.1 : Nat))]) (fun s => VR s.2.1 74 1 (s.2.2.map fun h => [h]) :: Res.star (nrows 79 2 kC s.2.2 ((y.procs.take s.1).map (·.puts))) :: S :: hr) (fun s => s.1 ≤ y.procs.length ∧ s.2.2.length = s.1 ∧ s.2.1.oneCell' = true) (fun s => y.procs.length - s.1) (0, .slice none 0 0, []) ⟨Nat.zero_le _, rfl, rfl⟩ ?_
  rintro ⟨k, v, hs⟩ ⟨hk, hkl, h1⟩
  simp only at hk hkl h1
  refine cS (cR (sV (v_lss rfl rfl) (sN (nT (cS (cC rfl (fun hd => ?_) (fun hd => ?_)))))))
  ·skip
   have hlt : k < y.procs.length := by simpa using hd
   obtain ⟨b, off, cp2, us, hv2, hus, hrd, lv, pv', hv, dv, rfl, hL, hP, hH, hD⟩ := hp.at (List.getElem?_eq_getElem hlt)
   have hfpp := hf.2.2 _ (List.getElem_mem hlt)
   obtain ⟨al, cl', rfl, _⟩ := id hL
   obtain ⟨ap', cp', rfl, _⟩ := id hP
   obtain ⟨ah, ch', rfl, _⟩ := id hH
   obtain ⟨ad, cd', rfl, _⟩ := id hD
   generalize hpe : y.procs[k] = p at *
   refine cK (xT (cS (cB (cS (cR (sV (vI (k := k) (congrArg some hv2) rfl sl25 rfl hlt rfl) (sV (v_ldn rfl ld77 hus hrd) ?_)))))))
   refine st_alc al77 fun b7 => ?_
   refine st_stoW rfl rfl sz77 rfl rfl ?_
   refine sN (nK [5, 7, 14, 15, 16] rfl (nT (cR (sV (vM rfl) (sV (vF rfl fa77_1 rfl) (sV (vY rfl ld74) ?_))))))
   refine st_cl rfl rfl en82 rfl (clone82_ct hP hfpp.2.1 (kC_one _)) ?_
   rintro u h' ⟨T, rfl, hT⟩
   obtain ⟨rfl, hu1⟩ := hT.eqC
   refine st_buildSlice (cells := [u]) rfl Tryz.underlying92 inf74 rfl rfl (fill_one hu1 _ (by simp)) (ltn rfl) fun b24 => ?_
   refine st_app [[u]] rfl rfl Tryz.underlying92 inf74 rfl (by decide) slq (by simp) rfl (fun j u2 hu2 => at_here (rd_cl (by simpa using hu2))) (by simp; exact hu1) (by simp; omega) (by simp; omega) (ltn rfl) fun v' hv' _ => ?_
   refine sV (vA rfl) (sN (nK [5, 14, 15, 16] rfl (nx_xt (xB (xT (cR (sV (v_add rfl rfl (by unfold I64 at *; omega)) (sV (vM rfl) (sN (nK [5, 14, 15, 16] rfl (nx_xt ?_)))))))))))
   have e1 : (y.procs.take (k + 1)).map (·.puts) = (y.procs.take k).map (·.puts) ++ [p.puts] := by rw [List.take_succ_eq_append_getElem hlt, hpe]; simp
   rw [show hs.map (fun h => [h]) ++ [[u]] = (hs ++ [u]).map fun h => [h] by simp]
   refine xt_pv (pv_snoc (L := nrows 79 2 kC hs ((y.procs.take k).map (·.puts))) (r := VR u 79 2 (p.puts.map kC))) ?_
   rw [← nrows_snoc (by simp; omega), ← e1]
   refine xt_ag (k + 1, v', hs ++ [u]) ⟨hlt, by simp; omega, hv'⟩ (by show _ - _ < _ - _; omega)
  ·skip
   refine cd_exit (xE (xE (xY (xT (cS (cR (sV (vM rfl) (sV (vA rfl) (sV (vA rfl) (sN (nK [2, 3] rfl (nT (cT ?_)))))))))))))
   have hkj : k = y.procs.length := by
    have : ¬ k < y.procs.length := by simpa using hd
    omega
   subst hkj
   rw [List.take_length]
   refine xt_pv (pv_add (triv_pure (φ := hs.length = (y.procs.map (·.puts)).length) (by simp [hkl]))) ?_
   refine xt_pv (pv_pack (L := NO 74 79 2 kC v hs (y.procs.map (·.puts)))) ?_
   refine xt_ok .here fun hok => ?_
   exact xt_rt rfl ⟨_, rfl, v, rfl, NO_star hok⟩
end
end Go.Wt
namespace Go.Wt
open Go Go.Ck Go.Proofs Go.Proofs.YtboepbencndobaaGreat Fx
attribute [local irreducible] St Cd Xt Nx DrL LsW
def blk (acc : List (List Did)) (d : Did) : List (List Did) := match acc.getLast? with
 | some b => if (b.headD ((0, 0), 0, false, false)).1 = d.1 then acc.dropLast ++ [b ++ [d]] else acc ++ [[d]]
 | none => [[d]]
theorem blk_nil (d : Did) : blk [] d = [[d]] := rfl
theorem blk_snoc (ls : List (List Did)) (x : Did) (t : List Did) (d : Did) : blk (ls ++ [x :: t]) d = if x.1 = d.1 then ls ++ [(x :: t) ++ [d]] else ls ++ [x :: t] ++ [[d]] := by
 unfold blk
 simp
def blocksE (y : Yard) (spot : Int) : List (List Did) × Int := if openedE y [spot] = 0 then ((y.pr spot.toNat).did.foldl blk [], 0) else ([], openedE y [spot])
abbrev LB := Option (Value × Did × List Did)
def LB.sh : LB → SH
 | none => []
 | some (h, x, t) => [VR h 81 5 ((x :: t).map dC)]
def LB.hs : LB → List Value
 | none => []
 | some (h, _) => [h]
def LB.ls : LB → List (List Did)
 | none => []
 | some (_, x, t) => [x :: t]
theorem v_is {P : Program} {e : Env} {h : SH} {op : Op} {ty : TypeId} {v v' : Value} (he : v = v') (hv : Vop P e h op ty v) : Vop P e h op ty v' := he ▸ hv
section
variable {S : Res}
set_option maxHeartbeats 1000000 in
set_option maxRecDepth 100000 in
theorem Blocks_ct {ys : List Value} {y : Yard} (hy : yardR S ys y) (hf : Fit y) (spot : Int) : CtN Tryz.prog 26 #[.agg ys.toArray, .int .i64 spot] [S] fun u T => ∃ v, u = .tuple #[v, .int .i64 (blocksE y spot).2] ∧ Row T 1 (nR T 5 dC) v (blocksE y spot).1 := by
 obtain ⟨jv, pv, rfl, hj, hp⟩ := id hy
 unfold blocksE
 refine ct_of (n := 65) Tryz.func26 rfl rfl (len rfl) fun hr w0 => ?_
 refine cS (cR (st_bx rfl rfl fun b2 => ?_))
 refine sV (vA rfl) (sV (vA rfl) (sN (nK [1, 2, 4, 5] rfl (nT (cS (cS (cR (sV (v_ldn rfl ld27 rfl rds_pt) ?_))))))))
 refine sV (vM rfl) (st_buildSlice (cells := [.int .i64 spot]) rfl Tryz.underlying43 inf3 rfl rfl (by kernel_rfl) (ltn rfl) fun b13 => ?_)
 refine st_clr rfl rfl en67 rfl (reads_star (opened_ct (S := Res.star [pt b13 (cl [.int .i64 spot] 3), S]) (l := [spot]) (hy.mono (rd_in (.there .here))) hf ((row_pt (C := iC) (sz := 1) (l := [spot]) (n := 1) rfl (by simp [iC]) rfl (by decide)).mono (rd_in .here) fun _ _ _ h => h) (by simp))) ?_
 refine sV (vA rfl) (sN (nK [1, 2, 4, 5, 6] rfl (nT (cS (cR (sV (vM rfl) (sV (v_neq rfl rfl) (sN (nK [1, 2, 4, 5, 6, 16] rfl (nT (cC rfl (fun h1 => ?_) (fun h1 => ?_))))))))))))
 ·skip
  refine cS (cR (sV (vM rfl) (sV (vA rfl) (sV (vA rfl) (sN (nK [1, 2, 4, 5] rfl (nT (cT (xR ?_)))))))))
  rw [if_neg (by simpa using h1)]
  refine xt_vw (vw_pure (φ := True) trivial) ?_
  exact xt_rt rfl ⟨pureR True, rfl, .slice none 0 0, rfl, Row.nil⟩
 ·skip
  have h1' : openedE y [spot] = 0 := by simpa using h1
  rw [if_pos h1']
  obtain ⟨_, hsp⟩ := openedE_zero h1'
  obtain ⟨hs0, hs1⟩ := hsp spot (by simp)
  obtain ⟨q, rfl⟩ := Int.eq_ofNat_of_zero_le hs0
  rw [Int.toNat_natCast] at hs1 ⊢
  obtain ⟨b, off, cp2, us, rfl, hus, hrd, lv, pv', hv, dv, rfl, hL, hP, hH, hD⟩ := hp.at (List.getElem?_eq_getElem hs1)
  have hfpp := hf.2.2 _ (List.getElem_mem hs1)
  obtain ⟨ad, cd', hdv, _⟩ := id hD
  rw [pr_get hs1]
  generalize hpe : y.procs[q] = p at *
  have hdl := hfpp.2.2.2.1
  refine cK (xT (cS (cR (sV (vA rfl) (sN (nK [1, 2, 4, 5, 7] rfl (nT (cS (cS (cR (sV (vF rfl fa27_1 rfl) (sV (vY rfl ld25) ?_))))))))))))
  refine sV (vM rfl) (sV (vI (k := q) rfl rfl sl25 rfl hs1 rfl) (sV (vF rfl fa77_8 rfl) (sV (vY rfl ld62) ?_)))
  refine sV (v_len (congrArg some hdv) Tryz.underlying62) (sV (vM rfl) (sN (nK [4, 5, 7, 23, 24, 25] rfl (nT (cB (cd_vw (vw_nil 62 1) (cd_pv (pv_add (triv_star (L := []) (fun r h => by cases h))) ?_)))))))
  refine cd_lp (σ := Nat × Value × List Value × List (List Did) × LB) (fun s => [(7, s.2.1), (23, dv), (24, .int .i64 p.did.length), (25, .int .i64 (s.1 : Nat))]) (fun s => VR s.2.1 62 1 ((s.2.2.1 ++ s.2.2.2.2.hs).map fun h => [h]) :: Res.star (nrows 81 5 dC s.2.2.1 s.2.2.2.1) :: (s.2.2.2.2.sh ++ (S :: hr))) (fun s => s.1 ≤ p.did.length ∧ s.2.2.1.length = s.2.2.2.1.length ∧ s.2.1.oneCell' = true ∧ (p.did.take s.1).foldl blk [] = s.2.2.2.1 ++ s.2.2.2.2.ls ∧ (s.2.2.2.2 = none → s.2.2.1 = []) ∧ s.2.2.1.length ≤ s.1 ∧ (s.2.2.2.2 ≠ none → s.2.2.1.length + 1 ≤ s.1) ∧ ∀ h x t, s.2.2.2.2 = some (h, x, t) → t.length ≤ s.1) (fun s => p.did.length - s.1) (0, .slice none 0 0, [], [], none) ⟨Nat.zero_le _, rfl, rfl, rfl, fun _ => rfl, Nat.zero_le _, fun h => absurd rfl h, fun h x t e => by cases e⟩ ?_
  rintro ⟨k, v, hs, ls, lb⟩ ⟨hk, hkl, h1, hacc, hnone, hle1, hle2, hle3⟩
  simp only at hk hkl h1 hacc hnone hle1 hle2 hle3
  refine cS (cR (sV (v_lss rfl rfl) (sN (nT (cS (cC rfl (fun hd => ?_) (fun hd => ?_)))))))
  ·skip
   have hlt : k < p.did.length := by simpa using hd
   obtain ⟨b2, off2, cp3, us2, hv2, hus2, hrd2, rfl⟩ := hD.at (List.getElem?_eq_getElem hlt)
   have hfold : (p.did.take (k + 1)).foldl blk [] = blk (ls ++ lb.ls) p.did[k] := by rw [List.take_succ_eq_append_getElem hlt, List.foldl_append, hacc]; rfl
   generalize hde : p.did[k] = d at *
   rcases lb with _ | ⟨hl, x, t⟩
   ·skip
    obtain rfl := hnone rfl
    have hls : ls = [] := List.eq_nil_of_length_eq_zero (by simpa using hkl.symm)
    subst hls
    simp only [LB.sh, LB.hs, LB.ls, List.nil_append, List.append_nil, List.map_nil] at hfold ⊢
    rw [blk_nil] at hfold
    refine cd_rowf (v := v) slq (fun va vc hve _ _ => ?_)
    simp only [List.length_nil] at hve
    subst hve
    refine cK (xT (cS (cB (cS (cR (sV (vI (k := k) (congrArg some hv2) rfl sl62 rfl hlt rfl) (sV (v_ldn rfl ld81 hus2 hrd2) ?_)))))))
    refine st_alc al81 fun b9 => ?_
    refine st_stoW rfl rfl sz81 rfl rfl ?_
    refine sN (nK [7, 9, 23, 24, 25] rfl (nT (cS (cS (cR (sV (vM rfl) (sV (v_len rfl Tryz.underlying54) (sV (vA rfl) (sN (nK [7, 9, 10, 23, 24, 25] rfl (nT (cS (cd_drawh (ork [(0, 2), (1, 2), (2, 2), (3, 2), (4, 2), (5, 2), (6, 2), (7, 1), (8, 2), (9, 2), (10, 1), (11, 2), (12, 1), (13, 1), (14, 2)] .nil) (fun _ => true) mixed (by kernel_rfl) ?_)))))))))))))
    refine dV rfl (vM rfl) (dV rfl (v_gtr rfl rfl) (dV rfl (vM rfl) (dp_sk rfl rfl rfl rfl ?_)))
    iterate 3 refine dp_sk rfl rfl rfl rfl ?_
    refine dr_sk rfl rfl rfl rfl ?_
    iterate 2 refine dp_sk rfl rfl rfl rfl ?_
    refine dr_sk rfl rfl rfl rfl ?_
    refine dp_sk rfl rfl rfl rfl ?_
    iterate 2 refine dr_sk rfl rfl rfl rfl ?_
    refine dV rfl (vP rfl rfl) (dr_nil (nK [7, 9, 10, 23, 24, 25, 45] rfl (nT (cd_false rfl ?_))))
    refine cK (xT (cR (sV (vM rfl) (sV (v_ldn rfl ld81 rfl rds_pt) ?_))))
    refine st_buildSlice (cells := dC d) rfl Tryz.underlying62 inf81 rfl rfl (by kernel_rfl) (ltn rfl) fun b60 => ?_
    refine st_buildSlice (cells := [.slice (some ⟨b60, 0, none⟩) 1 1]) rfl Tryz.underlying54 inf62 rfl rfl (by kernel_rfl) (ltn rfl) fun b61 => ?_
    refine st_app [[.slice (some ⟨b60, 0, none⟩) 1 1]] rfl rfl Tryz.underlying54 inf62 rfl (by decide) slq (by simp) rfl (fun j u2 hu2 => at_here (rd_cl (by simpa using hu2))) (by simp [Value.oneCell']) (by simp) (by simp) (ltn rfl) fun v' hv' _ => ?_
    refine sV (vA rfl) (sN (nK [7, 23, 24, 25] rfl (nx_xt (xB (xT (cR (sV (v_add rfl rfl (by unfold I64 at *; omega)) (sV (vM rfl) (sN (nK [7, 23, 24, 25] rfl (nx_xt (xt_pv (pv_of (E := 81) (sz := 5) [dC d] (cells := dC d) (b := b60) (n := 1) (by simp) (by simp [dC]) rfl (by decide)) ?_))))))))))))
    refine xt_ag (k + 1, v', [], [], some (.slice (some ⟨b60, 0, none⟩) 1 1, d, [])) ⟨hlt, rfl, hv', hfold, (fun h => by cases h), Nat.zero_le _, (fun _ => by simp), (fun h x t e => by cases e; simp)⟩ (by show _ - _ < _ - _; omega)
   ·skip
    simp only [LB.sh, LB.hs, LB.ls] at hfold ⊢
    have hhs := hle2 (by simp)
    have htl := hle3 hl x t rfl
    rw [blk_snoc] at hfold
    refine cd_row (v := v) slq (fun _ h0 => by simp at h0) (fun vb vo vc hve _ _ => ?_)
    refine cd_row (v := hl) slq (fun _ h0 => by simp at h0) (fun lb2 lo lc hle _ _ => ?_)
    simp only [List.length_map, List.length_append, List.length_cons, List.length_nil] at hve hle
    subst hve hle
    have hn : decide (0 < ((hs.length + (0 + 1) : Nat) : Int)) = true := by simp
    have hrow : ((hs ++ [Value.slice (some ⟨lb2, lo, none⟩) (t.length + 1) lc]).map fun h => [h])[hs.length]? = some [.slice (some ⟨lb2, lo, none⟩) (t.length + 1) lc] := by simp
    have hRd : Rd (VR (.slice (some ⟨vb, vo, none⟩) (hs.length + (0 + 1)) vc) 62 1 ((hs ++ [Value.slice (some ⟨lb2, lo, none⟩) (t.length + 1) lc]).map fun h => [h])) ⟨vb, vo + hs.length * 1, none⟩ (.slice (some ⟨lb2, lo, none⟩) (t.length + 1) lc) := by
     have := rd_vrk (E := 62) (b := vb) (o := vo) (n := hs.length + (0 + 1)) (cp := vc) (sz := 1) (k := 0) hrow rfl
     exact this
    refine cK (xT (cS (cB (cS (cR (sV (vI (k := k) (congrArg some hv2) rfl sl62 rfl hlt rfl) (sV (v_ldn rfl ld81 hus2 hrd2) ?_)))))))
    refine st_alc al81 fun b9 => ?_
    refine st_stoW rfl rfl sz81 rfl rfl ?_
    refine sN (nK [7, 9, 23, 24, 25] rfl (nT (cS (cS (cR (sV (vM rfl) (sV (v_len rfl Tryz.underlying54) (sV (vA rfl) (sN (nK [7, 9, 10, 23, 24, 25] rfl (nT (cS (cd_drawh (ork [(0, 2), (1, 2), (2, 2), (3, 2), (4, 2), (5, 2), (6, 2), (7, 1), (8, 2), (9, 2), (10, 1), (11, 2), (12, 1), (13, 1), (14, 2)] .nil) (fun _ => true) mixed (by kernel_rfl) ?_)))))))))))))
    refine dV rfl (vM rfl) (dV rfl (v_is (congrArg Value.bool hn) (v_gtr rfl rfl)) (dV rfl (vM rfl) (dp_vg rfl rfl rfl (vM rfl) (dp_vg rfl rfl rfl (vM rfl) (dp_vg rfl rfl rfl (v_sub rfl rfl (by unfold I64 at *; omega)) (dp_vg rfl rfl rfl (vI (k := hs.length) rfl rfl sl54 (by push_cast; omega) (by omega) rfl) ?_))))))
    refine dr_vg rfl rfl rfl (vY rfl ld62) ?_
    refine dp_vg rfl rfl rfl (vI (k := 0) rfl rfl sl62 rfl (by omega) rfl) (dp_vg rfl rfl rfl (vF rfl fa81_0 rfl) (dr_vg rfl rfl rfl (v_ldn (vs := kC x.1) rfl ld79 rfl (rds_sub (rds_vr (m := 0) rfl) rfl)) ?_))
    refine dp_vg rfl rfl rfl (vF rfl fa81_0 rfl) (dr_vg rfl rfl rfl (v_ldn (vs := kC d.1) rfl ld79 rfl (rds_sub rds_pt rfl)) ?_)
    refine dr_vg rfl rfl rfl (v_eql_T eq79 rfl rfl) (dV rfl (vQ rfl rfl) (dr_nil (nK [7, 9, 10, 23, 24, 25, 45] rfl (nT (cC rfl (fun hk2 => ?_) (fun hk2 => ?_))))))
    ·skip
     refine cS (cd_drawh (ork [(0, 2), (1, 2), (2, 2), (3, 2), (4, 2), (5, 2), (6, 2), (7, 1), (8, 1), (9, 0), (10, 0), (11, 2), (12, 0)] .nil) (fun i => !(Nat.beq i 10 || Nat.beq i 12)) mixed (by kernel_rfl) ?_)
     refine dV rfl (vM rfl) (dV rfl (vM rfl) (dV rfl (v_sub rfl rfl (by unfold I64 at *; omega)) (dV rfl (vM rfl) (dV rfl (vM rfl) (dV rfl (v_sub rfl rfl (by unfold I64 at *; omega)) ?_)))))
     rw [if_pos (by simpa using hk2)] at hfold
     refine dV rfl (vI (k := hs.length) rfl rfl sl54 (by push_cast; omega) (by omega) rfl) ?_
     refine dr_v rfl (vY rfl ld62) ?_
     refine dr_v rfl (v_ldn rfl ld81 rfl rds_pt) ?_
     refine dr_eff rfl (st_buildSlice (cells := dC d) rfl Tryz.underlying62 inf81 rfl rfl (by kernel_rfl) (ltn rfl) fun b55 => dr_nx ?_)
     refine dr_eff rfl (st_app (v := .slice (some ⟨lb2, lo, none⟩) (t.length + 1) lc) [dC d] rfl rfl Tryz.underlying62 inf81 rfl (by decide) slq (by simp [dC]) rfl (fun j u2 hu2 => at_here (rd_cl (by simpa using hu2))) (by simp [dC, Value.oneCell']) (by simp; omega) (by simp; omega) (ltn rfl) fun v' hv' _ => dr_nx ?_)
     refine dV rfl (vI (k := hs.length) rfl rfl sl54 (by push_cast; omega) (by omega) rfl) ?_
     refine dr_eff rfl (st_vr (sz := 1) (m := hs.length) (k := 0) rfl rfl sz62 hv' hrow (by decide) rfl slq (dr_nx ?_))
     refine dr_nil (nK [7, 9, 23, 24, 25] rfl (nT (cd_exit (xE (xY (xT (cR (sV (v_add rfl rfl (by unfold I64 at *; omega)) (sV (vM rfl) (sN (nK [7, 23, 24, 25] rfl (nx_xt ?_))))))))))))
     have e2 : (((hs ++ [Value.slice (some ⟨lb2, lo, none⟩) (t.length + 1) lc]).map fun h => [h]).set hs.length ([Value.slice (some ⟨lb2, lo, none⟩) (t.length + 1) lc].set 0 v')) = (hs ++ [v']).map fun h => [h] := by simp
     rw [e2]
     have e3 : (x :: t).map dC ++ [dC d] = (x :: (t ++ [d])).map dC := by simp
     rw [e3]
     refine xt_ag (k + 1, .slice (some ⟨vb, vo, none⟩) (hs.length + (0 + 1)) vc, hs, ls, some (v', x, t ++ [d])) ⟨hlt, hkl, rfl, hfold, (fun h => by cases h), by show hs.length ≤ k + 1; omega, (fun _ => by show hs.length + 1 ≤ k + 1; omega), (fun h x2 t2 e => by cases e; simp; omega)⟩ (by show _ - _ < _ - _; omega)
    ·skip
     refine cK (xT (cR (sV (vM rfl) ?_)))
     rw [if_neg (by simpa using hk2)] at hfold
     refine sV (v_ldn rfl ld81 rfl rds_pt) ?_
     refine st_buildSlice (cells := dC d) rfl Tryz.underlying62 inf81 rfl rfl (by kernel_rfl) (ltn rfl) fun b60 => ?_
     refine st_buildSlice (cells := [.slice (some ⟨b60, 0, none⟩) 1 1]) rfl Tryz.underlying54 inf62 rfl rfl (by kernel_rfl) (ltn rfl) fun b61 => ?_
     refine st_app (v := .slice (some ⟨vb, vo, none⟩) (hs.length + (0 + 1)) vc) [[.slice (some ⟨b60, 0, none⟩) 1 1]] rfl rfl Tryz.underlying54 inf62 rfl (by decide) slq (by simp) rfl (fun j u2 hu2 => at_here (rd_cl (by simpa using hu2))) (by simp [Value.oneCell']) (by simp; omega) (by simp; omega) (ltn rfl) fun v' hv' _ => ?_
     refine sV (vA rfl) (sN (nK [7, 23, 24, 25] rfl (nx_xt (xB (xT (cR (sV (v_add rfl rfl (by unfold I64 at *; omega)) (sV (vM rfl) (sN (nK [7, 23, 24, 25] rfl (nx_xt (xt_pv (pv_of (E := 81) (sz := 5) [dC d] (cells := dC d) (b := b60) (n := 1) (by simp) (by simp [dC]) rfl (by decide)) ?_))))))))))))
     refine xt_pv (pv_snoc (L := nrows 81 5 dC hs ls) (r := VR (.slice (some ⟨lb2, lo, none⟩) (t.length + 1) lc) 81 5 ((x :: t).map dC))) ?_
     rw [← nrows_snoc hkl]
     have e2 : ((hs ++ [Value.slice (some ⟨lb2, lo, none⟩) (t.length + 1) lc]).map fun h => [h]) ++ [[Value.slice (some ⟨b60, 0, none⟩) 1 1]] = (hs ++ [Value.slice (some ⟨lb2, lo, none⟩) (t.length + 1) lc] ++ [Value.slice (some ⟨b60, 0, none⟩) 1 1]).map fun h => [h] := by simp
     rw [e2]
     refine xt_ag (k + 1, v', hs ++ [Value.slice (some ⟨lb2, lo, none⟩) (t.length + 1) lc], ls ++ [x :: t], some (.slice (some ⟨b60, 0, none⟩) 1 1, d, [])) ⟨hlt, by simp [hkl], hv', hfold, (fun h => by cases h), by simp; omega, (fun _ => by simp; omega), (fun h x2 t2 e => by cases e; simp)⟩ (by show _ - _ < _ - _; omega)
  ·skip
   refine cd_exit (xE (xE (xY (xT (cS (cR (sV (vM rfl) (sV (vA rfl) (sV (vA rfl) (sN (nK [4, 5] rfl (nT (cT ?_)))))))))))))
   have hkj : k = p.did.length := by
    have : ¬ k < p.did.length := by simpa using hd
    omega
   subst hkj
   rw [List.take_length] at hacc
   rw [hacc]
   rcases lb with _ | ⟨hl, x, t⟩
   ·skip
    simp only [LB.sh, LB.hs, LB.ls, List.nil_append, List.append_nil]
    refine xt_pv (pv_add (triv_pure (φ := hs.length = ls.length) hkl)) ?_
    refine xt_pv (pv_pack (L := NO 62 81 5 dC v hs ls)) ?_
    refine xt_ok .here fun hok => ?_
    exact xt_rt rfl ⟨_, rfl, v, rfl, NO_star hok⟩
   ·skip
    simp only [LB.sh, LB.hs, LB.ls]
    refine xt_pv (pv_snoc (L := nrows 81 5 dC hs ls) (r := VR hl 81 5 ((x :: t).map dC))) ?_
    rw [← nrows_snoc hkl]
    refine xt_pv (pv_add (triv_pure (φ := (hs ++ [hl]).length = (ls ++ [x :: t]).length) (by simp [hkl]))) ?_
    refine xt_pv (pv_pack (L := NO 62 81 5 dC v (hs ++ [hl]) (ls ++ [x :: t]))) ?_
    refine xt_ok .here fun hok => ?_
    exact xt_rt rfl ⟨_, rfl, v, rfl, NO_star hok⟩
end
end Go.Wt
