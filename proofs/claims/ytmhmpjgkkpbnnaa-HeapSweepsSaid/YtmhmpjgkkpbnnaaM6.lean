/-
  field, in, seen, Busy: what these functions of package heap return. Conditions: what the heap holds, and that sizes are small.
  forward: an object that a word refers to is moved out of a space that is being emptied. Conditions: what the heap holds, that sizes are small, that there is room.
  forward of a word that lies in the present half itself. Conditions: what the heap holds, that sizes are small, that there is room.
  Whether a field is remembered (slices.Contains of slots); Set, Get. Conditions: what the heap holds, and that sizes are small.
  Set. Conditions: what the heap holds, and that sizes are small.
  Get, Busy, Room, rooted. Conditions: what the heap holds, that sizes are small, that there is room.
  Busy, Room, rooted, object. Conditions: what the heap holds, that sizes are small.
-/
import Derived.Test.YtmhmpjgkkpbnnaaM5
namespace Go.Proofs.Ytmhmpjgkkpbnnaa
open Go.Ck Fx Go.Hm
attribute [local irreducible] St Cd Xt Nx DrL LsW

/-- What field returns: the place, whether it refers, the error. -/
inductive Fld (L : MemL) (μ : Mem) (t f : Int) : Option Addr → Bool → Int → Prop
  | none : μ.y.begins t = false → μ.n.begins t = false → Fld L μ t f none false 5
  | argy : μ.y.begins t = true → (decide (f < 0) || decide (((shAt μ.sh (μ.y.wd t)).length : Int) ≤ f)) = true → Fld L μ t f none false 1
  | argn : μ.y.begins t = false → μ.n.begins t = true → (decide (f < 0) || decide (((shAt μ.sh (μ.n.wd t)).length : Int) ≤ f)) = true → Fld L μ t f none false 1
  | y : μ.y.begins t = true → (decide (f < 0) || decide (((shAt μ.sh (μ.y.wd t)).length : Int) ≤ f)) = false → Fld L μ t f (some ⟨L.y.wb, (t + 1 + f - μ.y.fr).toNat, none⟩) ((shAt μ.sh (μ.y.wd t)).getD f.toNat false) 0
  | n : μ.y.begins t = false → μ.n.begins t = true → (decide (f < 0) || decide (((shAt μ.sh (μ.n.wd t)).length : Int) ≤ f)) = false → Fld L μ t f (some ⟨L.n.wb, (t + 1 + f - μ.n.fr).toNat, none⟩) ((shAt μ.sh (μ.n.wd t)).getD f.toNat false) 0
theorem fld_total (L : MemL) (μ : Mem) (t f : Int) : ∃ p r e, Fld L μ t f p r e := by
  cases hy : μ.y.begins t with
  | true =>
    cases hc : (decide (f < 0) || decide (((shAt μ.sh (μ.y.wd t)).length : Int) ≤ f)) with
    | true => exact ⟨_, _, _, .argy hy hc⟩
    | false => exact ⟨_, _, _, .y hy hc⟩
  | false =>
    cases hn : μ.n.begins t with
    | false => exact ⟨_, _, _, .none hy hn⟩
    | true =>
      cases hc : (decide (f < 0) || decide (((shAt μ.sh (μ.n.wd t)).length : Int) ≤ f)) with
      | true => exact ⟨_, _, _, .argn hy hn hc⟩
      | false => exact ⟨_, _, _, .n hy hn hc⟩
def fldSH (L : MemL) (μ : Mem) (S : Res) : SH := [mb L μ, sb L.y μ.y, tb L.y μ.y, wb L.y μ.y, sb L.n μ.n, tb L.n μ.n, wb L.n μ.n, S]
set_option maxRecDepth 100000 in
theorem field_ct {L : MemL} {μ : Mem} {S : Res} {t f : Int} {p : Option Addr} {r : Bool} {er : Int} (hF : Fld L μ t f p r er) (oy : μ.y.Ok) (on : μ.n.Ok) (hne : L.y.sb ≠ L.n.sb) (hS : Shp S L.vs μ.sh) (hl : ShOk μ.sh) (py : SpOk μ.sh μ.y) (pn : SpOk μ.sh μ.n) :
    Reads Try.prog 92 #[.pointer (some ⟨L.mb, 0, none⟩), .int .i64 t, .int .i64 f] (fldSH L μ S) (.tuple #[.pointer p, .bool r, .int .i64 er]) := by
  have h1y := oy.us; have h2y := oy.fr; have h3y := oy.ws; have h1n := on.us; have h2n := on.fr; have h3n := on.ws
  unfold fldSH
  refine ct_of (n := 56) Try.func92 rfl rfl (len rfl) fun hr w0 => ?_
  refine cd_seq (cd_region (st_v (v_assign rfl) (st_v (v_assign rfl) (st_v (v_assign rfl) (st_nil (nx_then (cd_seq (cd_seq (cd_region (st_v (v_move rfl) (st_clr rfl rfl en67 rfl (made_ct (L := L) (μ := μ)) ?_)))))))))))
  refine st_v (v_not rfl) (st_nil (nx_kp [0, 1, 2, 6, 7, 8, 14] rfl (nx_then (cd_false rfl ?_))))
  refine cd_skip (xt_then (cd_seq (cd_region (st_v (v_move rfl) (st_v (v_move rfl) (st_clr rfl rfl en71 rfl (current_ct (L := L) (μ := μ) oy on hne) ?_))))))
  refine st_v (v_move rfl) (st_v (v_extract rfl rfl) (st_v (v_extract rfl rfl) (st_v (v_assign rfl) (st_v (v_assign rfl) (st_nil (nx_kp [0, 1, 2, 6, 7, 8, 9, 10] rfl (nx_then (cd_seq (cd_seq (cd_region (st_v (v_move rfl) (st_v (v_not rfl) (st_nil (nx_kp [0, 1, 2, 6, 7, 8, 9, 22] rfl (nx_then ?_)))))))))))))))
  unfold curP Mem.cur
  cases hy : μ.y.begins t
  · skip
    cases hn : μ.n.begins t
    · skip
      refine cd_true rfl ?_
      refine cd_seq (cd_region (st_v (v_assign rfl) (st_v (v_assign rfl) (st_v (v_assign rfl) (st_nil (nx_kp [0, 1, 2, 6, 7, 8, 9] rfl (nx_then (cd_ret (xt_ret_then ?_)))))))))
      cases hF <;> first | (rename_i h _; rw [hy] at h; cases h) | (rename_i _ h _; rw [hn] at h; cases h) | skip
      exact xt_rt rfl ⟨rfl, rfl⟩
    · skip
      have hq : Fld L μ t f p r er → ∃ c, (decide (f < 0) || decide (((shAt μ.sh (μ.n.wd t)).length : Int) ≤ f)) = c ∧ (c = true → p = none ∧ r = false ∧ er = 1) ∧ (c = false → p = some ⟨L.n.wb, (t + 1 + f - μ.n.fr).toNat, none⟩ ∧ r = (shAt μ.sh (μ.n.wd t)).getD f.toNat false ∧ er = 0) := by
        intro hF
        cases hF with
        | none h h' => rw [hn] at h'; cases h'
        | argy h => rw [hy] at h; cases h
        | y h => rw [hy] at h; cases h
        | argn _ _ h => exact ⟨_, h, (fun _ => ⟨rfl, rfl, rfl⟩), (fun h => by cases h)⟩
        | n _ _ h => exact ⟨_, h, (fun h => by cases h), (fun _ => ⟨rfl, rfl, rfl⟩)⟩
      obtain ⟨cc, hcc, hq1, hq2⟩ := hq hF
      have hb := begins_bd hn
      obtain ⟨hk0, hk1, hfit⟩ := pn t hn
      have hk : (μ.n.wd t).toNat < μ.sh.length := by omega
      obtain ⟨b, o, cp, u, hv', hu, a2, cp2, hu2, hrd2⟩ := hS.row hk
      have hsh : shAt μ.sh (μ.n.wd t) = μ.sh[(μ.n.wd t).toNat] := by unfold shAt; exact getD_lt hk
      have hsz := hl.at (μ.n.wd t)
      rw [hsh] at hsz hcc hq2 hfit
      have hrd : Rd (wb L.n μ.n) ⟨L.n.wb, (t - μ.n.fr).toNat, none⟩ (.int .i64 (μ.n.wd t)) := rd_ints (by omega)
      refine cd_false rfl ?_
      refine cd_skip (xt_then (cd_seq (cd_drawh (ork [(0, 2), (1, 2), (2, 2), (3, 1), (4, 2), (5, 2), (6, 2), (7, 2), (8, 1), (9, 2), (10, 1), (11, 2), (12, 1), (13, 2)] .nil) (fun _ => true) mixed (by kernel_rfl) ?_)))
      refine dp_v rfl (v_move rfl) (dp_v rfl (v_nilCheck rfl) (dp_v rfl (v_fieldAddr rfl fa100_0 rfl) (dr_v rfl (v_ld rfl ld22) ?_)))
      refine dp_v rfl (v_move rfl) (dp_v rfl (v_nilCheck rfl) (dp_v rfl (v_fieldAddr rfl fa117_0 rfl) (dp_v rfl (v_move rfl) (dr_clr rfl rfl rfl en61 rfl (word_ct (l := L.n) (s := μ.n) on (by omega) (by omega)) ?_))))
      refine dp_v rfl (v_nilCheck rfl) (dr_v rfl (v_ld rfl ld3) ?_)
      refine dp_v rfl (v_ixo _ (congrArg some hv') rfl sl22 (Int.toNat_of_nonneg hk0).symm hk) (dr_v rfl (v_ld rfl ld73) ?_)
      refine dp_v rfl (v_assign rfl) (dr_nil (nx_kp [1, 2, 6, 7, 8, 9, 11] rfl (nx_then (cd_seq (cd_seq (cd_region (st_v (v_move rfl) (st_v (v_lss rfl rfl) (st_v (v_move rfl) (st_cut (k := 8) (d := 43) (v := .bool (decide (f < 0) || decide ((μ.sh[(μ.n.wd t).toNat].length : Int) ≤ f))) (fun hcut => bool_want (b := decide (f < 0)) false (fun hg => ?_) (fun hg => ?_)) ?_))))))))))
      · refine st_sk rfl rfl hg ?_
        refine st_sk rfl rfl hg ?_
        refine st_sk rfl rfl hg ?_
        refine st_sk rfl rfl hg ?_
        refine st_v (v_pick_true (bool_ev rfl hg) rfl) ?_
        exact hcut _ (ssub_head (by first | rfl | (rw [hg]; rfl) | simp_all) (ssub_skip rfl (ssub_skip rfl (ssub_skip rfl (ssub_skip rfl (ssub_refl))))))
      · skip
        refine st_vg rfl (bool_get rfl hg) (v_move rfl) (st_vg rfl (bool_get rfl hg) (v_move rfl) (st_vg rfl (bool_get rfl hg) (v_len (congrArg some hu2) Try.underlying73) (st_vg rfl (bool_get rfl hg) (v_geq rfl rfl) (st_v (v_pick_false (bool_ev rfl hg) rfl) ?_))))
        exact hcut _ (ssub_head (by first | rfl | (rw [hg]; rfl) | simp_all) (ssub_skip rfl (ssub_skip rfl (ssub_skip rfl (ssub_skip rfl (ssub_refl))))))
      refine st_nil (nx_kp [1, 2, 6, 7, 8, 9, 11, 43] rfl (nx_then (cd_cond rfl (fun hc => ?_) (fun hc => ?_))))
      · skip
        refine cd_seq (cd_region (st_v (v_assign rfl) (st_v (v_assign rfl) (st_v (v_assign rfl) (st_nil (nx_kp [1, 2, 6, 7, 8, 9, 11] rfl (nx_then (cd_ret (xt_ret_then ?_)))))))))
        obtain ⟨rfl, rfl, rfl⟩ := hq1 (by rw [← hcc]; exact hc)
        exact xt_rt rfl ⟨rfl, rfl⟩
      · skip
        obtain ⟨rfl, rfl, rfl⟩ := hq2 (by rw [← hcc]; exact hc)
        simp only [Bool.or_eq_false_iff, decide_eq_false_iff_not, Int.not_lt, Int.not_le] at hc
        have hfl : f.toNat < μ.sh[(μ.n.wd t).toNat].length := by omega
        obtain ⟨b', o', cp', hu', hrd'⟩ := RowB.at ⟨a2, cp2, hu2, hrd2⟩ hfl
        rw [getD_lt hfl]
        refine cd_skip (xt_then (cd_seq (cd_drawh (ork [(0, 2), (1, 2), (2, 2), (3, 2), (4, 2), (5, 2), (6, 2), (7, 1), (8, 2), (9, 2), (10, 2), (11, 1), (12, 2), (13, 2), (14, 2)] .nil) (fun _ => true) mixed (by kernel_rfl) ?_)))
        refine dp_v rfl (v_move rfl) (dp_v rfl (v_nilCheck rfl) (dp_v rfl (v_fieldAddr rfl fa117_0 rfl) (dp_v rfl (v_move rfl) (dp_v rfl (v_add rfl rfl (by unfold I64 at *; omega)) (dp_v rfl (v_move rfl) (dp_v rfl (v_add rfl rfl (by unfold I64 at *; omega)) (dr_clr rfl rfl rfl en61 rfl (word_ct (l := L.n) (s := μ.n) on (by omega) (by omega)) ?_)))))))
        refine dp_v rfl (v_move rfl) (dp_v rfl (v_move rfl) (dp_v rfl (v_ixo _ (congrArg some hu') rfl sl73 (Int.toNat_of_nonneg hc.1).symm hfl) (dr_v rfl (v_ld rfl ld4) ?_)))
        refine dp_v rfl (v_assign rfl) (dp_v rfl (v_assign rfl) (dp_v rfl (v_assign rfl) (dr_nil (nx_kp [6, 7, 8] rfl (nx_then (cd_ret ?_))))))
        exact xt_rt rfl ⟨rfl, rfl⟩
  · skip
    have hq : Fld L μ t f p r er → ∃ c, (decide (f < 0) || decide (((shAt μ.sh (μ.y.wd t)).length : Int) ≤ f)) = c ∧ (c = true → p = none ∧ r = false ∧ er = 1) ∧ (c = false → p = some ⟨L.y.wb, (t + 1 + f - μ.y.fr).toNat, none⟩ ∧ r = (shAt μ.sh (μ.y.wd t)).getD f.toNat false ∧ er = 0) := by
      intro hF
      cases hF with
      | none h h' => rw [hy] at h; cases h
      | argn h => rw [hy] at h; cases h
      | n h => rw [hy] at h; cases h
      | argy _ h => exact ⟨_, h, (fun _ => ⟨rfl, rfl, rfl⟩), (fun h => by cases h)⟩
      | y _ h => exact ⟨_, h, (fun h => by cases h), (fun _ => ⟨rfl, rfl, rfl⟩)⟩
    obtain ⟨cc, hcc, hq1, hq2⟩ := hq hF
    have hb := begins_bd hy
    obtain ⟨hk0, hk1, hfit⟩ := py t hy
    have hk : (μ.y.wd t).toNat < μ.sh.length := by omega
    obtain ⟨b, o, cp, u, hv', hu, a2, cp2, hu2, hrd2⟩ := hS.row hk
    have hsh : shAt μ.sh (μ.y.wd t) = μ.sh[(μ.y.wd t).toNat] := by unfold shAt; exact getD_lt hk
    have hsz := hl.at (μ.y.wd t)
    rw [hsh] at hsz hcc hq2 hfit
    have hrd : Rd (wb L.y μ.y) ⟨L.y.wb, (t - μ.y.fr).toNat, none⟩ (.int .i64 (μ.y.wd t)) := rd_ints (by omega)
    refine cd_false rfl ?_
    refine cd_skip (xt_then (cd_seq (cd_drawh (ork [(0, 2), (1, 2), (2, 2), (3, 1), (4, 2), (5, 2), (6, 2), (7, 2), (8, 1), (9, 2), (10, 1), (11, 2), (12, 1), (13, 2)] .nil) (fun _ => true) mixed (by kernel_rfl) ?_)))
    refine dp_v rfl (v_move rfl) (dp_v rfl (v_nilCheck rfl) (dp_v rfl (v_fieldAddr rfl fa100_0 rfl) (dr_v rfl (v_ld rfl ld22) ?_)))
    refine dp_v rfl (v_move rfl) (dp_v rfl (v_nilCheck rfl) (dp_v rfl (v_fieldAddr rfl fa117_0 rfl) (dp_v rfl (v_move rfl) (dr_clr rfl rfl rfl en61 rfl (word_ct (l := L.y) (s := μ.y) oy (by omega) (by omega)) ?_))))
    refine dp_v rfl (v_nilCheck rfl) (dr_v rfl (v_ld rfl ld3) ?_)
    refine dp_v rfl (v_ixo _ (congrArg some hv') rfl sl22 (Int.toNat_of_nonneg hk0).symm hk) (dr_v rfl (v_ld rfl ld73) ?_)
    refine dp_v rfl (v_assign rfl) (dr_nil (nx_kp [1, 2, 6, 7, 8, 9, 11] rfl (nx_then (cd_seq (cd_seq (cd_region (st_v (v_move rfl) (st_v (v_lss rfl rfl) (st_v (v_move rfl) (st_cut (k := 8) (d := 43) (v := .bool (decide (f < 0) || decide ((μ.sh[(μ.y.wd t).toNat].length : Int) ≤ f))) (fun hcut => bool_want (b := decide (f < 0)) false (fun hg => ?_) (fun hg => ?_)) ?_))))))))))
    · refine st_sk rfl rfl hg ?_
      refine st_sk rfl rfl hg ?_
      refine st_sk rfl rfl hg ?_
      refine st_sk rfl rfl hg ?_
      refine st_v (v_pick_true (bool_ev rfl hg) rfl) ?_
      exact hcut _ (ssub_head (by first | rfl | (rw [hg]; rfl) | simp_all) (ssub_skip rfl (ssub_skip rfl (ssub_skip rfl (ssub_skip rfl (ssub_refl))))))
    · skip
      refine st_vg rfl (bool_get rfl hg) (v_move rfl) (st_vg rfl (bool_get rfl hg) (v_move rfl) (st_vg rfl (bool_get rfl hg) (v_len (congrArg some hu2) Try.underlying73) (st_vg rfl (bool_get rfl hg) (v_geq rfl rfl) (st_v (v_pick_false (bool_ev rfl hg) rfl) ?_))))
      exact hcut _ (ssub_head (by first | rfl | (rw [hg]; rfl) | simp_all) (ssub_skip rfl (ssub_skip rfl (ssub_skip rfl (ssub_skip rfl (ssub_refl))))))
    refine st_nil (nx_kp [1, 2, 6, 7, 8, 9, 11, 43] rfl (nx_then (cd_cond rfl (fun hc => ?_) (fun hc => ?_))))
    · skip
      refine cd_seq (cd_region (st_v (v_assign rfl) (st_v (v_assign rfl) (st_v (v_assign rfl) (st_nil (nx_kp [1, 2, 6, 7, 8, 9, 11] rfl (nx_then (cd_ret (xt_ret_then ?_)))))))))
      obtain ⟨rfl, rfl, rfl⟩ := hq1 (by rw [← hcc]; exact hc)
      exact xt_rt rfl ⟨rfl, rfl⟩
    · skip
      obtain ⟨rfl, rfl, rfl⟩ := hq2 (by rw [← hcc]; exact hc)
      simp only [Bool.or_eq_false_iff, decide_eq_false_iff_not, Int.not_lt, Int.not_le] at hc
      have hfl : f.toNat < μ.sh[(μ.y.wd t).toNat].length := by omega
      obtain ⟨b', o', cp', hu', hrd'⟩ := RowB.at ⟨a2, cp2, hu2, hrd2⟩ hfl
      rw [getD_lt hfl]
      refine cd_skip (xt_then (cd_seq (cd_drawh (ork [(0, 2), (1, 2), (2, 2), (3, 2), (4, 2), (5, 2), (6, 2), (7, 1), (8, 2), (9, 2), (10, 2), (11, 1), (12, 2), (13, 2), (14, 2)] .nil) (fun _ => true) mixed (by kernel_rfl) ?_)))
      refine dp_v rfl (v_move rfl) (dp_v rfl (v_nilCheck rfl) (dp_v rfl (v_fieldAddr rfl fa117_0 rfl) (dp_v rfl (v_move rfl) (dp_v rfl (v_add rfl rfl (by unfold I64 at *; omega)) (dp_v rfl (v_move rfl) (dp_v rfl (v_add rfl rfl (by unfold I64 at *; omega)) (dr_clr rfl rfl rfl en61 rfl (word_ct (l := L.y) (s := μ.y) oy (by omega) (by omega)) ?_)))))))
      refine dp_v rfl (v_move rfl) (dp_v rfl (v_move rfl) (dp_v rfl (v_ixo _ (congrArg some hu') rfl sl73 (Int.toNat_of_nonneg hc.1).symm hfl) (dr_v rfl (v_ld rfl ld4) ?_)))
      refine dp_v rfl (v_assign rfl) (dp_v rfl (v_assign rfl) (dp_v rfl (v_assign rfl) (dr_nil (nx_kp [6, 7, 8] rfl (nx_then (cd_ret ?_))))))
      exact xt_rt rfl ⟨rfl, rfl⟩
end Go.Proofs.Ytmhmpjgkkpbnnaa
namespace Go.Proofs.Ytmhmpjgkkpbnnaa
open Go.Ck Fx Go.Hm
attribute [local irreducible] St Cd Xt Nx DrL LsW

def mvv (m : List (Int × Int)) : List (Int × Value) := m.map fun p => (p.1, .int .i64 p.2)
def ml (m : List (Int × Int)) (k : Int) : Option Int := (m.find? (·.1 == k)).map (·.2)
def mu : List (Int × Int) → Int → Int → List (Int × Int)
  | [], k, v => [(k, v)]
  | p :: t, k, v => if p.1 = k then (k, v) :: t else p :: mu t k v
theorem mlook_mvv (m : List (Int × Int)) (k : Int) : mlook (mvv m) k = (ml m k).map (Value.int .i64) := by
  unfold mlook ml mvv
  induction m with
  | nil => rfl
  | cons p t ih =>
    simp only [List.map_cons, List.find?_cons]
    cases h : p.1 == k
    · exact ih
    · rfl
theorem mupd_mvv (m : List (Int × Int)) (k v : Int) : mupd (mvv m) k (.int .i64 v) = mvv (mu m k v) := by
  induction m with
  | nil => rfl
  | cons p t ih =>
    simp only [mvv, List.map_cons, mupd, mu] at ih ⊢
    by_cases h : p.1 = k
    · simp [h]
    · simp [h, ih]
def Mem.osz (μ : Mem) (s : Sp) (t : Int) : Nat := 1 + (shAt μ.sh (s.wd t)).length
def Mem.fwd (μ : Mem) (sf : Sp) (oth : Bool) (t : Int) : Int × Mem :=
  if sf.begins t then
    match ml μ.mv t with
    | some to => (to, μ)
    | none => (μ.n.next, { μ with n := μ.n.move (sf.obj t (μ.osz sf t)), mv := mu μ.mv t μ.n.next, le := if oth then μ.le - μ.osz sf t else μ.le })
  else (t, μ)
theorem splice_spl (l : List Int) (j : List Value) (o : Nat) (vs : List Int) (h : o + vs.length ≤ l.length) : splice (ints l ++ j) o (ints vs) = ints (spl l o vs) ++ j := by
  simp only [splice, spl, ints, List.map_append, List.map_take, List.map_drop, List.length_map]
  rw [List.take_append_of_le_length (by simp; omega), List.drop_append_of_le_length (by simp; omega)]
  simp [List.append_assoc]
theorem ints_one {l : List Int} : ∀ u ∈ ints l, u.oneCell' = true := fun u hu => by
  simp only [ints, List.mem_map] at hu
  obtain ⟨x, _, rfl⟩ := hu
  rfl
theorem src_rd {l : SpL} {s : Sp} {t : Int} {n j : Nat} {u : Value} (hu : (ints (s.obj t n))[j]? = some u) : Rd (wb l s) ⟨l.wb, (t - s.fr).toNat + j, none⟩ u := by
  refine rd_cl ?_
  simp only [ints, Sp.obj, List.getElem?_map, Option.map_eq_some_iff, List.getElem?_take] at hu
  obtain ⟨x, hx, rfl⟩ := hu
  split at hx
  · rw [List.getElem?_drop] at hx
    have hlt := (List.getElem?_eq_some_iff.1 hx).1
    rw [List.getElem?_append_left (by rw [ints_length]; exact hlt)]
    show (List.map _ s.ws)[_]? = _
    rw [List.getElem?_map, hx]; rfl
  · cases hx
theorem i117 : ((Try.prog.info? 117).map (·.size)).any (fun n => !Nat.beq n 0) = true := by kernel_rfl
theorem info_of {P : Program} {T : TypeId} (h : ((P.info? T).map (·.size)).any (fun n => !Nat.beq n 0) = true) : ∃ j, P.info? T = some j ∧ j.size ≠ 0 := by
  cases hi : P.info? T with
  | none => rw [hi] at h; cases h
  | some j => rw [hi] at h; exact ⟨j, rfl, fun e => by simp [e] at h⟩
def fwSHY (L : MemL) (μ : Mem) (S : Res) : SH := [mb L μ, sb L.y μ.y, wb L.y μ.y, tb L.y μ.y, sb L.n μ.n, wb L.n μ.n, tb L.n μ.n, mpr L.mvb (mvv μ.mv), S, sb L.o μ.o]
set_option maxRecDepth 100000 in
theorem fwdY_ct {L : MemL} {μ : Mem} {S : Res} {t : Int} {b off : Nat} {ls : List Value} {T : TypeId} (hls : ls[off]? = some (.int .i64 t)) (of : μ.y.Ok) (on : μ.n.Ok) (hS : Shp S L.vs μ.sh) (hl : ShOk μ.sh) (pf : SpOk μ.sh μ.y)
    (hle : 0 ≤ μ.le ∧ μ.le ≤ 1000000) (hroom : μ.y.begins t = true → ml μ.mv t = none → μ.n.us + μ.osz μ.y t ≤ μ.n.ws.length) :
    Ct Try.prog 81 #[.pointer (some ⟨L.mb, 0, none⟩), .pointer (some ⟨L.y.sb, 0, none⟩), .pointer (some ⟨b, off, none⟩)] (fwSHY L μ S ++ [pt b (cl ls T)])
      fun v h' => v = .tuple #[] ∧ h' = fwSHY L (μ.fwd μ.y false t).2 S ++ [pt b (cl (ls.set off (.int .i64 (μ.fwd μ.y false t).1)) T)] := by
  have h1f := of.us; have h2f := of.fr; have h3f := of.ws; have h1n := on.us; have h2n := on.fr; have h3n := on.ws
  obtain ⟨j117, hj1, hj2⟩ := info_of i117
  have hlo : off < ls.length := (List.getElem?_eq_some_iff.1 hls).1
  have hrw : Rd (pt b (cl ls T)) ⟨b, off, none⟩ (.int .i64 t) := rd_cl hls
  unfold fwSHY Mem.fwd
  simp only [List.cons_append, List.nil_append]
  refine ct_of (n := 110) Try.func81 rfl rfl (len rfl) fun hr w0 => ?_
  refine cd_seq (cd_region (st_v (v_move rfl) (st_v (v_nilCheck rfl) (st_v (v_ld rfl ld3) ?_))))
  refine st_v (v_assign rfl) (st_nil (nx_kp [0, 1, 2, 6] rfl (nx_then (cd_seq (cd_seq (cd_region (st_v (v_move rfl) (st_v (v_move rfl) (st_clr rfl rfl en72 rfl (begins_ct (l := L.y) (s := μ.y) of) ?_)))))))))
  refine st_v (v_not rfl) (st_nil (nx_kp [0, 1, 2, 6, 16] rfl (nx_then ?_)))
  cases hb : μ.y.begins t
  · skip
    refine cd_true rfl ?_
    refine cd_ret (xt_ret_then ?_)
    have hset : ls.set off (.int .i64 t) = ls := by
      apply List.ext_getElem?; intro k
      by_cases hk : off = k
      · subst hk; rw [List.getElem?_set_self hlo, hls]
      · simp [List.getElem?_set, hk]
    rw [if_neg (by simp), hset]
    exact xt_rt rfl ⟨rfl, rfl⟩
  · skip
    have hbd := begins_bd hb
    obtain ⟨hk0, hk1, hfit⟩ := pf t hb
    refine cd_false rfl ?_
    refine cd_skip (xt_then (cd_seq (cd_region (st_v (v_move rfl) (st_v (v_nilCheck rfl) (st_v (v_fieldAddr rfl fa100_7 rfl) (st_v (v_ld rfl ld97) ?_)))))))
    refine st_v (v_move rfl) (st_v (v_lookup_ok rfl rfl mp97 inf3 (by repeat (first | exact Sel.here | apply Sel.there))) ?_)
    refine st_v (v_move rfl) (st_v (v_extract rfl rfl) (st_v (v_extract rfl rfl) (st_v (v_assign rfl) (st_v (v_assign rfl) (st_nil (nx_kp [0, 1, 2, 6, 7, 8] rfl (nx_then (cd_seq (cd_seq (cd_region (st_v (v_move rfl) (st_v (v_not rfl) (st_nil (nx_kp [0, 1, 2, 6, 7, 27] rfl (nx_then ?_)))))))))))))))
    rw [mlook_mvv, if_pos rfl]
    cases hm : ml μ.mv t with
    | some to =>
      refine cd_false rfl ?_
      refine cd_skip (xt_then (cd_region (st_v (v_move rfl) (st_v (v_move rfl) (st_v (v_nilCheck rfl) (st_sto rfl rfl sz3 ?_))))))
      refine st_nil (nx_kp [] rfl (nx_xt ?_))
      exact xt_en rfl ⟨rfl, rfl⟩
    | none =>
      have hrm := hroom hb hm
      have hsz := hl.at (μ.y.wd t)
      have hrd : Rd (wb L.y μ.y) ⟨L.y.wb, (t - μ.y.fr).toNat, none⟩ (.int .i64 (μ.y.wd t)) := rd_ints (by omega)
      have hosz : μ.osz μ.y t = 1 + (shAt μ.sh (μ.y.wd t)).length := rfl
      have hob : (μ.y.obj t (μ.osz μ.y t)).length = μ.osz μ.y t := obj_length (by omega)
      have hwl : (μ.n.lay (μ.osz μ.y t) (μ.y.wd t)).ws.length = μ.n.ws.length := by simp [Sp.lay, spl_length μ.n.ws μ.n.us (List.replicate (μ.osz μ.y t) 0) (by simp; omega)]
      have hnx : μ.n.next = (μ.n.fr : Int) + μ.n.us := rfl
      have hfx : (μ.n.lay (μ.osz μ.y t) (μ.y.wd t)).fr = μ.n.fr := rfl
      refine cd_true rfl ?_
      refine cd_seq (cd_region (st_v (v_move rfl) (st_v (v_move rfl) (st_v (v_move rfl) (st_clr rfl rfl en112 rfl (size_ct (L := L) (μ := μ) (S := S) (l := L.y) (s := μ.y) of hbd.1 (by omega) hS hl hk0 hk1) ?_)))))
      refine st_v (v_assign rfl) (st_nil (nx_kp [0, 1, 2, 6, 7, 9] rfl (nx_then (cd_seq (cd_draw (ork [(0, 2), (1, 2), (2, 2), (3, 1), (4, 2), (5, 2), (6, 2), (7, 2), (8, 2), (9, 1), (10, 2), (11, 1), (12, 0), (13, 2)] .nil) (fun i => !(Nat.beq i 12)) [mb L μ, sb L.y μ.y, wb L.y μ.y] mixed (by kernel_rfl) ?_)))))
      refine dp_v rfl (v_move rfl) (dp_v rfl (v_nilCheck rfl) (dp_v rfl (v_fieldAddr rfl fa100_2 rfl) (dr_v rfl (v_ld rfl ld95) ?_)))
      refine dp_v rfl (v_move rfl) (dp_v rfl (v_move rfl) (dp_v rfl (v_nilCheck rfl) (dp_v rfl (v_fieldAddr rfl fa117_0 rfl) (dp_v rfl (v_move rfl) (dr_clr rfl rfl rfl en61 rfl (word_ct (l := L.y) (s := μ.y) of hbd.1 (by omega)) ?_)))))
      refine dp_v rfl (v_nilCheck rfl) (dr_v rfl (v_ld rfl ld3) ?_)
      refine dr_eff rfl (st_cl rfl rfl en84 rfl (lay_ct' (l := L.n) (s := μ.n) (n := μ.osz μ.y t) (sh := μ.y.wd t) (by rw [hosz]; omega) on (by omega) (by omega)) ?_)
      rintro v h' ⟨rfl, rfl⟩
      simp only [List.cons_append, List.nil_append]
      refine dr_nx ?_
      refine dp_v rfl (v_assign rfl) (dr_nil (nx_kp [0, 1, 2, 6, 7, 9] rfl (nx_then (cd_seq (cd_draw (ork [(0, 2), (1, 2), (2, 2), (3, 1), (4, 2), (5, 2), (6, 2), (7, 1), (8, 2), (9, 2), (10, 2), (11, 2), (12, 1), (13, 2), (14, 2), (15, 2), (16, 1), (17, 2), (18, 1), (19, 2), (20, 2), (21, 2), (22, 2), (23, 1), (24, 2), (25, 2), (26, 2), (27, 2), (28, 2), (29, 1), (30, 2), (31, 2), (32, 2), (33, 2), (34, 2), (35, 2), (36, 1), (37, 2), (38, 2), (39, 2), (40, 1), (41, 0)] .nil) (fun i => !(Nat.beq i 41)) [mb L μ, sb L.n (μ.n.lay (μ.osz μ.y t) (μ.y.wd t)), sb L.y μ.y] mixed (by kernel_rfl) ?_)))))
      refine dp_v rfl (v_move rfl) (dp_v rfl (v_nilCheck rfl) (dp_v rfl (v_fieldAddr rfl fa100_2 rfl) (dr_v rfl (v_ld rfl ld95) ?_)))
      refine dp_v rfl (v_nilCheck rfl) (dp_v rfl (v_fieldAddr rfl fa117_0 rfl) (dp_v rfl (v_fieldAddr rfl fa115_0 rfl) (dr_v rfl (v_ld rfl ld34) ?_)))
      refine dp_v rfl (v_move rfl) (dp_v rfl (v_move rfl) (dp_v rfl (v_nilCheck rfl) (dp_v rfl (v_fieldAddr rfl fa100_2 rfl) (dr_v rfl (v_ld rfl ld95) ?_))))
      refine dp_v rfl (v_nilCheck rfl) (dp_v rfl (v_fieldAddr rfl fa117_0 rfl) (dp_v rfl (v_fieldAddr rfl fa115_1 rfl) (dr_v rfl (v_ld rfl ld3) ?_)))
      refine dp_v rfl (v_sub rfl rfl (by unfold I64 at *; omega)) (dr_v rfl (v_slice_lo (lo := μ.n.us) rfl rfl sl34 (by omega) (by omega) (by omega)) (dp_v rfl (v_move rfl) (dp_v rfl (v_nilCheck rfl) (dp_v rfl (v_fieldAddr rfl fa117_0 rfl) (dp_v rfl (v_fieldAddr rfl fa115_0 rfl) (dr_v rfl (v_ld rfl ld34) ?_))))))
      refine dp_v rfl (v_move rfl) (dp_v rfl (v_move rfl) (dp_v rfl (v_nilCheck rfl) (dp_v rfl (v_fieldAddr rfl fa117_0 rfl) (dp_v rfl (v_fieldAddr rfl fa115_1 rfl) (dr_v rfl (v_ld rfl ld3) ?_)))))
      refine dp_v rfl (v_sub rfl rfl (by unfold I64 at *; omega)) (dp_v rfl (v_move rfl) (dp_v rfl (v_move rfl) (dp_v rfl (v_nilCheck rfl) (dp_v rfl (v_fieldAddr rfl fa117_0 rfl) (dp_v rfl (v_fieldAddr rfl fa115_1 rfl) (dr_v rfl (v_ld rfl ld3) ?_))))))
      refine dp_v rfl (v_sub rfl rfl (by unfold I64 at *; omega)) (dp_v rfl (v_move rfl) (dp_v rfl (v_add rfl rfl (by unfold I64 at *; omega)) (dr_v rfl (v_slice (lo := (t - μ.y.fr).toNat) (hi := (t - μ.y.fr).toNat + μ.osz μ.y t) rfl rfl rfl sl34 (by omega) (by omega) (by omega) (by omega) (by omega)) (dr_eff rfl (st_copy (vs := ints (μ.y.obj t (μ.osz μ.y t))) rfl rfl sl34 (by repeat (first | exact Sel.here | apply Sel.there)) (by rw [ints_length, hob]; show _ = min _ _; omega) (fun j u hu => by repeat (first | exact at_here (src_rd hu) | apply at_there)) ints_one (by rw [List.length_append, ints_length, ints_length, hob, hwl]; omega) (ltn rfl) (dr_nx ?_))))))
      refine dr_nil (nx_kp [0, 1, 2, 6, 7, 9] rfl (nx_then (cd_seq (cd_region (st_v (v_move rfl) (st_v (v_nilCheck rfl) (st_v (v_fieldAddr rfl fa100_7 rfl) (st_v (v_ld rfl ld97) ?_))))))))
      refine st_v (v_move rfl) (st_v (v_move rfl) (st_mapUpdate rfl rfl rfl mp97 (by repeat (first | exact Sel.here | apply Sel.there)) ?_))
      refine st_nil (nx_kp [0, 1, 2, 7, 9] rfl (nx_then (cd_seq (cd_region (st_v (v_move rfl) (st_v (v_move rfl) (st_v (v_nilCheck rfl) (st_v (v_fieldAddr rfl fa100_3 rfl) (st_v (v_ld rfl ld95) ?_)))))))))
      refine st_v (v_eql_ptr_other rfl rfl pt95 hj1 hj2 (by repeat (first | exact Sel.here | apply Sel.there)) (by repeat (first | exact Sel.here | apply Sel.there))) ?_
      refine st_nil (nx_kp [0, 2, 7, 9, 98] rfl (nx_then (cd_false rfl ?_)))
      refine cd_skip (xt_then (cd_region (st_v (v_move rfl) (st_v (v_move rfl) (st_v (v_nilCheck rfl) (st_sto rfl rfl sz3 ?_))))))
      refine st_nil (nx_kp [] rfl (nx_xt ?_))
      have e1 : wb L.n (μ.n.move (μ.y.obj t (μ.osz μ.y t))) = pt L.n.wb (cl (splice (ints (μ.n.lay (μ.osz μ.y t) (μ.y.wd t)).ws ++ L.n.wj) μ.n.us (ints (μ.y.obj t (μ.osz μ.y t)))) 3) := by
        rw [splice_spl _ _ _ _ (by rw [hob, hwl]; omega)]
        simp only [Sp.lay, Sp.move]
        rw [spl_lay _ _ _ _ _ hob (by omega) (by omega)]
      have e2 : sb L.n (μ.n.move (μ.y.obj t (μ.osz μ.y t))) = sb L.n (μ.n.lay (μ.osz μ.y t) (μ.y.wd t)) := by
        have hml : (μ.n.move (μ.y.obj t (μ.osz μ.y t))).ws.length = μ.n.ws.length := by simp only [Sp.move]; rw [spl_length _ _ _ (by rw [hob]; omega)]
        unfold sb
        rw [hml, hwl]
        simp only [Sp.move, Sp.lay, hob, List.length_set]
      refine xt_end rfl ⟨rfl, rfl⟩ ?_
      show Ck.Sub ([mb L { μ with le := μ.le }, sb L.y μ.y, wb L.y μ.y, tb L.y μ.y, sb L.n (μ.n.move (μ.y.obj t (μ.osz μ.y t))), wb L.n (μ.n.move (μ.y.obj t (μ.osz μ.y t))), tb L.n (μ.n.move (μ.y.obj t (μ.osz μ.y t))), mpr L.mvb (mvv (mu μ.mv t μ.n.next)), S, sb L.o μ.o, pt b (cl (ls.set off (.int .i64 μ.n.next)) T)] ++ hr) _
      rw [e1, e2, ← mupd_mvv]
      exact (by repeat (first | exact Sub.refl _ | exact Sub.nil _ | refine Sub.sel (by repeat (first | exact Sel.here | apply Sel.there)) ?_ | apply Sub.cons))
def fwSHO (L : MemL) (μ : Mem) (S : Res) : SH := [mb L μ, sb L.o μ.o, wb L.o μ.o, tb L.o μ.o, sb L.n μ.n, wb L.n μ.n, tb L.n μ.n, mpr L.mvb (mvv μ.mv), S]
set_option maxRecDepth 100000 in
theorem fwdO_ct {L : MemL} {μ : Mem} {S : Res} {t : Int} {b off : Nat} {ls : List Value} {T : TypeId} (hls : ls[off]? = some (.int .i64 t)) (of : μ.o.Ok) (on : μ.n.Ok) (hS : Shp S L.vs μ.sh) (hl : ShOk μ.sh) (pf : SpOk μ.sh μ.o)
    (hle : 0 ≤ μ.le ∧ μ.le ≤ 1000000) (hroom : μ.o.begins t = true → ml μ.mv t = none → μ.n.us + μ.osz μ.o t ≤ μ.n.ws.length) :
    Ct Try.prog 81 #[.pointer (some ⟨L.mb, 0, none⟩), .pointer (some ⟨L.o.sb, 0, none⟩), .pointer (some ⟨b, off, none⟩)] (fwSHO L μ S ++ [pt b (cl ls T)])
      fun v h' => v = .tuple #[] ∧ h' = fwSHO L (μ.fwd μ.o true t).2 S ++ [pt b (cl (ls.set off (.int .i64 (μ.fwd μ.o true t).1)) T)] := by
  have h1f := of.us; have h2f := of.fr; have h3f := of.ws; have h1n := on.us; have h2n := on.fr; have h3n := on.ws
  obtain ⟨j117, hj1, hj2⟩ := info_of i117
  have hlo : off < ls.length := (List.getElem?_eq_some_iff.1 hls).1
  have hrw : Rd (pt b (cl ls T)) ⟨b, off, none⟩ (.int .i64 t) := rd_cl hls
  unfold fwSHO Mem.fwd
  simp only [List.cons_append, List.nil_append]
  refine ct_of (n := 110) Try.func81 rfl rfl (len rfl) fun hr w0 => ?_
  refine cd_seq (cd_region (st_v (v_move rfl) (st_v (v_nilCheck rfl) (st_v (v_ld rfl ld3) ?_))))
  refine st_v (v_assign rfl) (st_nil (nx_kp [0, 1, 2, 6] rfl (nx_then (cd_seq (cd_seq (cd_region (st_v (v_move rfl) (st_v (v_move rfl) (st_clr rfl rfl en72 rfl (begins_ct (l := L.o) (s := μ.o) of) ?_)))))))))
  refine st_v (v_not rfl) (st_nil (nx_kp [0, 1, 2, 6, 16] rfl (nx_then ?_)))
  cases hb : μ.o.begins t
  · skip
    refine cd_true rfl ?_
    refine cd_ret (xt_ret_then ?_)
    have hset : ls.set off (.int .i64 t) = ls := by
      apply List.ext_getElem?; intro k
      by_cases hk : off = k
      · subst hk; rw [List.getElem?_set_self hlo, hls]
      · simp [List.getElem?_set, hk]
    rw [if_neg (by simp), hset]
    exact xt_rt rfl ⟨rfl, rfl⟩
  · skip
    have hbd := begins_bd hb
    obtain ⟨hk0, hk1, hfit⟩ := pf t hb
    refine cd_false rfl ?_
    refine cd_skip (xt_then (cd_seq (cd_region (st_v (v_move rfl) (st_v (v_nilCheck rfl) (st_v (v_fieldAddr rfl fa100_7 rfl) (st_v (v_ld rfl ld97) ?_)))))))
    refine st_v (v_move rfl) (st_v (v_lookup_ok rfl rfl mp97 inf3 (by repeat (first | exact Sel.here | apply Sel.there))) ?_)
    refine st_v (v_move rfl) (st_v (v_extract rfl rfl) (st_v (v_extract rfl rfl) (st_v (v_assign rfl) (st_v (v_assign rfl) (st_nil (nx_kp [0, 1, 2, 6, 7, 8] rfl (nx_then (cd_seq (cd_seq (cd_region (st_v (v_move rfl) (st_v (v_not rfl) (st_nil (nx_kp [0, 1, 2, 6, 7, 27] rfl (nx_then ?_)))))))))))))))
    rw [mlook_mvv, if_pos rfl]
    cases hm : ml μ.mv t with
    | some to =>
      refine cd_false rfl ?_
      refine cd_skip (xt_then (cd_region (st_v (v_move rfl) (st_v (v_move rfl) (st_v (v_nilCheck rfl) (st_sto rfl rfl sz3 ?_))))))
      refine st_nil (nx_kp [] rfl (nx_xt ?_))
      exact xt_en rfl ⟨rfl, rfl⟩
    | none =>
      have hrm := hroom hb hm
      have hsz := hl.at (μ.o.wd t)
      have hrd : Rd (wb L.o μ.o) ⟨L.o.wb, (t - μ.o.fr).toNat, none⟩ (.int .i64 (μ.o.wd t)) := rd_ints (by omega)
      have hosz : μ.osz μ.o t = 1 + (shAt μ.sh (μ.o.wd t)).length := rfl
      have hob : (μ.o.obj t (μ.osz μ.o t)).length = μ.osz μ.o t := obj_length (by omega)
      have hwl : (μ.n.lay (μ.osz μ.o t) (μ.o.wd t)).ws.length = μ.n.ws.length := by simp [Sp.lay, spl_length μ.n.ws μ.n.us (List.replicate (μ.osz μ.o t) 0) (by simp; omega)]
      have hnx : μ.n.next = (μ.n.fr : Int) + μ.n.us := rfl
      have hfx : (μ.n.lay (μ.osz μ.o t) (μ.o.wd t)).fr = μ.n.fr := rfl
      refine cd_true rfl ?_
      refine cd_seq (cd_region (st_v (v_move rfl) (st_v (v_move rfl) (st_v (v_move rfl) (st_clr rfl rfl en112 rfl (size_ct (L := L) (μ := μ) (S := S) (l := L.o) (s := μ.o) of hbd.1 (by omega) hS hl hk0 hk1) ?_)))))
      refine st_v (v_assign rfl) (st_nil (nx_kp [0, 1, 2, 6, 7, 9] rfl (nx_then (cd_seq (cd_draw (ork [(0, 2), (1, 2), (2, 2), (3, 1), (4, 2), (5, 2), (6, 2), (7, 2), (8, 2), (9, 1), (10, 2), (11, 1), (12, 0), (13, 2)] .nil) (fun i => !(Nat.beq i 12)) [mb L μ, sb L.o μ.o, wb L.o μ.o] mixed (by kernel_rfl) ?_)))))
      refine dp_v rfl (v_move rfl) (dp_v rfl (v_nilCheck rfl) (dp_v rfl (v_fieldAddr rfl fa100_2 rfl) (dr_v rfl (v_ld rfl ld95) ?_)))
      refine dp_v rfl (v_move rfl) (dp_v rfl (v_move rfl) (dp_v rfl (v_nilCheck rfl) (dp_v rfl (v_fieldAddr rfl fa117_0 rfl) (dp_v rfl (v_move rfl) (dr_clr rfl rfl rfl en61 rfl (word_ct (l := L.o) (s := μ.o) of hbd.1 (by omega)) ?_)))))
      refine dp_v rfl (v_nilCheck rfl) (dr_v rfl (v_ld rfl ld3) ?_)
      refine dr_eff rfl (st_cl rfl rfl en84 rfl (lay_ct' (l := L.n) (s := μ.n) (n := μ.osz μ.o t) (sh := μ.o.wd t) (by rw [hosz]; omega) on (by omega) (by omega)) ?_)
      rintro v h' ⟨rfl, rfl⟩
      simp only [List.cons_append, List.nil_append]
      refine dr_nx ?_
      refine dp_v rfl (v_assign rfl) (dr_nil (nx_kp [0, 1, 2, 6, 7, 9] rfl (nx_then (cd_seq (cd_draw (ork [(0, 2), (1, 2), (2, 2), (3, 1), (4, 2), (5, 2), (6, 2), (7, 1), (8, 2), (9, 2), (10, 2), (11, 2), (12, 1), (13, 2), (14, 2), (15, 2), (16, 1), (17, 2), (18, 1), (19, 2), (20, 2), (21, 2), (22, 2), (23, 1), (24, 2), (25, 2), (26, 2), (27, 2), (28, 2), (29, 1), (30, 2), (31, 2), (32, 2), (33, 2), (34, 2), (35, 2), (36, 1), (37, 2), (38, 2), (39, 2), (40, 1), (41, 0)] .nil) (fun i => !(Nat.beq i 41)) [mb L μ, sb L.n (μ.n.lay (μ.osz μ.o t) (μ.o.wd t)), sb L.o μ.o] mixed (by kernel_rfl) ?_)))))
      refine dp_v rfl (v_move rfl) (dp_v rfl (v_nilCheck rfl) (dp_v rfl (v_fieldAddr rfl fa100_2 rfl) (dr_v rfl (v_ld rfl ld95) ?_)))
      refine dp_v rfl (v_nilCheck rfl) (dp_v rfl (v_fieldAddr rfl fa117_0 rfl) (dp_v rfl (v_fieldAddr rfl fa115_0 rfl) (dr_v rfl (v_ld rfl ld34) ?_)))
      refine dp_v rfl (v_move rfl) (dp_v rfl (v_move rfl) (dp_v rfl (v_nilCheck rfl) (dp_v rfl (v_fieldAddr rfl fa100_2 rfl) (dr_v rfl (v_ld rfl ld95) ?_))))
      refine dp_v rfl (v_nilCheck rfl) (dp_v rfl (v_fieldAddr rfl fa117_0 rfl) (dp_v rfl (v_fieldAddr rfl fa115_1 rfl) (dr_v rfl (v_ld rfl ld3) ?_)))
      refine dp_v rfl (v_sub rfl rfl (by unfold I64 at *; omega)) (dr_v rfl (v_slice_lo (lo := μ.n.us) rfl rfl sl34 (by omega) (by omega) (by omega)) (dp_v rfl (v_move rfl) (dp_v rfl (v_nilCheck rfl) (dp_v rfl (v_fieldAddr rfl fa117_0 rfl) (dp_v rfl (v_fieldAddr rfl fa115_0 rfl) (dr_v rfl (v_ld rfl ld34) ?_))))))
      refine dp_v rfl (v_move rfl) (dp_v rfl (v_move rfl) (dp_v rfl (v_nilCheck rfl) (dp_v rfl (v_fieldAddr rfl fa117_0 rfl) (dp_v rfl (v_fieldAddr rfl fa115_1 rfl) (dr_v rfl (v_ld rfl ld3) ?_)))))
      refine dp_v rfl (v_sub rfl rfl (by unfold I64 at *; omega)) (dp_v rfl (v_move rfl) (dp_v rfl (v_move rfl) (dp_v rfl (v_nilCheck rfl) (dp_v rfl (v_fieldAddr rfl fa117_0 rfl) (dp_v rfl (v_fieldAddr rfl fa115_1 rfl) (dr_v rfl (v_ld rfl ld3) ?_))))))
      refine dp_v rfl (v_sub rfl rfl (by unfold I64 at *; omega)) (dp_v rfl (v_move rfl) (dp_v rfl (v_add rfl rfl (by unfold I64 at *; omega)) (dr_v rfl (v_slice (lo := (t - μ.o.fr).toNat) (hi := (t - μ.o.fr).toNat + μ.osz μ.o t) rfl rfl rfl sl34 (by omega) (by omega) (by omega) (by omega) (by omega)) (dr_eff rfl (st_copy (vs := ints (μ.o.obj t (μ.osz μ.o t))) rfl rfl sl34 (by repeat (first | exact Sel.here | apply Sel.there)) (by rw [ints_length, hob]; show _ = min _ _; omega) (fun j u hu => by repeat (first | exact at_here (src_rd hu) | apply at_there)) ints_one (by rw [List.length_append, ints_length, ints_length, hob, hwl]; omega) (ltn rfl) (dr_nx ?_))))))
      refine dr_nil (nx_kp [0, 1, 2, 6, 7, 9] rfl (nx_then (cd_seq (cd_region (st_v (v_move rfl) (st_v (v_nilCheck rfl) (st_v (v_fieldAddr rfl fa100_7 rfl) (st_v (v_ld rfl ld97) ?_))))))))
      refine st_v (v_move rfl) (st_v (v_move rfl) (st_mapUpdate rfl rfl rfl mp97 (by repeat (first | exact Sel.here | apply Sel.there)) ?_))
      refine st_nil (nx_kp [0, 1, 2, 7, 9] rfl (nx_then (cd_seq (cd_region (st_v (v_move rfl) (st_v (v_move rfl) (st_v (v_nilCheck rfl) (st_v (v_fieldAddr rfl fa100_3 rfl) (st_v (v_ld rfl ld95) ?_)))))))))
      refine st_v (v_eql_ptr_same rfl rfl pt95 hj1) (st_nil (nx_kp [0, 2, 7, 9, 98] rfl (nx_then (cd_true rfl ?_))))
      refine cd_region (st_v (v_move rfl) (st_v (v_nilCheck rfl) (st_v (v_fieldAddr rfl fa100_8 rfl) (st_v (v_ld rfl ld3) ?_))))
      refine st_v (v_move rfl) (st_v (v_sub rfl rfl (by unfold I64 at *; omega)) (st_v (v_nilCheck rfl) (st_v (v_fieldAddr rfl fa100_8 rfl) (st_sto rfl rfl sz3 ?_))))
      refine st_nil (nx_kp [2, 7] rfl (nx_then (cd_region (st_v (v_move rfl) (st_v (v_move rfl) (st_v (v_nilCheck rfl) (st_sto rfl rfl sz3 ?_)))))))
      refine st_nil (nx_kp [] rfl (nx_xt ?_))
      have e1 : wb L.n (μ.n.move (μ.o.obj t (μ.osz μ.o t))) = pt L.n.wb (cl (splice (ints (μ.n.lay (μ.osz μ.o t) (μ.o.wd t)).ws ++ L.n.wj) μ.n.us (ints (μ.o.obj t (μ.osz μ.o t)))) 3) := by
        rw [splice_spl _ _ _ _ (by rw [hob, hwl]; omega)]
        simp only [Sp.lay, Sp.move]
        rw [spl_lay _ _ _ _ _ hob (by omega) (by omega)]
      have e2 : sb L.n (μ.n.move (μ.o.obj t (μ.osz μ.o t))) = sb L.n (μ.n.lay (μ.osz μ.o t) (μ.o.wd t)) := by
        have hml : (μ.n.move (μ.o.obj t (μ.osz μ.o t))).ws.length = μ.n.ws.length := by simp only [Sp.move]; rw [spl_length _ _ _ (by rw [hob]; omega)]
        unfold sb
        rw [hml, hwl]
        simp only [Sp.move, Sp.lay, hob, List.length_set]
      refine xt_end rfl ⟨rfl, rfl⟩ ?_
      show Ck.Sub ([mb L { μ with le := μ.le - μ.osz μ.o t }, sb L.o μ.o, wb L.o μ.o, tb L.o μ.o, sb L.n (μ.n.move (μ.o.obj t (μ.osz μ.o t))), wb L.n (μ.n.move (μ.o.obj t (μ.osz μ.o t))), tb L.n (μ.n.move (μ.o.obj t (μ.osz μ.o t))), mpr L.mvb (mvv (mu μ.mv t μ.n.next)), S, pt b (cl (ls.set off (.int .i64 μ.n.next)) T)] ++ hr) _
      rw [e1, e2, ← mupd_mvv]
      exact (by repeat (first | exact Sub.refl _ | exact Sub.nil _ | refine Sub.sel (by repeat (first | exact Sel.here | apply Sel.there)) ?_ | apply Sub.cons))
end Go.Proofs.Ytmhmpjgkkpbnnaa
namespace Go.Proofs.Ytmhmpjgkkpbnnaa
open Go.Ck Fx Go.Hm
attribute [local irreducible] St Cd Xt Nx DrL LsW

theorem setw_same {s : Sp} {k : Nat} {t : Int} (h : s.ws.getD k 0 = t) (hk : k < s.ws.length) : s.setw k t = s := by
  have : s.ws.set k t = s.ws := by
    rw [← h, getD_lt hk]; exact List.set_getElem_self hk
  unfold Sp.setw; rw [this]
theorem wb_setw {l : SpL} {s : Sp} {k : Nat} {v : Int} (h : k < s.ws.length) : wb l (s.setw k v) = pt l.wb (cl ((ints s.ws ++ l.wj).set k (.int .i64 v)) 3) := by
  rw [set_ints h]; rfl
theorem sb_setw {l : SpL} {s : Sp} {k : Nat} {v : Int} : sb l (s.setw k v) = sb l s := by
  unfold sb Sp.setw; simp only [List.length_set]
set_option maxRecDepth 100000 in
theorem fwdYn_ct {L : MemL} {μ : Mem} {S : Res} {t : Int} {off : Nat} (hlo : off < μ.n.ws.length) (ht : μ.n.ws.getD off 0 = t) (of : μ.y.Ok) (on : μ.n.Ok) (hS : Shp S L.vs μ.sh) (hl : ShOk μ.sh) (pf : SpOk μ.sh μ.y)
    (hle : 0 ≤ μ.le ∧ μ.le ≤ 1000000) (hroom : μ.y.begins t = true → ml μ.mv t = none → μ.n.us + μ.osz μ.y t ≤ μ.n.ws.length) :
    Ct Try.prog 81 #[.pointer (some ⟨L.mb, 0, none⟩), .pointer (some ⟨L.y.sb, 0, none⟩), .pointer (some ⟨L.n.wb, off, none⟩)] (fwSHY L μ S)
      fun v h' => v = .tuple #[] ∧ h' = fwSHY L { (μ.fwd μ.y false t).2 with n := (μ.fwd μ.y false t).2.n.setw off (μ.fwd μ.y false t).1 } S := by
  have h1f := of.us; have h2f := of.fr; have h3f := of.ws; have h1n := on.us; have h2n := on.fr; have h3n := on.ws
  obtain ⟨j117, hj1, hj2⟩ := info_of i117
  have hrw : Rd (wb L.n μ.n) ⟨L.n.wb, off, none⟩ (.int .i64 t) := ht ▸ rd_ints hlo
  unfold fwSHY Mem.fwd
  simp only [List.cons_append, List.nil_append]
  refine ct_of (n := 110) Try.func81 rfl rfl (len rfl) fun hr w0 => ?_
  refine cd_seq (cd_region (st_v (v_move rfl) (st_v (v_nilCheck rfl) (st_v (v_ld rfl ld3) ?_))))
  refine st_v (v_assign rfl) (st_nil (nx_kp [0, 1, 2, 6] rfl (nx_then (cd_seq (cd_seq (cd_region (st_v (v_move rfl) (st_v (v_move rfl) (st_clr rfl rfl en72 rfl (begins_ct (l := L.y) (s := μ.y) of) ?_)))))))))
  refine st_v (v_not rfl) (st_nil (nx_kp [0, 1, 2, 6, 16] rfl (nx_then ?_)))
  cases hb : μ.y.begins t
  · skip
    refine cd_true rfl ?_
    refine cd_ret (xt_ret_then ?_)
    rw [if_neg (by simp)]
    simp only [setw_same ht hlo]
    exact xt_rt rfl ⟨rfl, rfl⟩
  · skip
    have hbd := begins_bd hb
    obtain ⟨hk0, hk1, hfit⟩ := pf t hb
    refine cd_false rfl ?_
    refine cd_skip (xt_then (cd_seq (cd_region (st_v (v_move rfl) (st_v (v_nilCheck rfl) (st_v (v_fieldAddr rfl fa100_7 rfl) (st_v (v_ld rfl ld97) ?_)))))))
    refine st_v (v_move rfl) (st_v (v_lookup_ok rfl rfl mp97 inf3 (by repeat (first | exact Sel.here | apply Sel.there))) ?_)
    refine st_v (v_move rfl) (st_v (v_extract rfl rfl) (st_v (v_extract rfl rfl) (st_v (v_assign rfl) (st_v (v_assign rfl) (st_nil (nx_kp [0, 1, 2, 6, 7, 8] rfl (nx_then (cd_seq (cd_seq (cd_region (st_v (v_move rfl) (st_v (v_not rfl) (st_nil (nx_kp [0, 1, 2, 6, 7, 27] rfl (nx_then ?_)))))))))))))))
    rw [mlook_mvv, if_pos rfl]
    cases hm : ml μ.mv t with
    | some to =>
      refine cd_false rfl ?_
      refine cd_skip (xt_then (cd_region (st_v (v_move rfl) (st_v (v_move rfl) (st_v (v_nilCheck rfl) (st_sto rfl rfl sz3 ?_))))))
      refine st_nil (nx_kp [] rfl (nx_xt (xt_end rfl ⟨rfl, rfl⟩ ?_)))
      show Ck.Sub ([mb L μ, sb L.y μ.y, wb L.y μ.y, tb L.y μ.y, sb L.n (μ.n.setw off to), wb L.n (μ.n.setw off to), tb L.n μ.n, mpr L.mvb (mvv μ.mv), S, sb L.o μ.o] ++ hr) _
      rw [wb_setw hlo, sb_setw]
      exact (by repeat (first | exact Sub.refl _ | exact Sub.nil _ | refine Sub.sel (by repeat (first | exact Sel.here | apply Sel.there)) ?_ | apply Sub.cons))
    | none =>
      have hrm := hroom hb hm
      have hsz := hl.at (μ.y.wd t)
      have hrd : Rd (wb L.y μ.y) ⟨L.y.wb, (t - μ.y.fr).toNat, none⟩ (.int .i64 (μ.y.wd t)) := rd_ints (by omega)
      have hosz : μ.osz μ.y t = 1 + (shAt μ.sh (μ.y.wd t)).length := rfl
      have hob : (μ.y.obj t (μ.osz μ.y t)).length = μ.osz μ.y t := obj_length (by omega)
      have hwl : (μ.n.lay (μ.osz μ.y t) (μ.y.wd t)).ws.length = μ.n.ws.length := by simp [Sp.lay, spl_length μ.n.ws μ.n.us (List.replicate (μ.osz μ.y t) 0) (by simp; omega)]
      have hnx : μ.n.next = (μ.n.fr : Int) + μ.n.us := rfl
      have hfx : (μ.n.lay (μ.osz μ.y t) (μ.y.wd t)).fr = μ.n.fr := rfl
      refine cd_true rfl ?_
      refine cd_seq (cd_region (st_v (v_move rfl) (st_v (v_move rfl) (st_v (v_move rfl) (st_clr rfl rfl en112 rfl (size_ct (L := L) (μ := μ) (S := S) (l := L.y) (s := μ.y) of hbd.1 (by omega) hS hl hk0 hk1) ?_)))))
      refine st_v (v_assign rfl) (st_nil (nx_kp [0, 1, 2, 6, 7, 9] rfl (nx_then (cd_seq (cd_draw (ork [(0, 2), (1, 2), (2, 2), (3, 1), (4, 2), (5, 2), (6, 2), (7, 2), (8, 2), (9, 1), (10, 2), (11, 1), (12, 0), (13, 2)] .nil) (fun i => !(Nat.beq i 12)) [mb L μ, sb L.y μ.y, wb L.y μ.y] mixed (by kernel_rfl) ?_)))))
      refine dp_v rfl (v_move rfl) (dp_v rfl (v_nilCheck rfl) (dp_v rfl (v_fieldAddr rfl fa100_2 rfl) (dr_v rfl (v_ld rfl ld95) ?_)))
      refine dp_v rfl (v_move rfl) (dp_v rfl (v_move rfl) (dp_v rfl (v_nilCheck rfl) (dp_v rfl (v_fieldAddr rfl fa117_0 rfl) (dp_v rfl (v_move rfl) (dr_clr rfl rfl rfl en61 rfl (word_ct (l := L.y) (s := μ.y) of hbd.1 (by omega)) ?_)))))
      refine dp_v rfl (v_nilCheck rfl) (dr_v rfl (v_ld rfl ld3) ?_)
      refine dr_eff rfl (st_cl rfl rfl en84 rfl (lay_ct' (l := L.n) (s := μ.n) (n := μ.osz μ.y t) (sh := μ.y.wd t) (by rw [hosz]; omega) on (by omega) (by omega)) ?_)
      rintro v h' ⟨rfl, rfl⟩
      simp only [List.cons_append, List.nil_append]
      refine dr_nx ?_
      refine dp_v rfl (v_assign rfl) (dr_nil (nx_kp [0, 1, 2, 6, 7, 9] rfl (nx_then (cd_seq (cd_draw (ork [(0, 2), (1, 2), (2, 2), (3, 1), (4, 2), (5, 2), (6, 2), (7, 1), (8, 2), (9, 2), (10, 2), (11, 2), (12, 1), (13, 2), (14, 2), (15, 2), (16, 1), (17, 2), (18, 1), (19, 2), (20, 2), (21, 2), (22, 2), (23, 1), (24, 2), (25, 2), (26, 2), (27, 2), (28, 2), (29, 1), (30, 2), (31, 2), (32, 2), (33, 2), (34, 2), (35, 2), (36, 1), (37, 2), (38, 2), (39, 2), (40, 1), (41, 0)] .nil) (fun i => !(Nat.beq i 41)) [mb L μ, sb L.n (μ.n.lay (μ.osz μ.y t) (μ.y.wd t)), sb L.y μ.y] mixed (by kernel_rfl) ?_)))))
      refine dp_v rfl (v_move rfl) (dp_v rfl (v_nilCheck rfl) (dp_v rfl (v_fieldAddr rfl fa100_2 rfl) (dr_v rfl (v_ld rfl ld95) ?_)))
      refine dp_v rfl (v_nilCheck rfl) (dp_v rfl (v_fieldAddr rfl fa117_0 rfl) (dp_v rfl (v_fieldAddr rfl fa115_0 rfl) (dr_v rfl (v_ld rfl ld34) ?_)))
      refine dp_v rfl (v_move rfl) (dp_v rfl (v_move rfl) (dp_v rfl (v_nilCheck rfl) (dp_v rfl (v_fieldAddr rfl fa100_2 rfl) (dr_v rfl (v_ld rfl ld95) ?_))))
      refine dp_v rfl (v_nilCheck rfl) (dp_v rfl (v_fieldAddr rfl fa117_0 rfl) (dp_v rfl (v_fieldAddr rfl fa115_1 rfl) (dr_v rfl (v_ld rfl ld3) ?_)))
      refine dp_v rfl (v_sub rfl rfl (by unfold I64 at *; omega)) ?_
      have e1 : wb L.n (μ.n.move (μ.y.obj t (μ.osz μ.y t))) = pt L.n.wb (cl (splice (ints (μ.n.lay (μ.osz μ.y t) (μ.y.wd t)).ws ++ L.n.wj) μ.n.us (ints (μ.y.obj t (μ.osz μ.y t)))) 3) := by
        rw [splice_spl _ _ _ _ (by rw [hob, hwl]; omega)]
        simp only [Sp.lay, Sp.move]
        rw [spl_lay _ _ _ _ _ hob (by omega) (by omega)]
      have e2 : sb L.n (μ.n.move (μ.y.obj t (μ.osz μ.y t))) = sb L.n (μ.n.lay (μ.osz μ.y t) (μ.y.wd t)) := by
        have hml : (μ.n.move (μ.y.obj t (μ.osz μ.y t))).ws.length = μ.n.ws.length := by simp only [Sp.move]; rw [spl_length _ _ _ (by rw [hob]; omega)]
        unfold sb
        rw [hml, hwl]
        simp only [Sp.move, Sp.lay, hob, List.length_set]
      have hml : (μ.n.move (μ.y.obj t (μ.osz μ.y t))).ws.length = μ.n.ws.length := by simp only [Sp.move]; rw [spl_length _ _ _ (by rw [hob]; omega)]
      refine dr_v rfl (v_slice_lo (lo := μ.n.us) rfl rfl sl34 (by omega) (by omega) (by omega)) (dp_v rfl (v_move rfl) (dp_v rfl (v_nilCheck rfl) (dp_v rfl (v_fieldAddr rfl fa117_0 rfl) (dp_v rfl (v_fieldAddr rfl fa115_0 rfl) (dr_v rfl (v_ld rfl ld34) ?_)))))
      refine dp_v rfl (v_move rfl) (dp_v rfl (v_move rfl) (dp_v rfl (v_nilCheck rfl) (dp_v rfl (v_fieldAddr rfl fa117_0 rfl) (dp_v rfl (v_fieldAddr rfl fa115_1 rfl) (dr_v rfl (v_ld rfl ld3) ?_)))))
      refine dp_v rfl (v_sub rfl rfl (by unfold I64 at *; omega)) (dp_v rfl (v_move rfl) (dp_v rfl (v_move rfl) (dp_v rfl (v_nilCheck rfl) (dp_v rfl (v_fieldAddr rfl fa117_0 rfl) (dp_v rfl (v_fieldAddr rfl fa115_1 rfl) (dr_v rfl (v_ld rfl ld3) ?_))))))
      refine dp_v rfl (v_sub rfl rfl (by unfold I64 at *; omega)) (dp_v rfl (v_move rfl) (dp_v rfl (v_add rfl rfl (by unfold I64 at *; omega)) (dr_v rfl (v_slice (lo := (t - μ.y.fr).toNat) (hi := (t - μ.y.fr).toNat + μ.osz μ.y t) rfl rfl rfl sl34 (by omega) (by omega) (by omega) (by omega) (by omega)) (dr_eff rfl (st_copy (vs := ints (μ.y.obj t (μ.osz μ.y t))) rfl rfl sl34 (by repeat (first | exact Sel.here | apply Sel.there)) (by rw [ints_length, hob]; show _ = min _ _; omega) (fun j u hu => by repeat (first | exact at_here (src_rd hu) | apply at_there)) ints_one (by rw [List.length_append, ints_length, ints_length, hob, hwl]; omega) (ltn rfl) (dr_nx ?_))))))
      rw [← e1]
      refine dr_nil (nx_kp [0, 1, 2, 6, 7, 9] rfl (nx_then (cd_seq (cd_region (st_v (v_move rfl) (st_v (v_nilCheck rfl) (st_v (v_fieldAddr rfl fa100_7 rfl) (st_v (v_ld rfl ld97) ?_))))))))
      refine st_v (v_move rfl) (st_v (v_move rfl) (st_mapUpdate rfl rfl rfl mp97 (by repeat (first | exact Sel.here | apply Sel.there)) ?_))
      refine st_nil (nx_kp [0, 1, 2, 7, 9] rfl (nx_then (cd_seq (cd_region (st_v (v_move rfl) (st_v (v_move rfl) (st_v (v_nilCheck rfl) (st_v (v_fieldAddr rfl fa100_3 rfl) (st_v (v_ld rfl ld95) ?_)))))))))
      refine st_v (v_eql_ptr_other rfl rfl pt95 hj1 hj2 (by repeat (first | exact Sel.here | apply Sel.there)) (by repeat (first | exact Sel.here | apply Sel.there))) ?_
      refine st_nil (nx_kp [0, 2, 7, 9, 98] rfl (nx_then (cd_false rfl ?_)))
      refine cd_skip (xt_then (cd_region (st_v (v_move rfl) (st_v (v_move rfl) (st_v (v_nilCheck rfl) (st_sto rfl rfl sz3 ?_))))))
      refine st_nil (nx_kp [] rfl (nx_xt (xt_end rfl ⟨rfl, rfl⟩ ?_)))
      show Ck.Sub ([mb L { μ with le := μ.le }, sb L.y μ.y, wb L.y μ.y, tb L.y μ.y, sb L.n ((μ.n.move (μ.y.obj t (μ.osz μ.y t))).setw off μ.n.next), wb L.n ((μ.n.move (μ.y.obj t (μ.osz μ.y t))).setw off μ.n.next), tb L.n (μ.n.move (μ.y.obj t (μ.osz μ.y t))), mpr L.mvb (mvv (mu μ.mv t μ.n.next)), S, sb L.o μ.o] ++ hr) _
      rw [wb_setw (by omega), sb_setw, e2, ← mupd_mvv]
      exact (by repeat (first | exact Sub.refl _ | exact Sub.nil _ | refine Sub.sel (by repeat (first | exact Sel.here | apply Sel.there)) ?_ | apply Sub.cons))
set_option maxRecDepth 100000 in
theorem fwdOn_ct {L : MemL} {μ : Mem} {S : Res} {t : Int} {off : Nat} (hlo : off < μ.n.ws.length) (ht : μ.n.ws.getD off 0 = t) (of : μ.o.Ok) (on : μ.n.Ok) (hS : Shp S L.vs μ.sh) (hl : ShOk μ.sh) (pf : SpOk μ.sh μ.o)
    (hle : 0 ≤ μ.le ∧ μ.le ≤ 1000000) (hroom : μ.o.begins t = true → ml μ.mv t = none → μ.n.us + μ.osz μ.o t ≤ μ.n.ws.length) :
    Ct Try.prog 81 #[.pointer (some ⟨L.mb, 0, none⟩), .pointer (some ⟨L.o.sb, 0, none⟩), .pointer (some ⟨L.n.wb, off, none⟩)] (fwSHO L μ S)
      fun v h' => v = .tuple #[] ∧ h' = fwSHO L { (μ.fwd μ.o true t).2 with n := (μ.fwd μ.o true t).2.n.setw off (μ.fwd μ.o true t).1 } S := by
  have h1f := of.us; have h2f := of.fr; have h3f := of.ws; have h1n := on.us; have h2n := on.fr; have h3n := on.ws
  obtain ⟨j117, hj1, hj2⟩ := info_of i117
  have hrw : Rd (wb L.n μ.n) ⟨L.n.wb, off, none⟩ (.int .i64 t) := ht ▸ rd_ints hlo
  unfold fwSHO Mem.fwd
  simp only [List.cons_append, List.nil_append]
  refine ct_of (n := 110) Try.func81 rfl rfl (len rfl) fun hr w0 => ?_
  refine cd_seq (cd_region (st_v (v_move rfl) (st_v (v_nilCheck rfl) (st_v (v_ld rfl ld3) ?_))))
  refine st_v (v_assign rfl) (st_nil (nx_kp [0, 1, 2, 6] rfl (nx_then (cd_seq (cd_seq (cd_region (st_v (v_move rfl) (st_v (v_move rfl) (st_clr rfl rfl en72 rfl (begins_ct (l := L.o) (s := μ.o) of) ?_)))))))))
  refine st_v (v_not rfl) (st_nil (nx_kp [0, 1, 2, 6, 16] rfl (nx_then ?_)))
  cases hb : μ.o.begins t
  · skip
    refine cd_true rfl ?_
    refine cd_ret (xt_ret_then ?_)
    rw [if_neg (by simp)]
    simp only [setw_same ht hlo]
    exact xt_rt rfl ⟨rfl, rfl⟩
  · skip
    have hbd := begins_bd hb
    obtain ⟨hk0, hk1, hfit⟩ := pf t hb
    refine cd_false rfl ?_
    refine cd_skip (xt_then (cd_seq (cd_region (st_v (v_move rfl) (st_v (v_nilCheck rfl) (st_v (v_fieldAddr rfl fa100_7 rfl) (st_v (v_ld rfl ld97) ?_)))))))
    refine st_v (v_move rfl) (st_v (v_lookup_ok rfl rfl mp97 inf3 (by repeat (first | exact Sel.here | apply Sel.there))) ?_)
    refine st_v (v_move rfl) (st_v (v_extract rfl rfl) (st_v (v_extract rfl rfl) (st_v (v_assign rfl) (st_v (v_assign rfl) (st_nil (nx_kp [0, 1, 2, 6, 7, 8] rfl (nx_then (cd_seq (cd_seq (cd_region (st_v (v_move rfl) (st_v (v_not rfl) (st_nil (nx_kp [0, 1, 2, 6, 7, 27] rfl (nx_then ?_)))))))))))))))
    rw [mlook_mvv, if_pos rfl]
    cases hm : ml μ.mv t with
    | some to =>
      refine cd_false rfl ?_
      refine cd_skip (xt_then (cd_region (st_v (v_move rfl) (st_v (v_move rfl) (st_v (v_nilCheck rfl) (st_sto rfl rfl sz3 ?_))))))
      refine st_nil (nx_kp [] rfl (nx_xt (xt_end rfl ⟨rfl, rfl⟩ ?_)))
      show Ck.Sub ([mb L μ, sb L.o μ.o, wb L.o μ.o, tb L.o μ.o, sb L.n (μ.n.setw off to), wb L.n (μ.n.setw off to), tb L.n μ.n, mpr L.mvb (mvv μ.mv), S] ++ hr) _
      rw [wb_setw hlo, sb_setw]
      exact (by repeat (first | exact Sub.refl _ | exact Sub.nil _ | refine Sub.sel (by repeat (first | exact Sel.here | apply Sel.there)) ?_ | apply Sub.cons))
    | none =>
      have hrm := hroom hb hm
      have hsz := hl.at (μ.o.wd t)
      have hrd : Rd (wb L.o μ.o) ⟨L.o.wb, (t - μ.o.fr).toNat, none⟩ (.int .i64 (μ.o.wd t)) := rd_ints (by omega)
      have hosz : μ.osz μ.o t = 1 + (shAt μ.sh (μ.o.wd t)).length := rfl
      have hob : (μ.o.obj t (μ.osz μ.o t)).length = μ.osz μ.o t := obj_length (by omega)
      have hwl : (μ.n.lay (μ.osz μ.o t) (μ.o.wd t)).ws.length = μ.n.ws.length := by simp [Sp.lay, spl_length μ.n.ws μ.n.us (List.replicate (μ.osz μ.o t) 0) (by simp; omega)]
      have hnx : μ.n.next = (μ.n.fr : Int) + μ.n.us := rfl
      have hfx : (μ.n.lay (μ.osz μ.o t) (μ.o.wd t)).fr = μ.n.fr := rfl
      refine cd_true rfl ?_
      refine cd_seq (cd_region (st_v (v_move rfl) (st_v (v_move rfl) (st_v (v_move rfl) (st_clr rfl rfl en112 rfl (size_ct (L := L) (μ := μ) (S := S) (l := L.o) (s := μ.o) of hbd.1 (by omega) hS hl hk0 hk1) ?_)))))
      refine st_v (v_assign rfl) (st_nil (nx_kp [0, 1, 2, 6, 7, 9] rfl (nx_then (cd_seq (cd_draw (ork [(0, 2), (1, 2), (2, 2), (3, 1), (4, 2), (5, 2), (6, 2), (7, 2), (8, 2), (9, 1), (10, 2), (11, 1), (12, 0), (13, 2)] .nil) (fun i => !(Nat.beq i 12)) [mb L μ, sb L.o μ.o, wb L.o μ.o] mixed (by kernel_rfl) ?_)))))
      refine dp_v rfl (v_move rfl) (dp_v rfl (v_nilCheck rfl) (dp_v rfl (v_fieldAddr rfl fa100_2 rfl) (dr_v rfl (v_ld rfl ld95) ?_)))
      refine dp_v rfl (v_move rfl) (dp_v rfl (v_move rfl) (dp_v rfl (v_nilCheck rfl) (dp_v rfl (v_fieldAddr rfl fa117_0 rfl) (dp_v rfl (v_move rfl) (dr_clr rfl rfl rfl en61 rfl (word_ct (l := L.o) (s := μ.o) of hbd.1 (by omega)) ?_)))))
      refine dp_v rfl (v_nilCheck rfl) (dr_v rfl (v_ld rfl ld3) ?_)
      refine dr_eff rfl (st_cl rfl rfl en84 rfl (lay_ct' (l := L.n) (s := μ.n) (n := μ.osz μ.o t) (sh := μ.o.wd t) (by rw [hosz]; omega) on (by omega) (by omega)) ?_)
      rintro v h' ⟨rfl, rfl⟩
      simp only [List.cons_append, List.nil_append]
      refine dr_nx ?_
      refine dp_v rfl (v_assign rfl) (dr_nil (nx_kp [0, 1, 2, 6, 7, 9] rfl (nx_then (cd_seq (cd_draw (ork [(0, 2), (1, 2), (2, 2), (3, 1), (4, 2), (5, 2), (6, 2), (7, 1), (8, 2), (9, 2), (10, 2), (11, 2), (12, 1), (13, 2), (14, 2), (15, 2), (16, 1), (17, 2), (18, 1), (19, 2), (20, 2), (21, 2), (22, 2), (23, 1), (24, 2), (25, 2), (26, 2), (27, 2), (28, 2), (29, 1), (30, 2), (31, 2), (32, 2), (33, 2), (34, 2), (35, 2), (36, 1), (37, 2), (38, 2), (39, 2), (40, 1), (41, 0)] .nil) (fun i => !(Nat.beq i 41)) [mb L μ, sb L.n (μ.n.lay (μ.osz μ.o t) (μ.o.wd t)), sb L.o μ.o] mixed (by kernel_rfl) ?_)))))
      refine dp_v rfl (v_move rfl) (dp_v rfl (v_nilCheck rfl) (dp_v rfl (v_fieldAddr rfl fa100_2 rfl) (dr_v rfl (v_ld rfl ld95) ?_)))
      refine dp_v rfl (v_nilCheck rfl) (dp_v rfl (v_fieldAddr rfl fa117_0 rfl) (dp_v rfl (v_fieldAddr rfl fa115_0 rfl) (dr_v rfl (v_ld rfl ld34) ?_)))
      refine dp_v rfl (v_move rfl) (dp_v rfl (v_move rfl) (dp_v rfl (v_nilCheck rfl) (dp_v rfl (v_fieldAddr rfl fa100_2 rfl) (dr_v rfl (v_ld rfl ld95) ?_))))
      refine dp_v rfl (v_nilCheck rfl) (dp_v rfl (v_fieldAddr rfl fa117_0 rfl) (dp_v rfl (v_fieldAddr rfl fa115_1 rfl) (dr_v rfl (v_ld rfl ld3) ?_)))
      refine dp_v rfl (v_sub rfl rfl (by unfold I64 at *; omega)) ?_
      have e1 : wb L.n (μ.n.move (μ.o.obj t (μ.osz μ.o t))) = pt L.n.wb (cl (splice (ints (μ.n.lay (μ.osz μ.o t) (μ.o.wd t)).ws ++ L.n.wj) μ.n.us (ints (μ.o.obj t (μ.osz μ.o t)))) 3) := by
        rw [splice_spl _ _ _ _ (by rw [hob, hwl]; omega)]
        simp only [Sp.lay, Sp.move]
        rw [spl_lay _ _ _ _ _ hob (by omega) (by omega)]
      have e2 : sb L.n (μ.n.move (μ.o.obj t (μ.osz μ.o t))) = sb L.n (μ.n.lay (μ.osz μ.o t) (μ.o.wd t)) := by
        have hml : (μ.n.move (μ.o.obj t (μ.osz μ.o t))).ws.length = μ.n.ws.length := by simp only [Sp.move]; rw [spl_length _ _ _ (by rw [hob]; omega)]
        unfold sb
        rw [hml, hwl]
        simp only [Sp.move, Sp.lay, hob, List.length_set]
      have hml : (μ.n.move (μ.o.obj t (μ.osz μ.o t))).ws.length = μ.n.ws.length := by simp only [Sp.move]; rw [spl_length _ _ _ (by rw [hob]; omega)]
      refine dr_v rfl (v_slice_lo (lo := μ.n.us) rfl rfl sl34 (by omega) (by omega) (by omega)) (dp_v rfl (v_move rfl) (dp_v rfl (v_nilCheck rfl) (dp_v rfl (v_fieldAddr rfl fa117_0 rfl) (dp_v rfl (v_fieldAddr rfl fa115_0 rfl) (dr_v rfl (v_ld rfl ld34) ?_)))))
      refine dp_v rfl (v_move rfl) (dp_v rfl (v_move rfl) (dp_v rfl (v_nilCheck rfl) (dp_v rfl (v_fieldAddr rfl fa117_0 rfl) (dp_v rfl (v_fieldAddr rfl fa115_1 rfl) (dr_v rfl (v_ld rfl ld3) ?_)))))
      refine dp_v rfl (v_sub rfl rfl (by unfold I64 at *; omega)) (dp_v rfl (v_move rfl) (dp_v rfl (v_move rfl) (dp_v rfl (v_nilCheck rfl) (dp_v rfl (v_fieldAddr rfl fa117_0 rfl) (dp_v rfl (v_fieldAddr rfl fa115_1 rfl) (dr_v rfl (v_ld rfl ld3) ?_))))))
      refine dp_v rfl (v_sub rfl rfl (by unfold I64 at *; omega)) (dp_v rfl (v_move rfl) (dp_v rfl (v_add rfl rfl (by unfold I64 at *; omega)) (dr_v rfl (v_slice (lo := (t - μ.o.fr).toNat) (hi := (t - μ.o.fr).toNat + μ.osz μ.o t) rfl rfl rfl sl34 (by omega) (by omega) (by omega) (by omega) (by omega)) (dr_eff rfl (st_copy (vs := ints (μ.o.obj t (μ.osz μ.o t))) rfl rfl sl34 (by repeat (first | exact Sel.here | apply Sel.there)) (by rw [ints_length, hob]; show _ = min _ _; omega) (fun j u hu => by repeat (first | exact at_here (src_rd hu) | apply at_there)) ints_one (by rw [List.length_append, ints_length, ints_length, hob, hwl]; omega) (ltn rfl) (dr_nx ?_))))))
      rw [← e1]
      refine dr_nil (nx_kp [0, 1, 2, 6, 7, 9] rfl (nx_then (cd_seq (cd_region (st_v (v_move rfl) (st_v (v_nilCheck rfl) (st_v (v_fieldAddr rfl fa100_7 rfl) (st_v (v_ld rfl ld97) ?_))))))))
      refine st_v (v_move rfl) (st_v (v_move rfl) (st_mapUpdate rfl rfl rfl mp97 (by repeat (first | exact Sel.here | apply Sel.there)) ?_))
      refine st_nil (nx_kp [0, 1, 2, 7, 9] rfl (nx_then (cd_seq (cd_region (st_v (v_move rfl) (st_v (v_move rfl) (st_v (v_nilCheck rfl) (st_v (v_fieldAddr rfl fa100_3 rfl) (st_v (v_ld rfl ld95) ?_)))))))))
      refine st_v (v_eql_ptr_same rfl rfl pt95 hj1) (st_nil (nx_kp [0, 2, 7, 9, 98] rfl (nx_then (cd_true rfl ?_))))
      refine cd_region (st_v (v_move rfl) (st_v (v_nilCheck rfl) (st_v (v_fieldAddr rfl fa100_8 rfl) (st_v (v_ld rfl ld3) ?_))))
      refine st_v (v_move rfl) (st_v (v_sub rfl rfl (by unfold I64 at *; omega)) (st_v (v_nilCheck rfl) (st_v (v_fieldAddr rfl fa100_8 rfl) (st_sto rfl rfl sz3 ?_))))
      refine st_nil (nx_kp [2, 7] rfl (nx_then (cd_region (st_v (v_move rfl) (st_v (v_move rfl) (st_v (v_nilCheck rfl) (st_sto rfl rfl sz3 ?_)))))))
      refine st_nil (nx_kp [] rfl (nx_xt (xt_end rfl ⟨rfl, rfl⟩ ?_)))
      show Ck.Sub ([mb L { μ with le := μ.le - μ.osz μ.o t }, sb L.o μ.o, wb L.o μ.o, tb L.o μ.o, sb L.n ((μ.n.move (μ.o.obj t (μ.osz μ.o t))).setw off μ.n.next), wb L.n ((μ.n.move (μ.o.obj t (μ.osz μ.o t))).setw off μ.n.next), tb L.n (μ.n.move (μ.o.obj t (μ.osz μ.o t))), mpr L.mvb (mvv (mu μ.mv t μ.n.next)), S] ++ hr) _
      rw [wb_setw (by omega), sb_setw, e2, ← mupd_mvv]
      exact (by repeat (first | exact Sub.refl _ | exact Sub.nil _ | refine Sub.sel (by repeat (first | exact Sel.here | apply Sel.there)) ?_ | apply Sub.cons))
end Go.Proofs.Ytmhmpjgkkpbnnaa
namespace Go.Proofs.Ytmhmpjgkkpbnnaa
open Go.Ck Fx Go.Hm
attribute [local irreducible] St Cd Xt Nx DrL LsW

theorem eqi131 : EqI Try.prog 131 2 := EqI.of Try.underlying131 (by kernel_rfl) (by kernel_rfl) (by kernel_rfl) rfl
/-- What a slice that owns its row looks like. -/
theorem vec_shape {v : Value} {E : TypeId} {sz n : Nat} {l : List Value} {f : Nat → Option Obj} (h : (vec v E sz n l).ok f) : ∃ a cp, v = .slice a n cp ∧ (0 < n → ∃ b, a = some ⟨b, 0, none⟩) := by
  rcases vec_form h with ⟨h1, h2, _⟩ | ⟨b, cp, h1, _⟩
  · exact ⟨none, 0, by rw [h1, h2], fun h => by omega⟩
  · exact ⟨_, cp, h1, fun _ => ⟨b, rfl⟩⟩
theorem ct_vec {P : Program} {k : FuncId} {args : Array Value} {v : Value} {E : TypeId} {sz n : Nat} {l : List Value} {hf : SH} {R : Value → SH → Prop} (hc : ∀ a cp, v = .slice a n cp → (0 < n → ∃ b, a = some ⟨b, 0, none⟩) → Ct P k args (vec v E sz n l :: hf) R) :
    Ct P k args (vec v E sz n l :: hf) R := fun hr w hh => by
  obtain ⟨a, cp, h1, h2⟩ := vec_shape hh.1
  exact hc a cp h1 h2 hr w hh
def kc (l : List (Int × Int)) : List Value := l.flatMap fun p => [.int .i64 p.1, .int .i64 p.2]
theorem kc_length (l : List (Int × Int)) : (kc l).length = l.length * 2 := by
  induction l with
  | nil => rfl
  | cons p t ih => simp only [kc, List.flatMap_cons, List.length_append] at ih ⊢; rw [ih]; simp; omega
theorem kc_append (l m : List (Int × Int)) : kc (l ++ m) = kc l ++ kc m := by simp [kc]
theorem kc_get : ∀ {l : List (Int × Int)} {k : Nat} {p : Int × Int}, l[k]? = some p → (kc l)[k * 2]? = some (.int .i64 p.1) ∧ (kc l)[k * 2 + 1]? = some (.int .i64 p.2)
  | [], k, p, h => by simp at h
  | q :: t, 0, p, h => by simp at h; subst h; exact ⟨rfl, rfl⟩
  | q :: t, k + 1, p, h => by
    have := kc_get (l := t) (k := k) (p := p) (by simpa using h)
    rw [show (k + 1) * 2 = k * 2 + 1 + 1 by omega]
    exact this
def knR (L : MemL) (μ : Mem) : Res := vec L.vk 131 2 μ.kn.length (kc μ.kn)
theorem kn_rds {v : Value} {l : List (Int × Int)} {b m cp k : Nat} {p : Int × Int} (hv : v = .slice (some ⟨b, 0, none⟩) m cp) (hk : l[k]? = some p) : Rds (vec v 131 2 l.length (kc l)) b (k * 2) (ints [p.1, p.2]) := fun i hi => by
  obtain ⟨h1, h2⟩ := kc_get hk
  match i, hi with
  | 0, _ => exact rd_vec hv h1
  | 1, _ => exact rd_vec hv h2
  | i + 2, hi => simp [ints] at hi; omega

def kidx (l : List (Int × Int)) (x : Int × Int) : Int := match l.findIdx? (· == x) with | some i => (i : Int) | none => -1
theorem kidx_has (l : List (Int × Int)) (x : Int × Int) : decide (0 ≤ kidx l x) = l.contains x := by
  unfold kidx
  cases h : l.findIdx? (· == x) with
  | none =>
    rw [List.findIdx?_eq_none_iff] at h
    have : ¬ x ∈ l := fun hm => by have := h x hm; simp at this
    simp [List.contains_iff_mem, this]
  | some i =>
    obtain ⟨hi, h1, _⟩ := List.findIdx?_eq_some_iff_getElem.1 h
    have : x ∈ l := by simp only [beq_iff_eq] at h1; rw [← h1]; exact List.getElem_mem hi
    simp [List.contains_iff_mem, this]
set_option maxRecDepth 100000 in
theorem index_ct {v : Value} {l : List (Int × Int)} {x : Int × Int} (hl : l.length ≤ 1000000) : Reads Try.prog 111 #[v, .agg #[.int .i64 x.1, .int .i64 x.2]] [vec v 131 2 l.length (kc l)] (.int .i64 (kidx l x)) := by
  refine ct_vec fun a cp hv ha => ?_
  refine ct_of (n := 19) Try.func111 rfl rfl (len rfl) fun hr w0 => ?_
  refine cd_seq (cd_region (st_bx rfl rfl fun b3 => ?_))
  refine st_v (v_assign rfl) (st_nil (nx_kp [0, 3, 4] rfl (nx_then (cd_seq (cd_seq (cd_region (st_v (v_move rfl) (st_v (v_len (congrArg some hv) Try.underlying98) (st_v (v_move rfl) (st_nil (nx_kp [0, 3, 4, 7, 8] rfl (nx_then (cd_block (cd_loop (σ := Nat) (fun i => [(0, v), (3, .pointer (some ⟨b3, 0, none⟩)), (7, .int .i64 l.length), (8, .int .i64 i)]) (fun _ => pt b3 (cl [.int .i64 x.1, .int .i64 x.2] 131) :: vec v 131 2 l.length (kc l) :: hr) (fun i => i ≤ l.length ∧ ∀ j p, j < i → l[j]? = some p → p ≠ x) (fun i => l.length - i) 0 ⟨Nat.zero_le _, fun _ _ h => absurd h (Nat.not_lt_zero _)⟩ ⟨rfl, rfl, rfl, rfl, trivial⟩ (Sub.refl _) ?_))))))))))))))
  rintro i ⟨hi, hne⟩
  refine cd_seq (cd_region (st_v (v_lss rfl rfl) (st_nil (nx_then (cd_seq (cd_cond rfl (fun hc => ?_) (fun hc => ?_)))))))
  · skip
    have hlt : i < l.length := by simpa using hc
    obtain ⟨b, rfl⟩ := ha (by omega)
    have hp : l[i]? = some l[i] := List.getElem?_eq_getElem hlt
    refine cd_skip (xt_then (cd_seq (cd_block (cd_seq (cd_region (st_v (v_move rfl) (st_v (v_assign rfl) (st_nil (nx_kp [0, 3, 5, 7, 8] rfl (nx_then (cd_seq (cd_drawh (ork [(0, 1), (1, 2), (2, 2), (3, 2), (4, 1), (5, 1)] .nil) (fun _ => true) mixed (by kernel_rfl) ?_))))))))))))
    refine dr_v rfl (v_loadW rfl ld131 rfl (by repeat (first | exact Sel.here | apply Sel.there))) ?_
    refine dp_v rfl (v_move rfl) (dp_v rfl (v_move rfl) (dp_v rfl (v_indexAddr (congrArg some hv) rfl sl98 rfl hlt (Nat.zero_add _)) (dr_v rfl (v_loadR rfl ld131 rfl (by repeat (first | exact Sel.here | apply Sel.there)) (kn_rds hv hp)) ?_)))
    refine dr_v rfl (v_eql_ints (xs := [x.1, x.2]) (ys := [l[i].1, l[i].2]) eqi131 rfl rfl rfl rfl) (dr_nil (nx_kp [0, 3, 5, 7, 8, 16] rfl (nx_then (cd_cond rfl (fun hd => ?_) (fun hd => ?_)))))
    · skip
      refine cd_seq (cd_region (st_v (v_move rfl) (st_v (v_assign rfl) (st_nil (nx_kp [0, 3, 4, 7, 8] rfl (nx_then (cd_ret (xt_ret_block (xt_ret_then (xt_ret_then (xt_ret_block (xt_ret_then ?_))))))))))))
      have hx : l[i] = x := by simp at hd; exact (Prod.ext hd.1 hd.2).symm
      have hk : kidx l x = (i : Int) := by
        unfold kidx
        have : l.findIdx? (· == x) = some i := List.findIdx?_eq_some_iff_getElem.2 ⟨hlt, by simp [hx], fun j hj => by simpa using hne j l[j] hj (List.getElem?_eq_getElem (by omega))⟩
        rw [this]
      rw [hk]
      exact xt_rt rfl ⟨rfl, rfl⟩
    · skip
      refine cd_skip (xt_normal_block (xt_then (cd_region (st_v (v_add rfl rfl (by unfold I64 at *; omega)) (st_v (v_move rfl) (st_nil (nx_kp [0, 3, 7, 8] rfl (nx_xt (xt_ag (i + 1) ⟨hlt, fun j p hj hpj => ?_⟩ (by omega))))))))))
      by_cases hji : j = i
      · subst hji; rw [hp] at hpj; cases hpj; intro he; rw [he] at hd; simp at hd
      · exact hne j p (by omega) hpj
  · skip
    refine cd_exit (xt_exit_then (xt_exit_then (xt_exit_block (xt_then (cd_seq (cd_region (st_v (v_assign rfl) (st_nil (nx_kp [4] rfl (nx_then (cd_ret ?_)))))))))))
    have hge : l.length ≤ i := by simpa using hc
    have hk : kidx l x = -1 := by
      unfold kidx
      have : l.findIdx? (· == x) = none := by
        rw [List.findIdx?_eq_none_iff]
        intro p hp
        obtain ⟨j, hj, rfl⟩ := List.getElem_of_mem hp
        simpa using hne j l[j] (by omega) (List.getElem?_eq_getElem hj)
      rw [this]
    rw [hk]
    exact xt_rt rfl ⟨rfl, rfl⟩
set_option maxRecDepth 100000 in
theorem contains_ct {v : Value} {l : List (Int × Int)} {x : Int × Int} (hl : l.length ≤ 1000000) : Reads Try.prog 73 #[v, .agg #[.int .i64 x.1, .int .i64 x.2]] [vec v 131 2 l.length (kc l)] (.bool (l.contains x)) := by
  rw [← kidx_has]
  refine ct_of (n := 9) Try.func73 rfl rfl (len rfl) fun hr w0 => ?_
  refine cd_seq (cd_region (st_bx rfl rfl fun b3 => ?_))
  refine st_v (v_assign rfl) (st_nil (nx_kp [0, 3, 4] rfl (nx_then (cd_seq (cd_region (st_v (v_move rfl) (st_v (v_loadW rfl ld131 rfl (by repeat (first | exact Sel.here | apply Sel.there))) ?_)))))))
  refine st_clr rfl rfl en111 rfl (index_ct (v := v) (l := l) (x := x) hl) ?_
  refine st_v (v_geq rfl rfl) (st_v (v_assign rfl) (st_nil (nx_kp [4] rfl (nx_then (cd_ret ?_)))))
  exact xt_rt rfl ⟨rfl, rfl⟩
end Go.Proofs.Ytmhmpjgkkpbnnaa
namespace Go.Proofs.Ytmhmpjgkkpbnnaa
open Go.Ck Fx Go.Hm
attribute [local irreducible] St Cd Xt Nx DrL LsW

def Mem.lenOf (μ : Mem) (s : Sp) (t : Int) : Int := ((shAt μ.sh (s.wd t)).length : Int)
/-- The error of a field. -/
def Mem.fe (μ : Mem) (t f : Int) : Int :=
  if μ.y.begins t then (if decide (f < 0) || decide (μ.lenOf μ.y t ≤ f) then 1 else 0) else if μ.n.begins t then (if decide (f < 0) || decide (μ.lenOf μ.n t ≤ f) then 1 else 0) else 5
/-- Whether a field refers. -/
def Mem.ref (μ : Mem) (t f : Int) : Bool := (shAt μ.sh (if μ.y.begins t then μ.y.wd t else μ.n.wd t)).getD f.toNat false
def Mem.putw (μ : Mem) (t f val : Int) : Mem := if μ.y.begins t then { μ with y := μ.y.setw (t + 1 + f - μ.y.fr).toNat val } else { μ with n := μ.n.setw (t + 1 + f - μ.n.fr).toNat val }
def Mem.newly (μ : Mem) (t f val : Int) : Bool := ((μ.ref t f && μ.n.begins t) && μ.y.begins val) && !μ.kn.contains (t, f)
def Mem.set (μ : Mem) (t f val : Int) : Int × Mem :=
  if μ.fe t f ≠ 0 then (μ.fe t f, μ) else if (μ.ref t f && val != 0) && !μ.cur val then (5, μ) else
  (0, if μ.newly t f val then { μ.putw t f val with kn := μ.kn ++ [(t, f)] } else μ.putw t f val)
theorem fld_cases {L : MemL} {μ : Mem} {t f : Int} {p : Option Addr} {r : Bool} {er : Int} (hF : Fld L μ t f p r er) (py : SpOk μ.sh μ.y) (pn : SpOk μ.sh μ.n) :
    (er ≠ 0 ∧ μ.fe t f = er ∧ p = none) ∨ (er = 0 ∧ μ.fe t f = 0 ∧ μ.ref t f = r ∧ μ.y.begins t = true ∧ p = some ⟨L.y.wb, (t + 1 + f - μ.y.fr).toNat, none⟩ ∧ (t + 1 + f - μ.y.fr).toNat < μ.y.us) ∨
    (er = 0 ∧ μ.fe t f = 0 ∧ μ.ref t f = r ∧ μ.y.begins t = false ∧ μ.n.begins t = true ∧ p = some ⟨L.n.wb, (t + 1 + f - μ.n.fr).toNat, none⟩ ∧ (t + 1 + f - μ.n.fr).toNat < μ.n.us) := by
  unfold Mem.fe Mem.ref
  cases hF with
  | none h1 h2 => exact .inl ⟨by decide, by simp [h1, h2], rfl⟩
  | argy h1 h2 => exact .inl ⟨by decide, by rw [if_pos h1]; unfold Mem.lenOf; rw [if_pos h2], rfl⟩
  | argn h1 h2 h3 => exact .inl ⟨by decide, by rw [h1, if_neg (by simp), if_pos h2]; unfold Mem.lenOf; rw [if_pos h3], rfl⟩
  | y h1 h2 =>
    refine .inr (.inl ⟨rfl, by rw [if_pos h1]; unfold Mem.lenOf; rw [if_neg (by simp [h2])], by rw [if_pos h1], h1, rfl, ?_⟩)
    have h3 := py t h1
    have h4 := begins_bd h1
    simp only [Bool.or_eq_false_iff, decide_eq_false_iff_not, Int.not_lt, Int.not_le] at h2
    omega
  | n h1 h2 h3 =>
    refine .inr (.inr ⟨rfl, by rw [h1, if_neg (by simp), if_pos h2]; unfold Mem.lenOf; rw [if_neg (by simp [h3])], by rw [h1, if_neg (by simp)], h1, h2, rfl, ?_⟩)
    have h4 := pn t h2
    have h5 := begins_bd h2
    simp only [Bool.or_eq_false_iff, decide_eq_false_iff_not, Int.not_lt, Int.not_le] at h3
    omega
def setSH (L : MemL) (μ : Mem) (S : Res) : SH := [mb L μ, sb L.y μ.y, tb L.y μ.y, wb L.y μ.y, sb L.n μ.n, tb L.n μ.n, wb L.n μ.n, knR L μ, S]
set_option maxRecDepth 100000 in
theorem set_ct {L : MemL} {μ : Mem} {S : Res} {t f val : Int} (oy : μ.y.Ok) (on : μ.n.Ok) (hne : L.y.sb ≠ L.n.sb) (hS : Shp S L.vs μ.sh) (hl : ShOk μ.sh) (py : SpOk μ.sh μ.y) (pn : SpOk μ.sh μ.n) (hkn : μ.kn.length ≤ 1000000) :
    Ct Try.prog 40 #[.pointer (some ⟨L.mb, 0, none⟩), .int .i64 t, .int .i64 f, .int .i64 val] (setSH L μ S) fun v h' => v = .int .i64 (μ.set t f val).1 ∧ ∃ vk, h' = setSH { L with vk := vk } (μ.set t f val).2 S := by
  have h1y := oy.us; have h1n := on.us
  obtain ⟨p, r, er, hF⟩ := fld_total L μ t f
  unfold setSH Mem.set
  refine ct_of (n := 83) Try.func40 rfl rfl (len rfl) fun hr w0 => ?_
  refine cd_seq (cd_region (st_v (v_assign rfl) (st_nil (nx_then (cd_seq (cd_region (st_v (v_move rfl) (st_v (v_move rfl) (st_v (v_move rfl) (st_clr rfl rfl en92 rfl (field_ct hF oy on hne hS hl py pn) ?_))))))))))
  refine st_v (v_move rfl) (st_v (v_extract rfl rfl) (st_v (v_extract rfl rfl) (st_v (v_extract rfl rfl) (st_v (v_assign rfl) (st_v (v_assign rfl) (st_v (v_assign rfl) (st_nil (nx_kp [0, 1, 2, 3, 8, 9, 10, 11] rfl (nx_then (cd_seq (cd_seq (cd_region (st_v (v_move rfl) (st_v (v_neq rfl rfl) (st_nil (nx_kp [0, 1, 2, 3, 8, 9, 10, 11, 24] rfl (nx_then ?_)))))))))))))))))
  rcases fld_cases hF py pn with ⟨h1, h2, rfl⟩ | ⟨rfl, hfe, hrf, hb, rfl, hbd⟩ | ⟨rfl, hfe, hrf, hby, hb, rfl, hbd⟩
  · skip
    rw [h2, if_pos h1]
    rw [show (er != 0) = true by simpa using h1]
    refine cd_true rfl ?_
    refine cd_seq (cd_region (st_v (v_move rfl) (st_v (v_assign rfl) (st_nil (nx_kp [0, 1, 2, 3, 8, 9, 10] rfl (nx_then (cd_ret (xt_ret_then ?_))))))))
    exact xt_rt rfl ⟨rfl, L.vk, rfl⟩
  · skip
    have hput : μ.putw t f val = { μ with y := μ.y.setw (t + 1 + f - μ.y.fr).toNat val } := by unfold Mem.putw; rw [if_pos hb]
    have hnw : μ.newly t f val = (((r && μ.n.begins t) && μ.y.begins val) && !μ.kn.contains (t, f)) := by unfold Mem.newly; rw [hrf]
    rw [if_neg (by rw [hfe]; simp), hrf, hnw, hput]
    refine cd_false rfl ?_
    refine cd_skip (xt_then (cd_seq (cd_seq (cd_region (st_v (v_move rfl) (st_v (v_move rfl) (st_clr rfl rfl en71 rfl (current_ct (L := L) (μ := μ) oy on hne) ?_)))))))
    refine st_v (v_move rfl) (st_v (v_extract rfl rfl) (st_v (v_extract rfl rfl) (st_v (v_assign rfl) (st_v (v_assign rfl) (st_nil (nx_kp [0, 1, 2, 3, 8, 9, 10, 13] rfl (nx_then (cd_seq (cd_region (st_v (v_move rfl) (st_v (v_move rfl) (st_cut (k := 5) (d := 36) (v := .bool (r && val != 0)) (fun hcut => bool_want (b := r) true (fun hg => ?_) (fun hg => ?_)) ?_))))))))))))
    · refine st_sk rfl rfl hg ?_
      refine st_sk rfl rfl hg ?_
      refine st_v (v_pick_false (bool_ev rfl hg) rfl) ?_
      exact hcut _ (ssub_head (by first | rfl | (rw [hg]; rfl) | simp_all) (ssub_skip rfl (ssub_skip rfl (ssub_refl))))
    · skip
      refine st_vg rfl (bool_get rfl hg) (v_move rfl) (st_vg rfl (bool_get rfl hg) (v_neq rfl rfl) (st_v (v_pick_true (bool_ev rfl hg) rfl) ?_))
      exact hcut _ (ssub_head (by first | rfl | (rw [hg]; rfl) | simp_all) (ssub_skip rfl (ssub_skip rfl (ssub_refl))))
    refine st_v (v_move rfl) (st_cut (k := 9) (d := 40) (v := .bool ((r && val != 0) && !μ.cur val)) (fun hcut => bool_want (b := r && val != 0) true (fun hg => ?_) (fun hg => ?_)) ?_)
    · refine st_sk rfl rfl hg ?_
      refine st_sk rfl rfl hg ?_
      refine st_v (v_pick_false (bool_ev rfl hg) rfl) ?_
      exact hcut _ (ssub_head (by first | rfl | (rw [hg]; rfl) | simp_all) (ssub_skip rfl (ssub_skip rfl (ssub_refl))))
    · skip
      refine st_vg rfl (bool_get rfl hg) (v_move rfl) (st_vg rfl (bool_get rfl hg) (v_not rfl) (st_v (v_pick_true (bool_ev rfl hg) rfl) ?_))
      exact hcut _ (ssub_head (by first | rfl | (rw [hg]; rfl) | simp_all) (ssub_skip rfl (ssub_skip rfl (ssub_refl))))
    refine st_nil (nx_kp [0, 1, 2, 3, 8, 9, 10, 40] rfl (nx_then (cd_cond rfl (fun hc => ?_) (fun hc => ?_))))
    · skip
      refine cd_seq (cd_region (st_v (v_assign rfl) (st_nil (nx_kp [0, 1, 2, 3, 8, 9, 10] rfl (nx_then (cd_ret (xt_ret_then ?_)))))))
      rw [if_pos hc]
      exact xt_rt rfl ⟨rfl, L.vk, rfl⟩
    · skip
      rw [if_neg (by rw [hc]; simp)]
      refine cd_skip (xt_then (cd_seq (cd_region (st_v (v_move rfl) (st_v (v_move rfl) (st_v (v_nilCheck rfl) (st_sto rfl rfl sz3 ?_)))))))
      refine st_nil (nx_kp [0, 1, 2, 3, 8, 10] rfl (nx_then (cd_seq (cd_seq (cd_region (st_v (v_move rfl) (st_v (v_move rfl) ?_)))))))
      rw [← wb_setw (by omega)]
      refine st_v (v_build (cells := [.int .i64 t, .int .i64 f]) rfl (fun _ => by kernel_rfl)) ?_
      refine st_alc al131 fun b14 => ?_
      refine st_stoW rfl rfl sz131 rfl rfl ?_
      refine st_nil (nx_kp [0, 1, 3, 8, 10, 14] rfl (nx_then (cd_seq (cd_drawh (ork [(0, 2), (1, 2), (2, 2), (3, 2), (4, 2), (5, 1), (6, 2), (7, 1), (8, 2), (9, 2), (10, 2), (11, 2), (12, 2), (13, 1), (14, 2), (15, 1), (16, 2), (17, 2), (18, 2), (19, 2), (20, 2), (21, 1), (22, 1), (23, 1), (24, 2), (25, 2)] .nil) (fun _ => true) mixed (by kernel_rfl) ?_))))
      refine dp_v rfl (v_move rfl) (dp_v rfl (v_move rfl) (dr_cut (k := 7) (d := 55) (v := .bool (r && μ.n.begins t)) (fun hcut => bool_want (b := r) true (fun hg => ?_) (fun hg => ?_)) ?_))
      · refine dp_sk rfl rfl rfl hg ?_
        refine dp_sk rfl rfl rfl hg ?_
        refine dp_sk rfl rfl rfl hg ?_
        refine dr_sk rfl rfl rfl hg ?_
        refine dp_sk rfl rfl rfl hg ?_
        refine dr_sk rfl rfl rfl hg ?_
        refine dp_v rfl (v_pick_false (bool_ev rfl hg) rfl) ?_
        exact hcut _ (ssub_head (by first | rfl | (rw [hg]; rfl) | simp_all) (ssub_skip rfl (ssub_skip rfl (ssub_skip rfl (ssub_skip rfl (ssub_skip rfl (ssub_skip rfl (ssub_refl))))))))
      · skip
        refine dp_vg rfl rfl (bool_get rfl hg) (v_move rfl) (dp_vg rfl rfl (bool_get rfl hg) (v_nilCheck rfl) (dp_vg rfl rfl (bool_get rfl hg) (v_fieldAddr rfl fa100_2 rfl) (dr_vg rfl rfl (bool_get rfl hg) (v_ld rfl ld95) ?_)))
        refine dp_vg rfl rfl (bool_get rfl hg) (v_move rfl) (dr_clrg rfl rfl (bool_get rfl hg) rfl rfl en72 rfl (begins_ct (l := L.n) (s := μ.n) on) ?_)
        refine dp_v rfl (v_pick_true (bool_ev rfl hg) rfl) ?_
        exact hcut _ (ssub_head (by first | rfl | (rw [hg]; rfl) | simp_all) (ssub_skip rfl (ssub_skip rfl (ssub_skip rfl (ssub_skip rfl (ssub_skip rfl (ssub_skip rfl (ssub_refl))))))))
      refine dp_v rfl (v_move rfl) (dr_cut (k := 7) (d := 63) (v := .bool ((r && μ.n.begins t) && μ.y.begins val)) (fun hcut => bool_want (b := r && μ.n.begins t) true (fun hg => ?_) (fun hg => ?_)) ?_)
      · refine dp_sk rfl rfl rfl hg ?_
        refine dp_sk rfl rfl rfl hg ?_
        refine dp_sk rfl rfl rfl hg ?_
        refine dr_sk rfl rfl rfl hg ?_
        refine dp_sk rfl rfl rfl hg ?_
        refine dr_sk rfl rfl rfl hg ?_
        refine dp_v rfl (v_pick_false (bool_ev rfl hg) rfl) ?_
        exact hcut _ (ssub_head (by first | rfl | (rw [hg]; rfl) | simp_all) (ssub_skip rfl (ssub_skip rfl (ssub_skip rfl (ssub_skip rfl (ssub_skip rfl (ssub_skip rfl (ssub_refl))))))))
      · skip
        refine dp_vg rfl rfl (bool_get rfl hg) (v_move rfl) (dp_vg rfl rfl (bool_get rfl hg) (v_nilCheck rfl) (dp_vg rfl rfl (bool_get rfl hg) (v_fieldAddr rfl fa100_1 rfl) (dr_vg rfl rfl (bool_get rfl hg) (v_ld rfl ld95) ?_)))
        refine dp_vg rfl rfl (bool_get rfl hg) (v_move rfl) (dr_clrg rfl rfl (bool_get rfl hg) rfl rfl en72 rfl (begins_ct (l := L.y) (s := μ.y) oy) ?_)
        refine dp_v rfl (v_pick_true (bool_ev rfl hg) rfl) ?_
        exact hcut _ (ssub_head (by first | rfl | (rw [hg]; rfl) | simp_all) (ssub_skip rfl (ssub_skip rfl (ssub_skip rfl (ssub_skip rfl (ssub_skip rfl (ssub_skip rfl (ssub_refl))))))))
      refine dp_v rfl (v_move rfl) (dr_cut (k := 8) (d := 72) (v := .bool (((r && μ.n.begins t) && μ.y.begins val) && !μ.kn.contains (t, f))) (fun hcut => bool_want (b := (r && μ.n.begins t) && μ.y.begins val) true (fun hg => ?_) (fun hg => ?_)) ?_)
      · refine dp_sk rfl rfl rfl hg ?_
        refine dp_sk rfl rfl rfl hg ?_
        refine dp_sk rfl rfl rfl hg ?_
        refine dr_sk rfl rfl rfl hg ?_
        refine dr_sk rfl rfl rfl hg ?_
        refine dr_sk rfl rfl rfl hg ?_
        refine dp_sk rfl rfl rfl hg ?_
        refine dp_v rfl (v_pick_false (bool_ev rfl hg) rfl) ?_
        exact hcut _ (ssub_head (by first | rfl | (rw [hg]; rfl) | simp_all) (ssub_skip rfl (ssub_skip rfl (ssub_skip rfl (ssub_skip rfl (ssub_skip rfl (ssub_skip rfl (ssub_skip rfl (ssub_refl)))))))))
      · skip
        refine dp_vg rfl rfl (bool_get rfl hg) (v_move rfl) (dp_vg rfl rfl (bool_get rfl hg) (v_nilCheck rfl) (dp_vg rfl rfl (bool_get rfl hg) (v_fieldAddr rfl fa100_4 rfl) (dr_vg rfl rfl (bool_get rfl hg) (v_ld rfl ld98) ?_)))
        refine dr_vg rfl rfl (bool_get rfl hg) (v_loadW rfl ld131 rfl (by repeat (first | exact Sel.here | apply Sel.there))) ?_
        refine dr_clrg rfl rfl (bool_get rfl hg) rfl rfl en73 rfl (contains_ct (v := L.vk) (l := μ.kn) (x := (t, f)) hkn) ?_
        refine dp_vg rfl rfl (bool_get rfl hg) (v_not rfl) (dp_v rfl (v_pick_true (bool_ev rfl hg) rfl) ?_)
        exact hcut _ (ssub_head (by first | rfl | (rw [hg]; rfl) | simp_all) (ssub_skip rfl (ssub_skip rfl (ssub_skip rfl (ssub_skip rfl (ssub_skip rfl (ssub_skip rfl (ssub_skip rfl (ssub_refl)))))))))
      refine dr_nil (nx_kp [0, 8, 14, 72] rfl (nx_then (cd_cond rfl (fun hd => ?_) (fun hd => ?_))))
      · skip
        refine cd_draw (ork [(0, 2), (1, 2), (2, 2), (3, 2), (4, 1), (5, 1), (6, 0), (7, 0), (8, 2), (9, 2), (10, 0)] .nil) (fun i => !(Nat.beq i 7 || Nat.beq i 10)) [mb L μ, pt b14 (cl [.int .i64 t, .int .i64 f] 131)] mixed (by kernel_rfl) ?_
        refine dp_v rfl (v_move rfl) (dp_v rfl (v_move rfl) (dp_v rfl (v_nilCheck rfl) (dp_v rfl (v_fieldAddr rfl fa100_4 rfl) (dr_v rfl (v_ld rfl ld98) ?_))))
        refine dr_v rfl (v_loadW rfl ld131 rfl (by repeat (first | exact Sel.here | apply Sel.there))) ?_
        rw [if_pos hd]
        refine dr_eff rfl (st_buildSlice (cells := [.int .i64 t, .int .i64 f]) rfl Try.underlying98 inf131 rfl rfl (by kernel_rfl) (ltn rfl) fun b79 => dr_nx ?_)
        refine dr_eff rfl (st_append (news := [.int .i64 t, .int .i64 f]) rfl rfl Try.underlying98 inf131 rfl (ltn rfl) (by repeat (first | exact Sel.here | apply Sel.there)) rfl (fun j u hu => by repeat (first | exact at_here (rd_cl (by simpa using hu)) | apply at_there)) (ones rfl) (by omega) (by omega) (ltn rfl) fun vk hvk hv1 => dr_nx ?_)
        refine dp_v rfl (v_nilCheck rfl) (dp_v rfl (v_fieldAddr rfl fa100_4 rfl) (dr_eff rfl (st_sto rfl rfl sz98 (dr_nx ?_))))
        refine dr_nil (nx_kp [8] rfl (nx_then (cd_seq (cd_region (st_v (v_assign rfl) (st_nil (nx_then (cd_ret ?_))))))))
        have ek : knR { L with vk := vk } { μ with y := μ.y.setw (t + 1 + f - μ.y.fr).toNat val, kn := μ.kn ++ [(t, f)] } = vec vk 131 2 (μ.kn.length + 1) (kc μ.kn ++ [.int .i64 t, .int .i64 f]) := by
          unfold knR; rw [kc_append]; simp only [List.length_append, List.length_cons, List.length_nil]; rfl
        refine xt_ret rfl ⟨rfl, vk, rfl⟩ ?_
        show Ck.Sub ([mb { L with vk := vk } μ, sb L.y (μ.y.setw (t + 1 + f - μ.y.fr).toNat val), tb L.y μ.y, wb L.y (μ.y.setw (t + 1 + f - μ.y.fr).toNat val), sb L.n μ.n, tb L.n μ.n, wb L.n μ.n, knR { L with vk := vk } { μ with y := μ.y.setw (t + 1 + f - μ.y.fr).toNat val, kn := μ.kn ++ [(t, f)] }, S] ++ hr) _
        rw [ek, sb_setw]
        exact (by repeat (first | exact Sub.refl _ | exact Sub.nil _ | refine Sub.sel (by repeat (first | exact Sel.here | apply Sel.there)) ?_ | apply Sub.cons))
      · skip
        refine cd_skip (xt_then (cd_seq (cd_region (st_v (v_assign rfl) (st_nil (nx_kp [8] rfl (nx_then (cd_ret ?_))))))))
        rw [if_neg (by rw [hd]; simp)]
        refine xt_ret rfl ⟨rfl, L.vk, rfl⟩ ?_
        show Ck.Sub ([mb L μ, sb L.y (μ.y.setw (t + 1 + f - μ.y.fr).toNat val), tb L.y μ.y, wb L.y (μ.y.setw (t + 1 + f - μ.y.fr).toNat val), sb L.n μ.n, tb L.n μ.n, wb L.n μ.n, knR L μ, S] ++ hr) _
        rw [sb_setw]
        exact (by repeat (first | exact Sub.refl _ | exact Sub.nil _ | refine Sub.sel (by repeat (first | exact Sel.here | apply Sel.there)) ?_ | apply Sub.cons))
  · skip
    have hput : μ.putw t f val = { μ with n := μ.n.setw (t + 1 + f - μ.n.fr).toNat val } := by unfold Mem.putw; rw [hby, if_neg (by simp)]
    have hnw : μ.newly t f val = (((r && μ.n.begins t) && μ.y.begins val) && !μ.kn.contains (t, f)) := by unfold Mem.newly; rw [hrf]
    rw [if_neg (by rw [hfe]; simp), hrf, hnw, hput]
    refine cd_false rfl ?_
    refine cd_skip (xt_then (cd_seq (cd_seq (cd_region (st_v (v_move rfl) (st_v (v_move rfl) (st_clr rfl rfl en71 rfl (current_ct (L := L) (μ := μ) oy on hne) ?_)))))))
    refine st_v (v_move rfl) (st_v (v_extract rfl rfl) (st_v (v_extract rfl rfl) (st_v (v_assign rfl) (st_v (v_assign rfl) (st_nil (nx_kp [0, 1, 2, 3, 8, 9, 10, 13] rfl (nx_then (cd_seq (cd_region (st_v (v_move rfl) (st_v (v_move rfl) (st_cut (k := 5) (d := 36) (v := .bool (r && val != 0)) (fun hcut => bool_want (b := r) true (fun hg => ?_) (fun hg => ?_)) ?_))))))))))))
    · refine st_sk rfl rfl hg ?_
      refine st_sk rfl rfl hg ?_
      refine st_v (v_pick_false (bool_ev rfl hg) rfl) ?_
      exact hcut _ (ssub_head (by first | rfl | (rw [hg]; rfl) | simp_all) (ssub_skip rfl (ssub_skip rfl (ssub_refl))))
    · skip
      refine st_vg rfl (bool_get rfl hg) (v_move rfl) (st_vg rfl (bool_get rfl hg) (v_neq rfl rfl) (st_v (v_pick_true (bool_ev rfl hg) rfl) ?_))
      exact hcut _ (ssub_head (by first | rfl | (rw [hg]; rfl) | simp_all) (ssub_skip rfl (ssub_skip rfl (ssub_refl))))
    refine st_v (v_move rfl) (st_cut (k := 9) (d := 40) (v := .bool ((r && val != 0) && !μ.cur val)) (fun hcut => bool_want (b := r && val != 0) true (fun hg => ?_) (fun hg => ?_)) ?_)
    · refine st_sk rfl rfl hg ?_
      refine st_sk rfl rfl hg ?_
      refine st_v (v_pick_false (bool_ev rfl hg) rfl) ?_
      exact hcut _ (ssub_head (by first | rfl | (rw [hg]; rfl) | simp_all) (ssub_skip rfl (ssub_skip rfl (ssub_refl))))
    · skip
      refine st_vg rfl (bool_get rfl hg) (v_move rfl) (st_vg rfl (bool_get rfl hg) (v_not rfl) (st_v (v_pick_true (bool_ev rfl hg) rfl) ?_))
      exact hcut _ (ssub_head (by first | rfl | (rw [hg]; rfl) | simp_all) (ssub_skip rfl (ssub_skip rfl (ssub_refl))))
    refine st_nil (nx_kp [0, 1, 2, 3, 8, 9, 10, 40] rfl (nx_then (cd_cond rfl (fun hc => ?_) (fun hc => ?_))))
    · skip
      refine cd_seq (cd_region (st_v (v_assign rfl) (st_nil (nx_kp [0, 1, 2, 3, 8, 9, 10] rfl (nx_then (cd_ret (xt_ret_then ?_)))))))
      rw [if_pos hc]
      exact xt_rt rfl ⟨rfl, L.vk, rfl⟩
    · skip
      rw [if_neg (by rw [hc]; simp)]
      refine cd_skip (xt_then (cd_seq (cd_region (st_v (v_move rfl) (st_v (v_move rfl) (st_v (v_nilCheck rfl) (st_sto rfl rfl sz3 ?_)))))))
      refine st_nil (nx_kp [0, 1, 2, 3, 8, 10] rfl (nx_then (cd_seq (cd_seq (cd_region (st_v (v_move rfl) (st_v (v_move rfl) ?_)))))))
      rw [← wb_setw (by omega)]
      refine st_v (v_build (cells := [.int .i64 t, .int .i64 f]) rfl (fun _ => by kernel_rfl)) ?_
      refine st_alc al131 fun b14 => ?_
      refine st_stoW rfl rfl sz131 rfl rfl ?_
      refine st_nil (nx_kp [0, 1, 3, 8, 10, 14] rfl (nx_then (cd_seq (cd_drawh (ork [(0, 2), (1, 2), (2, 2), (3, 2), (4, 2), (5, 1), (6, 2), (7, 1), (8, 2), (9, 2), (10, 2), (11, 2), (12, 2), (13, 1), (14, 2), (15, 1), (16, 2), (17, 2), (18, 2), (19, 2), (20, 2), (21, 1), (22, 1), (23, 1), (24, 2), (25, 2)] .nil) (fun _ => true) mixed (by kernel_rfl) ?_))))
      refine dp_v rfl (v_move rfl) (dp_v rfl (v_move rfl) (dr_cut (k := 7) (d := 55) (v := .bool (r && μ.n.begins t)) (fun hcut => bool_want (b := r) true (fun hg => ?_) (fun hg => ?_)) ?_))
      · refine dp_sk rfl rfl rfl hg ?_
        refine dp_sk rfl rfl rfl hg ?_
        refine dp_sk rfl rfl rfl hg ?_
        refine dr_sk rfl rfl rfl hg ?_
        refine dp_sk rfl rfl rfl hg ?_
        refine dr_sk rfl rfl rfl hg ?_
        refine dp_v rfl (v_pick_false (bool_ev rfl hg) rfl) ?_
        exact hcut _ (ssub_head (by first | rfl | (rw [hg]; rfl) | simp_all) (ssub_skip rfl (ssub_skip rfl (ssub_skip rfl (ssub_skip rfl (ssub_skip rfl (ssub_skip rfl (ssub_refl))))))))
      · skip
        refine dp_vg rfl rfl (bool_get rfl hg) (v_move rfl) (dp_vg rfl rfl (bool_get rfl hg) (v_nilCheck rfl) (dp_vg rfl rfl (bool_get rfl hg) (v_fieldAddr rfl fa100_2 rfl) (dr_vg rfl rfl (bool_get rfl hg) (v_ld rfl ld95) ?_)))
        refine dp_vg rfl rfl (bool_get rfl hg) (v_move rfl) (dr_clrg rfl rfl (bool_get rfl hg) rfl rfl en72 rfl (begins_ct (l := L.n) (s := μ.n) on) ?_)
        refine dp_v rfl (v_pick_true (bool_ev rfl hg) rfl) ?_
        exact hcut _ (ssub_head (by first | rfl | (rw [hg]; rfl) | simp_all) (ssub_skip rfl (ssub_skip rfl (ssub_skip rfl (ssub_skip rfl (ssub_skip rfl (ssub_skip rfl (ssub_refl))))))))
      refine dp_v rfl (v_move rfl) (dr_cut (k := 7) (d := 63) (v := .bool ((r && μ.n.begins t) && μ.y.begins val)) (fun hcut => bool_want (b := r && μ.n.begins t) true (fun hg => ?_) (fun hg => ?_)) ?_)
      · refine dp_sk rfl rfl rfl hg ?_
        refine dp_sk rfl rfl rfl hg ?_
        refine dp_sk rfl rfl rfl hg ?_
        refine dr_sk rfl rfl rfl hg ?_
        refine dp_sk rfl rfl rfl hg ?_
        refine dr_sk rfl rfl rfl hg ?_
        refine dp_v rfl (v_pick_false (bool_ev rfl hg) rfl) ?_
        exact hcut _ (ssub_head (by first | rfl | (rw [hg]; rfl) | simp_all) (ssub_skip rfl (ssub_skip rfl (ssub_skip rfl (ssub_skip rfl (ssub_skip rfl (ssub_skip rfl (ssub_refl))))))))
      · skip
        refine dp_vg rfl rfl (bool_get rfl hg) (v_move rfl) (dp_vg rfl rfl (bool_get rfl hg) (v_nilCheck rfl) (dp_vg rfl rfl (bool_get rfl hg) (v_fieldAddr rfl fa100_1 rfl) (dr_vg rfl rfl (bool_get rfl hg) (v_ld rfl ld95) ?_)))
        refine dp_vg rfl rfl (bool_get rfl hg) (v_move rfl) (dr_clrg rfl rfl (bool_get rfl hg) rfl rfl en72 rfl (begins_ct (l := L.y) (s := μ.y) oy) ?_)
        refine dp_v rfl (v_pick_true (bool_ev rfl hg) rfl) ?_
        exact hcut _ (ssub_head (by first | rfl | (rw [hg]; rfl) | simp_all) (ssub_skip rfl (ssub_skip rfl (ssub_skip rfl (ssub_skip rfl (ssub_skip rfl (ssub_skip rfl (ssub_refl))))))))
      refine dp_v rfl (v_move rfl) (dr_cut (k := 8) (d := 72) (v := .bool (((r && μ.n.begins t) && μ.y.begins val) && !μ.kn.contains (t, f))) (fun hcut => bool_want (b := (r && μ.n.begins t) && μ.y.begins val) true (fun hg => ?_) (fun hg => ?_)) ?_)
      · refine dp_sk rfl rfl rfl hg ?_
        refine dp_sk rfl rfl rfl hg ?_
        refine dp_sk rfl rfl rfl hg ?_
        refine dr_sk rfl rfl rfl hg ?_
        refine dr_sk rfl rfl rfl hg ?_
        refine dr_sk rfl rfl rfl hg ?_
        refine dp_sk rfl rfl rfl hg ?_
        refine dp_v rfl (v_pick_false (bool_ev rfl hg) rfl) ?_
        exact hcut _ (ssub_head (by first | rfl | (rw [hg]; rfl) | simp_all) (ssub_skip rfl (ssub_skip rfl (ssub_skip rfl (ssub_skip rfl (ssub_skip rfl (ssub_skip rfl (ssub_skip rfl (ssub_refl)))))))))
      · skip
        refine dp_vg rfl rfl (bool_get rfl hg) (v_move rfl) (dp_vg rfl rfl (bool_get rfl hg) (v_nilCheck rfl) (dp_vg rfl rfl (bool_get rfl hg) (v_fieldAddr rfl fa100_4 rfl) (dr_vg rfl rfl (bool_get rfl hg) (v_ld rfl ld98) ?_)))
        refine dr_vg rfl rfl (bool_get rfl hg) (v_loadW rfl ld131 rfl (by repeat (first | exact Sel.here | apply Sel.there))) ?_
        refine dr_clrg rfl rfl (bool_get rfl hg) rfl rfl en73 rfl (contains_ct (v := L.vk) (l := μ.kn) (x := (t, f)) hkn) ?_
        refine dp_vg rfl rfl (bool_get rfl hg) (v_not rfl) (dp_v rfl (v_pick_true (bool_ev rfl hg) rfl) ?_)
        exact hcut _ (ssub_head (by first | rfl | (rw [hg]; rfl) | simp_all) (ssub_skip rfl (ssub_skip rfl (ssub_skip rfl (ssub_skip rfl (ssub_skip rfl (ssub_skip rfl (ssub_skip rfl (ssub_refl)))))))))
      refine dr_nil (nx_kp [0, 8, 14, 72] rfl (nx_then (cd_cond rfl (fun hd => ?_) (fun hd => ?_))))
      · skip
        refine cd_draw (ork [(0, 2), (1, 2), (2, 2), (3, 2), (4, 1), (5, 1), (6, 0), (7, 0), (8, 2), (9, 2), (10, 0)] .nil) (fun i => !(Nat.beq i 7 || Nat.beq i 10)) [mb L μ, pt b14 (cl [.int .i64 t, .int .i64 f] 131)] mixed (by kernel_rfl) ?_
        refine dp_v rfl (v_move rfl) (dp_v rfl (v_move rfl) (dp_v rfl (v_nilCheck rfl) (dp_v rfl (v_fieldAddr rfl fa100_4 rfl) (dr_v rfl (v_ld rfl ld98) ?_))))
        refine dr_v rfl (v_loadW rfl ld131 rfl (by repeat (first | exact Sel.here | apply Sel.there))) ?_
        rw [if_pos hd]
        refine dr_eff rfl (st_buildSlice (cells := [.int .i64 t, .int .i64 f]) rfl Try.underlying98 inf131 rfl rfl (by kernel_rfl) (ltn rfl) fun b79 => dr_nx ?_)
        refine dr_eff rfl (st_append (news := [.int .i64 t, .int .i64 f]) rfl rfl Try.underlying98 inf131 rfl (ltn rfl) (by repeat (first | exact Sel.here | apply Sel.there)) rfl (fun j u hu => by repeat (first | exact at_here (rd_cl (by simpa using hu)) | apply at_there)) (ones rfl) (by omega) (by omega) (ltn rfl) fun vk hvk hv1 => dr_nx ?_)
        refine dp_v rfl (v_nilCheck rfl) (dp_v rfl (v_fieldAddr rfl fa100_4 rfl) (dr_eff rfl (st_sto rfl rfl sz98 (dr_nx ?_))))
        refine dr_nil (nx_kp [8] rfl (nx_then (cd_seq (cd_region (st_v (v_assign rfl) (st_nil (nx_then (cd_ret ?_))))))))
        have ek : knR { L with vk := vk } { μ with n := μ.n.setw (t + 1 + f - μ.n.fr).toNat val, kn := μ.kn ++ [(t, f)] } = vec vk 131 2 (μ.kn.length + 1) (kc μ.kn ++ [.int .i64 t, .int .i64 f]) := by
          unfold knR; rw [kc_append]; simp only [List.length_append, List.length_cons, List.length_nil]; rfl
        refine xt_ret rfl ⟨rfl, vk, rfl⟩ ?_
        show Ck.Sub ([mb { L with vk := vk } μ, sb L.y μ.y, tb L.y μ.y, wb L.y μ.y, sb L.n (μ.n.setw (t + 1 + f - μ.n.fr).toNat val), tb L.n μ.n, wb L.n (μ.n.setw (t + 1 + f - μ.n.fr).toNat val), knR { L with vk := vk } { μ with n := μ.n.setw (t + 1 + f - μ.n.fr).toNat val, kn := μ.kn ++ [(t, f)] }, S] ++ hr) _
        rw [ek, sb_setw]
        exact (by repeat (first | exact Sub.refl _ | exact Sub.nil _ | refine Sub.sel (by repeat (first | exact Sel.here | apply Sel.there)) ?_ | apply Sub.cons))
      · skip
        refine cd_skip (xt_then (cd_seq (cd_region (st_v (v_assign rfl) (st_nil (nx_kp [8] rfl (nx_then (cd_ret ?_))))))))
        rw [if_neg (by rw [hd]; simp)]
        refine xt_ret rfl ⟨rfl, L.vk, rfl⟩ ?_
        show Ck.Sub ([mb L μ, sb L.y μ.y, tb L.y μ.y, wb L.y μ.y, sb L.n (μ.n.setw (t + 1 + f - μ.n.fr).toNat val), tb L.n μ.n, wb L.n (μ.n.setw (t + 1 + f - μ.n.fr).toNat val), knR L μ, S] ++ hr) _
        rw [sb_setw]
        exact (by repeat (first | exact Sub.refl _ | exact Sub.nil _ | refine Sub.sel (by repeat (first | exact Sel.here | apply Sel.there)) ?_ | apply Sub.cons))
end Go.Proofs.Ytmhmpjgkkpbnnaa
namespace Go.Proofs.Ytmhmpjgkkpbnnaa
open Go.Ck Fx Go.Hm
attribute [local irreducible] St Cd Xt Nx DrL LsW

/-- The word of a field. -/
def Mem.fw (μ : Mem) (t f : Int) : Int := if μ.y.begins t then μ.y.ws.getD (t + 1 + f - μ.y.fr).toNat 0 else μ.n.ws.getD (t + 1 + f - μ.n.fr).toNat 0
def Mem.get (μ : Mem) (t f : Int) : Int × Int × Mem :=
  if μ.fe t f ≠ 0 then (0, μ.fe t f, μ) else
  if μ.ref t f && μ.bu then ((μ.fwd μ.o true (μ.fw t f)).1, 0, (μ.fwd μ.o true (μ.fw t f)).2.putw t f (μ.fwd μ.o true (μ.fw t f)).1) else (μ.fw t f, 0, μ)
def getSH (L : MemL) (μ : Mem) (S : Res) : SH := [mb L μ, sb L.y μ.y, tb L.y μ.y, wb L.y μ.y, sb L.n μ.n, tb L.n μ.n, wb L.n μ.n, sb L.o μ.o, wb L.o μ.o, tb L.o μ.o, mpr L.mvb (mvv μ.mv), S]
theorem fwd_y (μ : Mem) (s : Sp) (o : Bool) (t : Int) : (μ.fwd s o t).2.y = μ.y := by
  unfold Mem.fwd; split
  · split <;> rfl
  · rfl
theorem fwd_o (μ : Mem) (s : Sp) (o : Bool) (t : Int) : (μ.fwd s o t).2.o = μ.o := by
  unfold Mem.fwd; split
  · split <;> rfl
  · rfl
theorem fwd_fr (μ : Mem) (s : Sp) (o : Bool) (t : Int) : (μ.fwd s o t).2.n.fr = μ.n.fr := by
  unfold Mem.fwd; split
  · split <;> rfl
  · rfl
theorem fwd_len {μ : Mem} {s : Sp} {o : Bool} {t : Int} (h : s.begins t = true → ml μ.mv t = none → μ.n.us + (s.obj t (μ.osz s t)).length ≤ μ.n.ws.length) : (μ.fwd s o t).2.n.ws.length = μ.n.ws.length := by
  unfold Mem.fwd; split
  · rename_i hb
    split
    · rfl
    · rename_i hm; simp only [Sp.move]; exact spl_length _ _ _ (h hb hm)
  · rfl
set_option maxRecDepth 100000 in
theorem get_ct {L : MemL} {μ : Mem} {S : Res} {t f : Int} (oy : μ.y.Ok) (on : μ.n.Ok) (oo : μ.o.Ok) (hne : L.y.sb ≠ L.n.sb) (hS : Shp S L.vs μ.sh) (hl : ShOk μ.sh) (py : SpOk μ.sh μ.y) (pn : SpOk μ.sh μ.n) (po : SpOk μ.sh μ.o)
    (hle : 0 ≤ μ.le ∧ μ.le ≤ 1000000) (hroom : μ.bu = true → μ.o.begins (μ.fw t f) = true → ml μ.mv (μ.fw t f) = none → μ.n.us + μ.osz μ.o (μ.fw t f) ≤ μ.n.ws.length) :
    Ct Try.prog 41 #[.pointer (some ⟨L.mb, 0, none⟩), .int .i64 t, .int .i64 f] (getSH L μ S) fun v h' => v = .tuple #[.int .i64 (μ.get t f).1, .int .i64 (μ.get t f).2.1] ∧ h' = getSH L (μ.get t f).2.2 S := by
  have h1y := oy.us; have h1n := on.us
  obtain ⟨p, r, er, hF⟩ := fld_total L μ t f
  unfold getSH Mem.get
  refine ct_of (n := 39) Try.func41 rfl rfl (len rfl) fun hr w0 => ?_
  refine cd_seq (cd_region (st_v (v_assign rfl) (st_v (v_assign rfl) (st_nil (nx_then (cd_seq (cd_region (st_v (v_move rfl) (st_v (v_move rfl) (st_v (v_move rfl) (st_clr rfl rfl en92 rfl (field_ct hF oy on hne hS hl py pn) ?_)))))))))))
  refine st_v (v_move rfl) (st_v (v_extract rfl rfl) (st_v (v_extract rfl rfl) (st_v (v_extract rfl rfl) (st_v (v_assign rfl) (st_v (v_assign rfl) (st_v (v_assign rfl) (st_nil (nx_kp [0, 6, 7, 8, 9, 10] rfl (nx_then (cd_seq (cd_seq (cd_region (st_v (v_move rfl) (st_v (v_neq rfl rfl) (st_nil (nx_kp [0, 6, 7, 8, 9, 10, 20] rfl (nx_then ?_)))))))))))))))))
  rcases fld_cases hF py pn with ⟨h1, h2, rfl⟩ | ⟨rfl, hfe, hrf, hb, rfl, hbd⟩ | ⟨rfl, hfe, hrf, hby, hb, rfl, hbd⟩
  · skip
    rw [h2, if_pos h1]
    rw [show (er != 0) = true by simpa using h1]
    refine cd_true rfl ?_
    refine cd_seq (cd_region (st_v (v_move rfl) (st_v (v_assign rfl) (st_v (v_assign rfl) (st_nil (nx_kp [0, 6, 7, 8, 9] rfl (nx_then (cd_ret (xt_ret_then ?_)))))))))
    exact xt_rt rfl ⟨rfl, rfl⟩
  · skip
    have hfw : μ.fw t f = μ.y.ws.getD (t + 1 + f - μ.y.fr).toNat 0 := by unfold Mem.fw; rw [if_pos hb]
    have hls : (ints μ.y.ws ++ L.y.wj)[(t + 1 + f - μ.y.fr).toNat]? = some (.int .i64 (μ.fw t f)) := by
      rw [hfw, List.getElem?_append_left (by rw [ints_length]; omega), getD_lt (by omega)]
      simp [ints, show (t + 1 + f - μ.y.fr).toNat < μ.y.ws.length by omega]
    have hrw : Rd (wb L.y μ.y) ⟨L.y.wb, (t + 1 + f - μ.y.fr).toNat, none⟩ (.int .i64 (μ.fw t f)) := rd_cl hls
    rw [if_neg (by rw [hfe]; simp), hrf]
    refine cd_false rfl ?_
    refine cd_skip (xt_then (cd_seq (cd_seq (cd_region (st_v (v_move rfl) (st_v (v_move rfl) (st_cut (k := 7) (d := 28) (v := .bool (r && μ.bu)) (fun hcut => bool_want (b := r) true (fun hg => ?_) (fun hg => ?_)) ?_)))))))
    · refine st_sk rfl rfl hg ?_
      refine st_sk rfl rfl hg ?_
      refine st_sk rfl rfl hg ?_
      refine st_sk rfl rfl hg ?_
      refine st_v (v_pick_false (bool_ev rfl hg) rfl) ?_
      exact hcut _ (ssub_head (by first | rfl | (rw [hg]; rfl) | simp_all) (ssub_skip rfl (ssub_skip rfl (ssub_skip rfl (ssub_skip rfl (ssub_refl))))))
    · skip
      refine st_vg rfl (bool_get rfl hg) (v_move rfl) (st_vg rfl (bool_get rfl hg) (v_nilCheck rfl) (st_vg rfl (bool_get rfl hg) (v_fieldAddr rfl fa100_5 rfl) (st_vg rfl (bool_get rfl hg) (v_ld rfl ld4) ?_)))
      refine st_v (v_pick_true (bool_ev rfl hg) rfl) ?_
      exact hcut _ (ssub_head (by first | rfl | (rw [hg]; rfl) | simp_all) (ssub_skip rfl (ssub_skip rfl (ssub_skip rfl (ssub_skip rfl (ssub_refl))))))
    refine st_nil (nx_kp [0, 6, 7, 8, 28] rfl (nx_then (cd_cond rfl (fun hc => ?_) (fun hc => ?_))))
    · skip
      have hbu : μ.bu = true := by simp at hc; exact hc.2
      rw [if_pos hc]
      refine cd_region (st_v (v_move rfl) (st_v (v_move rfl) (st_v (v_nilCheck rfl) (st_v (v_fieldAddr rfl fa100_3 rfl) (st_v (v_ld rfl ld95) ?_)))))
      refine st_v (v_move rfl) (st_cl rfl rfl en81 rfl (fwdO_ct (L := L) (μ := μ) (S := S) (b := L.y.wb) (T := 3) hls oo on hS hl po hle (hroom hbu)) ?_)
      rintro v h' ⟨rfl, rfl⟩
      have hrw2 : Rd (pt L.y.wb (cl ((ints μ.y.ws ++ L.y.wj).set (t + 1 + f - μ.y.fr).toNat (.int .i64 (μ.fwd μ.o true (μ.fw t f)).1)) 3)) ⟨L.y.wb, (t + 1 + f - μ.y.fr).toNat, none⟩ (.int .i64 (μ.fwd μ.o true (μ.fw t f)).1) :=
        rd_cl (by rw [List.getElem?_set_self (by simp [ints_length]; omega)])
      unfold fwSHO
      simp only [List.cons_append, List.nil_append]
      refine st_nil (nx_kp [6, 7, 8] rfl (nx_then (cd_seq (cd_region (st_v (v_move rfl) (st_v (v_nilCheck rfl) (st_v (v_ld rfl ld3) ?_)))))))
      refine st_v (v_assign rfl) (st_v (v_assign rfl) (st_nil (nx_kp [6, 7] rfl (nx_then (cd_ret (xt_ret rfl ⟨rfl, rfl⟩ ?_))))))
      have hp : (μ.fwd μ.o true (μ.fw t f)).2.putw t f (μ.fwd μ.o true (μ.fw t f)).1 = { (μ.fwd μ.o true (μ.fw t f)).2 with y := μ.y.setw (t + 1 + f - μ.y.fr).toNat (μ.fwd μ.o true (μ.fw t f)).1 } := by
        unfold Mem.putw; rw [fwd_y, if_pos hb]
      rw [hp]
      generalize hq : μ.fwd μ.o true (μ.fw t f) = q
      have ho : q.2.o = μ.o := by rw [← hq, fwd_o]
      show Ck.Sub ([mb L q.2, sb L.y (μ.y.setw (t + 1 + f - μ.y.fr).toNat q.1), tb L.y μ.y, wb L.y (μ.y.setw (t + 1 + f - μ.y.fr).toNat q.1), sb L.n q.2.n, tb L.n q.2.n, wb L.n q.2.n, sb L.o q.2.o, wb L.o q.2.o, tb L.o q.2.o, mpr L.mvb (mvv q.2.mv), S] ++ hr) _
      rw [wb_setw (by omega), sb_setw]
      exact (by repeat (first | exact Sub.refl _ | exact Sub.nil _ | refine Sub.sel (by repeat (first | exact Sel.here | apply Sel.there)) ?_ | apply Sub.cons))
    · skip
      refine cd_skip (xt_then (cd_seq (cd_region (st_v (v_move rfl) (st_v (v_nilCheck rfl) (st_v (v_ld rfl ld3) ?_))))))
      refine st_v (v_assign rfl) (st_v (v_assign rfl) (st_nil (nx_kp [6, 7] rfl (nx_then (cd_ret ?_)))))
      rw [if_neg (by rw [hc]; simp)]
      exact xt_rt rfl ⟨rfl, rfl⟩
  · skip
    have hfw : μ.fw t f = μ.n.ws.getD (t + 1 + f - μ.n.fr).toNat 0 := by unfold Mem.fw; rw [hby, if_neg (by simp)]
    have hrw : Rd (wb L.n μ.n) ⟨L.n.wb, (t + 1 + f - μ.n.fr).toNat, none⟩ (.int .i64 (μ.fw t f)) := by rw [hfw]; exact rd_ints (by omega)
    rw [if_neg (by rw [hfe]; simp), hrf]
    refine cd_false rfl ?_
    refine cd_skip (xt_then (cd_seq (cd_seq (cd_region (st_v (v_move rfl) (st_v (v_move rfl) (st_cut (k := 7) (d := 28) (v := .bool (r && μ.bu)) (fun hcut => bool_want (b := r) true (fun hg => ?_) (fun hg => ?_)) ?_)))))))
    · refine st_sk rfl rfl hg ?_
      refine st_sk rfl rfl hg ?_
      refine st_sk rfl rfl hg ?_
      refine st_sk rfl rfl hg ?_
      refine st_v (v_pick_false (bool_ev rfl hg) rfl) ?_
      exact hcut _ (ssub_head (by first | rfl | (rw [hg]; rfl) | simp_all) (ssub_skip rfl (ssub_skip rfl (ssub_skip rfl (ssub_skip rfl (ssub_refl))))))
    · skip
      refine st_vg rfl (bool_get rfl hg) (v_move rfl) (st_vg rfl (bool_get rfl hg) (v_nilCheck rfl) (st_vg rfl (bool_get rfl hg) (v_fieldAddr rfl fa100_5 rfl) (st_vg rfl (bool_get rfl hg) (v_ld rfl ld4) ?_)))
      refine st_v (v_pick_true (bool_ev rfl hg) rfl) ?_
      exact hcut _ (ssub_head (by first | rfl | (rw [hg]; rfl) | simp_all) (ssub_skip rfl (ssub_skip rfl (ssub_skip rfl (ssub_skip rfl (ssub_refl))))))
    refine st_nil (nx_kp [0, 6, 7, 8, 28] rfl (nx_then (cd_cond rfl (fun hc => ?_) (fun hc => ?_))))
    · skip
      have hbu : μ.bu = true := by simp at hc; exact hc.2
      rw [if_pos hc]
      refine cd_region (st_v (v_move rfl) (st_v (v_move rfl) (st_v (v_nilCheck rfl) (st_v (v_fieldAddr rfl fa100_3 rfl) (st_v (v_ld rfl ld95) ?_)))))
      refine st_v (v_move rfl) (st_cl rfl rfl en81 rfl (fwdOn_ct (L := L) (μ := μ) (S := S) (off := (t + 1 + f - μ.n.fr).toNat) (by omega) hfw.symm oo on hS hl po hle (hroom hbu)) ?_)
      rintro v h' ⟨rfl, rfl⟩
      have hlen : (μ.fwd μ.o true (μ.fw t f)).2.n.ws.length = μ.n.ws.length := fwd_len (fun h1 h2 => by
        have := hroom hbu h1 h2
        have h3 := po _ h1
        have h4 := begins_bd h1
        have h5 := oo.us
        rw [obj_length (by unfold Mem.osz; omega)]
        exact this)
      have hrw2 : Rd (wb L.n ((μ.fwd μ.o true (μ.fw t f)).2.n.setw (t + 1 + f - μ.n.fr).toNat (μ.fwd μ.o true (μ.fw t f)).1)) ⟨L.n.wb, (t + 1 + f - μ.n.fr).toNat, none⟩ (.int .i64 (μ.fwd μ.o true (μ.fw t f)).1) := by
        rw [wb_setw (by omega)]
        exact rd_cl (by rw [List.getElem?_set_self (by simp [ints_length]; omega)])
      unfold fwSHO
      simp only [List.cons_append, List.nil_append]
      refine st_nil (nx_kp [6, 7, 8] rfl (nx_then (cd_seq (cd_region (st_v (v_move rfl) (st_v (v_nilCheck rfl) (st_v (v_ld rfl ld3) ?_)))))))
      refine st_v (v_assign rfl) (st_v (v_assign rfl) (st_nil (nx_kp [6, 7] rfl (nx_then (cd_ret (xt_ret rfl ⟨rfl, rfl⟩ ?_))))))
      have hp : (μ.fwd μ.o true (μ.fw t f)).2.putw t f (μ.fwd μ.o true (μ.fw t f)).1 = { (μ.fwd μ.o true (μ.fw t f)).2 with n := (μ.fwd μ.o true (μ.fw t f)).2.n.setw (t + 1 + f - μ.n.fr).toNat (μ.fwd μ.o true (μ.fw t f)).1 } := by
        unfold Mem.putw; rw [if_neg (by rw [fwd_y, hby]; simp), fwd_fr]
      have hy : (μ.fwd μ.o true (μ.fw t f)).2.y = μ.y := fwd_y ..
      rw [hp]
      show Ck.Sub ([mb L (μ.fwd μ.o true (μ.fw t f)).2, sb L.y (μ.fwd μ.o true (μ.fw t f)).2.y, tb L.y (μ.fwd μ.o true (μ.fw t f)).2.y, wb L.y (μ.fwd μ.o true (μ.fw t f)).2.y, sb L.n ((μ.fwd μ.o true (μ.fw t f)).2.n.setw (t + 1 + f - μ.n.fr).toNat (μ.fwd μ.o true (μ.fw t f)).1), tb L.n (μ.fwd μ.o true (μ.fw t f)).2.n, wb L.n ((μ.fwd μ.o true (μ.fw t f)).2.n.setw (t + 1 + f - μ.n.fr).toNat (μ.fwd μ.o true (μ.fw t f)).1), sb L.o (μ.fwd μ.o true (μ.fw t f)).2.o, wb L.o (μ.fwd μ.o true (μ.fw t f)).2.o, tb L.o (μ.fwd μ.o true (μ.fw t f)).2.o, mpr L.mvb (mvv (μ.fwd μ.o true (μ.fw t f)).2.mv), S] ++ hr) _
      rw [hy]
      exact (by repeat (first | exact Sub.refl _ | exact Sub.nil _ | refine Sub.sel (by repeat (first | exact Sel.here | apply Sel.there)) ?_ | apply Sub.cons))
    · skip
      refine cd_skip (xt_then (cd_seq (cd_region (st_v (v_move rfl) (st_v (v_nilCheck rfl) (st_v (v_ld rfl ld3) ?_))))))
      refine st_v (v_assign rfl) (st_v (v_assign rfl) (st_nil (nx_kp [6, 7] rfl (nx_then (cd_ret ?_)))))
      rw [if_neg (by rw [hc]; simp)]
      exact xt_rt rfl ⟨rfl, rfl⟩
end Go.Proofs.Ytmhmpjgkkpbnnaa
namespace Go.Proofs.Ytmhmpjgkkpbnnaa
open Go.Ck Fx Go.Hm
attribute [local irreducible] St Cd Xt Nx DrL LsW

set_option maxRecDepth 100000 in
theorem busy_ct {L : MemL} {μ : Mem} : Reads Try.prog 23 #[.pointer (some ⟨L.mb, 0, none⟩)] [mb L μ] (.bool μ.bu) := by
  refine ct_of (n := 11) Try.func23 rfl rfl (len rfl) fun hr w0 => ?_
  refine cd_seq (cd_region (st_v (v_assign rfl) (st_nil (nx_then (cd_seq (cd_region (st_v (v_move rfl) (st_clr rfl rfl en67 rfl (made_ct (L := L) (μ := μ)) ?_))))))))
  refine st_v (v_move rfl) (st_vg rfl rfl (v_move rfl) (st_vg rfl rfl (v_nilCheck rfl) (st_vg rfl rfl (v_fieldAddr rfl fa100_5 rfl) (st_vg rfl rfl (v_ld rfl ld4) ?_))))
  refine st_v (v_pick_true rfl rfl) (st_v (v_assign rfl) (st_nil (nx_kp [2] rfl (nx_then (cd_ret ?_)))))
  exact xt_rt rfl ⟨rfl, rfl⟩
set_option maxRecDepth 100000 in
theorem room2_ct {L : MemL} {μ : Mem} : Reads Try.prog 24 #[.pointer (some ⟨L.mb, 0, none⟩)] [mb L μ, sb L.y μ.y, sb L.n μ.n] (.agg #[.int .i64 μ.y.us, .int .i64 μ.n.us, .int .i64 μ.le]) := by
  refine ct_of (n := 28) Try.func24 rfl rfl (len rfl) fun hr w0 => ?_
  refine cd_seq (cd_region (st_alc al54 fun b2 => ?_))
  refine st_nil (nx_then (cd_seq (cd_seq (cd_region (st_v (v_move rfl) (st_clr rfl rfl en67 rfl (made_ct (L := L) (μ := μ)) ?_))))))
  refine st_v (v_not rfl) (st_nil (nx_kp [0, 2, 5] rfl (nx_then (cd_false rfl ?_))))
  refine cd_skip (xt_then (cd_seq (cd_drawh (ork [(0, 2), (1, 2), (2, 2), (3, 1), (4, 2), (5, 2), (6, 2), (7, 1), (8, 2), (9, 2), (10, 2), (11, 1), (12, 2), (13, 2), (14, 2), (15, 1), (16, 2), (17, 2), (18, 2), (19, 1), (20, 2), (21, 0)] .nil) (fun i => !(Nat.beq i 21)) mixed (by kernel_rfl) ?_)))
  refine dp_v rfl (v_move rfl) (dp_v rfl (v_nilCheck rfl) (dp_v rfl (v_fieldAddr rfl fa100_1 rfl) (dr_v rfl (v_ld rfl ld95) ?_)))
  refine dp_v rfl (v_nilCheck rfl) (dp_v rfl (v_fieldAddr rfl fa117_0 rfl) (dp_v rfl (v_fieldAddr rfl fa115_2 rfl) (dr_v rfl (v_ld rfl ld3) ?_)))
  refine dp_v rfl (v_move rfl) (dp_v rfl (v_nilCheck rfl) (dp_v rfl (v_fieldAddr rfl fa100_2 rfl) (dr_v rfl (v_ld rfl ld95) ?_)))
  refine dp_v rfl (v_nilCheck rfl) (dp_v rfl (v_fieldAddr rfl fa117_0 rfl) (dp_v rfl (v_fieldAddr rfl fa115_2 rfl) (dr_v rfl (v_ld rfl ld3) ?_)))
  refine dp_v rfl (v_move rfl) (dp_v rfl (v_nilCheck rfl) (dp_v rfl (v_fieldAddr rfl fa100_8 rfl) (dr_v rfl (v_ld rfl ld3) ?_)))
  refine dp_v rfl (v_build (cells := [.int .i64 μ.y.us, .int .i64 μ.n.us, .int .i64 μ.le]) rfl (fun _ => by kernel_rfl)) ?_
  refine dr_eff rfl (st_stoW rfl rfl sz54 rfl rfl (dr_nx ?_))
  refine dr_nil (nx_kp [2] rfl (nx_then (cd_ret ?_)))
  exact xt_retV (.cellN rfl ld54 rfl (by repeat (first | exact Sel.here | apply Sel.there)) .nil) ⟨rfl, rfl⟩ (by repeat (first | exact Sub.refl _ | exact Sub.nil _ | refine Sub.sel (by repeat (first | exact Sel.here | apply Sel.there)) ?_ | apply Sub.cons))

/-- u is a row of numbers, which r holds. -/
def RowI (r : Res) (u : Value) (l : List Int) : Prop := ∃ a cp, u = .slice a l.length cp ∧ (l = [] ∨ ∃ b o, a = some ⟨b, o, none⟩ ∧ ∀ j (h : j < l.length), Rd r ⟨b, o + j, none⟩ (.int .i64 l[j]))
theorem RowI.at {r : Res} {u : Value} {l : List Int} (h : RowI r u l) {j : Nat} (hj : j < l.length) : ∃ b o cp, u = .slice (some ⟨b, o, none⟩) l.length cp ∧ Rd r ⟨b, o + j, none⟩ (.int .i64 l[j]) := by
  obtain ⟨a, cp, hv, hn⟩ := h
  rcases hn with e | ⟨b, o, ha, hr⟩
  · rw [e] at hj; simp at hj
  exact ⟨b, o, cp, by rw [hv, ha], hr j hj⟩
def Mem.bad (μ : Mem) (r : Int) : Bool := r != 0 && !μ.cur r
def Mem.rooted (μ : Mem) (l : List Int) : Int := if decide (200 < (l.length : Int)) then 3 else if l.any μ.bad then 5 else 0
set_option maxRecDepth 100000 in
theorem rooted_ct {L : MemL} {μ : Mem} {R : Res} {v : Value} {l : List Int} (oy : μ.y.Ok) (on : μ.n.Ok) (hne : L.y.sb ≠ L.n.sb) (hv : RowI R v l) (hl : l.length ≤ 1000000) :
    Reads Try.prog 57 #[.pointer (some ⟨L.mb, 0, none⟩), v] [mb L μ, sb L.y μ.y, tb L.y μ.y, sb L.n μ.n, tb L.n μ.n, R] (.int .i64 (μ.rooted l)) := by
  obtain ⟨a, cp, hv1, _⟩ := id hv
  unfold Mem.rooted
  refine ct_of (n := 36) Try.func57 rfl rfl (len rfl) fun hr w0 => ?_
  refine cd_seq (cd_region (st_v (v_assign rfl) (st_nil (nx_then (cd_seq (cd_block (cd_seq (cd_region (st_v (v_move rfl) (st_clr rfl rfl en67 rfl (made_ct (L := L) (μ := μ)) ?_))))))))))
  refine st_v (v_not rfl) (st_v (v_assign rfl) (st_nil (nx_kp [0, 1, 4, 9] rfl (nx_then (cd_false rfl ?_)))))
  refine cd_seq (cd_region (st_v (v_move rfl) (st_v (v_len (congrArg some hv1) Try.underlying34) (st_v (v_gtr rfl rfl) (st_v (v_assign rfl) (st_nil (nx_kp [0, 1, 4, 13] rfl (nx_then (cd_cond rfl (fun hc => ?_) (fun hc => ?_))))))))))
  · skip
    refine cd_seq (cd_region (st_v (v_assign rfl) (st_nil (nx_kp [0, 1, 4] rfl (nx_then (cd_ret (xt_ret_block (xt_ret_then ?_))))))))
    rw [if_pos hc]
    exact xt_rt rfl ⟨rfl, rfl⟩
  · skip
    rw [if_neg (by rw [hc]; simp)]
    refine cd_skip (xt_normal_block (xt_then (cd_seq (cd_seq (cd_region (st_v (v_move rfl) (st_v (v_len (congrArg some hv1) Try.underlying34) (st_v (v_move rfl) (st_nil (nx_kp [0, 4, 17, 18, 19] rfl (nx_then (cd_block (cd_loop (σ := Nat) (fun i => [(0, .pointer (some ⟨L.mb, 0, none⟩)), (17, v), (18, .int .i64 l.length), (19, .int .i64 i)]) (fun _ => mb L μ :: sb L.y μ.y :: tb L.y μ.y :: sb L.n μ.n :: tb L.n μ.n :: R :: hr) (fun i => i ≤ l.length ∧ ∀ j r, j < i → l[j]? = some r → μ.bad r = false) (fun i => l.length - i) 0 ⟨Nat.zero_le _, fun _ _ h => absurd h (Nat.not_lt_zero _)⟩ ⟨rfl, rfl, rfl, rfl, trivial⟩ (Sub.refl _) ?_)))))))))))))
    rintro i ⟨hi, hne'⟩
    refine cd_seq (cd_region (st_v (v_lss rfl rfl) (st_nil (nx_then (cd_seq (cd_cond rfl (fun hd => ?_) (fun hd => ?_)))))))
    · skip
      have hlt : i < l.length := by simpa using hd
      obtain ⟨b, o, cp', hv2, hrd⟩ := hv.at hlt
      refine cd_skip (xt_then (cd_seq (cd_block (cd_seq (cd_region (st_v (v_ixo i (congrArg some hv2) rfl sl34 rfl hlt) (st_v (v_ld rfl ld3) ?_)))))))
      refine st_v (v_assign rfl) (st_nil (nx_kp [0, 6, 17, 18, 19] rfl (nx_then (cd_seq (cd_region (st_v (v_move rfl) (st_v (v_move rfl) (st_clr rfl rfl en71 rfl (current_ct (L := L) (μ := μ) oy on hne) ?_))))))))
      refine st_v (v_move rfl) (st_v (v_extract rfl rfl) (st_v (v_extract rfl rfl) (st_v (v_assign rfl) (st_v (v_assign rfl) (st_nil (nx_kp [0, 6, 8, 17, 18, 19] rfl (nx_then (cd_seq (cd_region (st_v (v_move rfl) (st_v (v_neq rfl rfl) (st_v (v_move rfl) (st_cut (k := 6) (d := 34) (v := .bool (l[i] != 0 && !μ.cur l[i])) (fun hcut => bool_want (b := l[i] != 0) true (fun hg => ?_) (fun hg => ?_)) ?_)))))))))))))
      · refine st_sk rfl rfl hg ?_
        refine st_sk rfl rfl hg ?_
        refine st_v (v_pick_false (bool_ev rfl hg) rfl) ?_
        exact hcut _ (ssub_head (by first | rfl | (rw [hg]; rfl) | simp_all) (ssub_skip rfl (ssub_skip rfl (ssub_refl))))
      · skip
        refine st_vg rfl (bool_get rfl hg) (v_move rfl) (st_vg rfl (bool_get rfl hg) (v_not rfl) (st_v (v_pick_true (bool_ev rfl hg) rfl) ?_))
        exact hcut _ (ssub_head (by first | rfl | (rw [hg]; rfl) | simp_all) (ssub_skip rfl (ssub_skip rfl (ssub_refl))))
      refine st_nil (nx_kp [0, 17, 18, 19, 34] rfl (nx_then (cd_cond rfl (fun hb => ?_) (fun hb => ?_))))
      · skip
        refine cd_seq (cd_region (st_v (v_assign rfl) (st_nil (nx_kp [0, 4, 17, 18, 19] rfl (nx_then (cd_ret (xt_ret_block (xt_ret_then (xt_ret_then (xt_ret_block (xt_ret_then ?_)))))))))))
        rw [if_pos (List.any_eq_true.2 ⟨l[i], List.getElem_mem hlt, hb⟩)]
        exact xt_rt rfl ⟨rfl, rfl⟩
      · skip
        refine cd_skip (xt_normal_block (xt_then (cd_region (st_v (v_add rfl rfl (by unfold I64 at *; omega)) (st_v (v_move rfl) (st_nil (nx_kp [0, 17, 18, 19] rfl (nx_xt (xt_ag (i + 1) ⟨hlt, fun j r hj hr => ?_⟩ (by omega))))))))))
        by_cases hji : j = i
        · subst hji; rw [List.getElem?_eq_getElem hlt] at hr; cases hr; exact hb
        · exact hne' j r (by omega) hr
    · skip
      refine cd_exit (xt_exit_then (xt_exit_then (xt_exit_block (xt_then (cd_seq (cd_region (st_v (v_assign rfl) (st_nil (nx_kp [4] rfl (nx_then (cd_ret ?_)))))))))))
      have hge : l.length ≤ i := by simpa using hd
      have hall : l.any μ.bad = false := by
        rw [List.any_eq_false]
        intro r hr
        obtain ⟨j, hj, rfl⟩ := List.getElem_of_mem hr
        simp [hne' j l[j] (by omega) (List.getElem?_eq_getElem hj)]
      rw [if_neg (by rw [hall]; simp)]
      exact xt_rt rfl ⟨rfl, rfl⟩

/-- The beginning of the object in which a taken word lies. -/
def back (st : List Bool) : Nat → Nat
  | 0 => 0
  | k + 1 => if st.getD (k + 1) false then k + 1 else back st k
theorem back_here {st : List Bool} {k : Nat} (h : st.getD k false = true) : back st k = k := by
  cases k with
  | zero => rfl
  | succ k => unfold back; rw [if_pos h]
theorem back_not {st : List Bool} {k : Nat} (h : st.getD (k + 1) false = false) : back st (k + 1) = back st k := by
  show (if st.getD (k + 1) false then k + 1 else back st k) = _
  rw [if_neg (by rw [h]; simp)]
theorem back_le (st : List Bool) : ∀ k, back st k ≤ k
  | 0 => Nat.le_refl 0
  | k + 1 => by
    unfold back; split
    · exact Nat.le_refl _
    · exact Nat.le_succ_of_le (back_le st k)
set_option maxRecDepth 100000 in
theorem object_ct {L : MemL} {μ : Mem} {k : Nat} {t : Int} (on : μ.n.Ok) (ht : t = (μ.n.fr : Int) + k) (hk : k < μ.n.ws.length) (hex : ∃ j, j ≤ k ∧ μ.n.st.getD j false = true) :
    Reads Try.prog 80 #[.pointer (some ⟨L.mb, 0, none⟩), .int .i64 t] [mb L μ, sb L.n μ.n, tb L.n μ.n] (.int .i64 ((μ.n.fr : Int) + (back μ.n.st k : Nat))) := by
  have h1 := on.us; have h2 := on.fr; have h3 := on.ws; have h4 := on.st
  subst ht
  refine ct_of (n := 28) Try.func80 rfl rfl (len rfl) fun hr w0 => ?_
  refine cd_seq (cd_region (st_v (v_assign rfl) (st_nil (nx_then (cd_seq (cd_block (cd_loop (σ := Nat) (fun i => [(0, .pointer (some ⟨L.mb, 0, none⟩)), (1, .int .i64 ((μ.n.fr : Int) + (i : Nat)))]) (fun _ => mb L μ :: sb L.n μ.n :: tb L.n μ.n :: hr) (fun i => i ≤ k ∧ back μ.n.st i = back μ.n.st k ∧ ∃ j, j ≤ i ∧ μ.n.st.getD j false = true) (fun i => i) k ⟨Nat.le_refl _, rfl, hex⟩ ⟨rfl, rfl, trivial⟩ (Sub.refl _) ?_)))))))
  rintro i ⟨hi, hb, j, hj, hst⟩
  have hrd : Rd (tb L.n μ.n) ⟨L.n.tb, i, none⟩ (.bool (μ.n.st.getD i false)) := rd_bools (by omega)
  refine cd_seq (cd_seq (cd_drawh (ork [(0, 2), (1, 2), (2, 2), (3, 1), (4, 2), (5, 2), (6, 1), (7, 2), (8, 2), (9, 2), (10, 2), (11, 1), (12, 2), (13, 2), (14, 2), (15, 1), (16, 2), (17, 2), (18, 1), (19, 2)] .nil) (fun _ => true) mixed (by kernel_rfl) ?_))
  refine dp_v rfl (v_move rfl) (dp_v rfl (v_nilCheck rfl) (dp_v rfl (v_fieldAddr rfl fa100_2 rfl) (dr_v rfl (v_ld rfl ld95) ?_)))
  refine dp_v rfl (v_nilCheck rfl) (dp_v rfl (v_fieldAddr rfl fa117_1 rfl) (dr_v rfl (v_ld rfl ld73) ?_))
  refine dp_v rfl (v_move rfl) (dp_v rfl (v_move rfl) (dp_v rfl (v_nilCheck rfl) (dp_v rfl (v_fieldAddr rfl fa100_2 rfl) (dr_v rfl (v_ld rfl ld95) ?_))))
  refine dp_v rfl (v_nilCheck rfl) (dp_v rfl (v_fieldAddr rfl fa117_0 rfl) (dp_v rfl (v_fieldAddr rfl fa115_1 rfl) (dr_v rfl (v_ld rfl ld3) ?_)))
  refine dp_v rfl (v_sub rfl rfl (by unfold I64 at *; omega)) (dp_v rfl (v_idx i rfl rfl sl73 (by omega) (by omega)) (dr_v rfl (v_ld rfl ld4) ?_))
  refine dp_v rfl (v_not rfl) (dr_nil (nx_kp [0, 1, 24] rfl (nx_then (cd_cond rfl (fun hc => ?_) (fun hc => ?_)))))
  · skip
    have hc' : μ.n.st.getD i false = false := by simpa using hc
    have hpos : 0 < i := by
      rcases Nat.eq_zero_or_pos i with h | h
      · subst h; have : j = 0 := by omega
        subst this; rw [hc'] at hst; cases hst
      · exact h
    obtain ⟨i', rfl⟩ : ∃ i', i = i' + 1 := ⟨i - 1, by omega⟩
    refine cd_skip (xt_then (cd_block (cd_region (st_v (v_move rfl) (st_v (v_sub rfl rfl (by unfold I64 at *; omega)) (st_v (v_assign rfl) (st_nil (nx_kp [0, 1] rfl (nx_xt (xt_normal_block ?_))))))))))
    rw [show (μ.n.fr : Int) + ((i' + 1 : Nat) : Int) - 1 = (μ.n.fr : Int) + (i' : Nat) by omega]
    refine xt_ag i' ⟨by omega, by rw [← hb, back_not hc'], j, ?_, hst⟩ (by omega)
    rcases Nat.lt_or_ge j (i' + 1) with h | h
    · omega
    · have : j = i' + 1 := by omega
      subst this; rw [hc'] at hst; cases hst
  · skip
    have hc' : μ.n.st.getD i false = true := by simpa using hc
    rw [← hb, back_here hc']
    refine cd_exit (xt_exit_then (xt_exit_then (xt_exit_block (xt_then (cd_seq (cd_region (st_v (v_move rfl) (st_v (v_assign rfl) (st_nil (nx_kp [4] rfl (nx_then (cd_ret ?_))))))))))))
    exact xt_rt rfl ⟨rfl, rfl⟩
end Go.Proofs.Ytmhmpjgkkpbnnaa
