/-
  Step: what a number of steps of the scan does. Conditions: an invariant of the memory, under which each step is right.
  needed: the words of the young objects that roots and remembered fields reach. Conditions: what the heap holds, that sizes are small.
  A row that a slice owns, opened and shut. Generic: nothing of the program is named here. No condition.
  needed: the words of the young objects that roots and remembered fields reach. Conditions: what the heap holds, that sizes are small, that remembered fields lie in the present half.
  A clone of a row of numbers; minor, Minor. Conditions: what the heap holds, that sizes are small, an invariant under which each step is right.
  Lists of numbers held against each other (SameInts); the error of the sizes of a memory (sized); a clone of a row of truths. Conditions: what the heap holds.
  The error of the sizes of a memory (sized). Conditions: what the heap holds.
  New: an empty memory, or an error. Conditions: what the heap holds, that sizes are small.
  What the methods of a nil memory return. No condition.
  minor: the young space is emptied. Conditions: what the heap holds, that sizes are small, that there is room at each step.
-/
import Derived.Test.YtmhmpjgkkpbnnaaM6
import Derived.Test.YtmhmpjgkkpbnnaaM2
namespace Go.Proofs.Ytmhmpjgkkpbnnaa
open Go.Ck Fx Go.Hm
attribute [local irreducible] St Cd Xt Nx DrL LsW

def Mem.sk (μ : Mem) : Nat := (μ.sc - μ.n.fr).toNat
/-- The object that is scanned, its shape, the place in it. -/
def Mem.so (μ : Mem) : Nat := back μ.n.st μ.sk
def Mem.sx (μ : Mem) : Int := μ.n.ws.getD μ.so 0
def Mem.sf (μ : Mem) : Int := μ.sc - ((μ.n.fr : Int) + (μ.so : Nat)) - 1
def Mem.isRef (μ : Mem) : Bool := decide (0 ≤ μ.sf) && (shAt μ.sh μ.sx).getD μ.sf.toNat false
def Mem.sw (μ : Mem) : Int := μ.n.ws.getD μ.sk 0
def Mem.send (μ : Mem) : Int := (μ.n.fr : Int) + (μ.n.us : Int)
def Mem.step1 (μ : Mem) : Mem :=
  if μ.isRef then { (μ.fwd μ.o true μ.sw).2 with n := (μ.fwd μ.o true μ.sw).2.n.setw μ.sk (μ.fwd μ.o true μ.sw).1, sc := (μ.fwd μ.o true μ.sw).2.sc + 1 } else { μ with sc := μ.sc + 1 }
def Mem.steps : Nat → Mem → Mem
  | 0, μ => μ
  | k + 1, μ => if μ.sc == μ.send then μ else steps k μ.step1
def Mem.sleft (μ : Mem) : Int := μ.send - μ.sc
def Mem.stepEnd (μ : Mem) : Mem := if μ.sleft == 0 then { μ with bu := false, le := 0, mv := [], o := μ.o.empty } else μ
def Mem.step (μ : Mem) (w : Int) : Int × Int × Mem :=
  if decide (w < 0) then (0, 1, μ) else if !μ.bu then (0, 0, μ) else ((Mem.steps w.toNat μ).sleft, 0, (Mem.steps w.toNat μ).stepEnd)
theorem steps_done {μ : Mem} (h : μ.sc = μ.send) (k : Nat) : Mem.steps k μ = μ := by
  cases k with
  | zero => rfl
  | succ k => unfold Mem.steps; rw [if_pos (by simp [h])]
theorem steps_more {μ : Mem} (h : μ.sc ≠ μ.send) (k : Nat) : Mem.steps (k + 1) μ = Mem.steps k μ.step1 := by
  show (if μ.sc == μ.send then μ else Mem.steps k μ.step1) = _
  rw [if_neg (by simpa using h)]
theorem fwd_sc (μ : Mem) (s : Sp) (o : Bool) (t : Int) : (μ.fwd s o t).2.sc = μ.sc := by
  unfold Mem.fwd; split
  · split <;> rfl
  · rfl
structure StepPre (μ : Mem) : Prop where
  n : μ.n.Ok
  o : μ.o.Ok
  po : SpOk μ.sh μ.o
  shl : ShOk μ.sh
  opos : 0 < μ.o.st.length
  sc0 : (μ.n.fr : Int) ≤ μ.sc
  sc1 : μ.sc ≤ μ.send
  ex : μ.sc ≠ μ.send → ∃ j, j ≤ μ.sk ∧ μ.n.st.getD j false = true
  x0 : μ.sc ≠ μ.send → 0 ≤ μ.sx ∧ μ.sx < μ.sh.length ∧ μ.sf < ((shAt μ.sh μ.sx).length : Int)
  le : 0 ≤ μ.le ∧ μ.le ≤ 1000000
  room : μ.sc ≠ μ.send → μ.isRef = true → μ.o.begins μ.sw = true → ml μ.mv μ.sw = none → μ.n.us + μ.osz μ.o μ.sw ≤ μ.n.ws.length
set_option maxHeartbeats 2000000 in
set_option maxRecDepth 100000 in
theorem step_ct {L : MemL} {μ0 : Mem} {S : Res} {w : Int} (I : Mem → Prop) (h0 : μ0.bu = true → I μ0) (hI : ∀ μ, I μ → StepPre μ ∧ Shp S L.vs μ.sh ∧ (μ.sc ≠ μ.send → I μ.step1)) (hw : I64 w) :
    Ct Try.prog 31 #[.pointer (some ⟨L.mb, 0, none⟩), .int .i64 w] (fwSHO L μ0 S) fun v h' => v = .tuple #[.int .i64 (μ0.step w).1, .int .i64 (μ0.step w).2.1] ∧ ∃ mvb, h' = fwSHO { L with mvb := mvb } (μ0.step w).2.2 S := by
  unfold Mem.step
  refine ct_of (n := 148) Try.func31 rfl rfl (len rfl) fun hr w0 => ?_
  refine cd_seq (cd_region (st_v (v_assign rfl) (st_v (v_assign rfl) (st_nil (nx_then (cd_scope (cd_seq (cd_block (cd_seq (cd_region (st_v (v_move rfl) (st_clr rfl rfl en67 rfl (made_ct (L := L) (μ := μ0)) ?_))))))))))))
  refine st_v (v_not rfl) (st_v (v_assign rfl) (st_nil (nx_kp [0, 1, 4, 5, 9] rfl (nx_then (cd_false rfl ?_)))))
  refine cd_seq (cd_region (st_v (v_move rfl) (st_v (v_lss rfl rfl) (st_v (v_assign rfl) (st_nil (nx_kp [0, 1, 4, 5, 13] rfl (nx_then (cd_cond rfl (fun hc => ?_) (fun hc => ?_)))))))))
  · skip
    rw [if_pos hc]
    refine cd_seq (cd_region (st_v (v_assign rfl) (st_v (v_assign rfl) (st_nil (nx_kp [0, 1, 4, 5] rfl (nx_then (cd_ret (xt_ret_block (xt_ret_then (xt_ret_scope ?_))))))))))
    exact xt_rt rfl ⟨rfl, L.mvb, rfl⟩
  · skip
    rw [if_neg (by rw [hc]; simp)]
    refine cd_seq (cd_region (st_v (v_move rfl) (st_v (v_nilCheck rfl) (st_v (v_fieldAddr rfl fa100_5 rfl) (st_v (v_ld rfl ld4) ?_)))))
    refine st_v (v_not rfl) (st_v (v_assign rfl) (st_nil (nx_kp [0, 1, 4, 5, 16] rfl (nx_then (cd_cond rfl (fun hd => ?_) (fun hd => ?_))))))
    · skip
      rw [if_pos hd]
      refine cd_seq (cd_region (st_v (v_assign rfl) (st_v (v_assign rfl) (st_nil (nx_kp [0, 1, 4, 5] rfl (nx_then (cd_ret (xt_ret_block (xt_ret_then (xt_ret_scope ?_))))))))))
      exact xt_rt rfl ⟨rfl, L.mvb, rfl⟩
    · skip
      rw [if_neg (by rw [hd]; simp)]
      have hw0 : 0 ≤ w := by simpa using hc
      refine cd_skip (xt_normal_block (xt_then (cd_seq (cd_label (xt_then (cd_seq (cd_seq (cd_region (st_v (v_move rfl) (st_v (v_move rfl) (st_nil (nx_kp [0, 4, 5, 22, 23] rfl (nx_then (cd_block (cd_loop (σ := Nat × Mem) (fun q => [(0, .pointer (some ⟨L.mb, 0, none⟩)), (22, .int .i64 w), (23, .int .i64 (q.1 : Nat))]) (fun q => fwSHO L q.2 S ++ hr) (fun q => q.1 ≤ w.toNat ∧ I q.2 ∧ Mem.steps (w.toNat - q.1) q.2 = Mem.steps w.toNat μ0) (fun q => w.toNat - q.1) (0, μ0) ⟨Nat.zero_le _, h0 (by simpa using hd), rfl⟩ ⟨rfl, rfl, rfl, trivial⟩ (Sub.refl _) ?_)))))))))))))))
      rintro ⟨i, μ⟩ ⟨hi, hIμ, hst⟩
      obtain ⟨hP, hS, hIn⟩ := hI μ hIμ
      have hus := hP.n.us; have hfr := hP.n.fr; have hws := hP.n.ws; have hsc0 := hP.sc0; have hsc1 := hP.sc1; have hle := hP.le
      have hse : μ.send = (μ.n.fr : Int) + (μ.n.us : Int) := rfl
      unfold fwSHO
      dsimp only
      simp only [List.cons_append, List.nil_append]
      refine cd_seq (cd_region (st_v (v_lss rfl rfl) (st_nil (nx_then (cd_seq (cd_cond rfl (fun hlw => ?_) (fun hlw => ?_)))))))
      · skip
        have hiw : (i : Int) < w := by simpa using hlw
        refine cd_skip (xt_then (cd_seq (cd_block (cd_seq (cd_seq (cd_drawh (ork [(0, 2), (1, 2), (2, 2), (3, 1), (4, 2), (5, 2), (6, 2), (7, 1), (8, 2), (9, 2), (10, 2), (11, 1), (12, 2), (13, 2), (14, 2), (15, 1), (16, 2), (17, 2), (18, 2), (19, 1), (20, 2), (21, 2)] .nil) (fun _ => true) mixed (by kernel_rfl) ?_))))))
        refine dp_v rfl (v_move rfl) (dp_v rfl (v_nilCheck rfl) (dp_v rfl (v_fieldAddr rfl fa100_6 rfl) (dr_v rfl (v_ld rfl ld3) ?_)))
        refine dp_v rfl (v_move rfl) (dp_v rfl (v_nilCheck rfl) (dp_v rfl (v_fieldAddr rfl fa100_2 rfl) (dr_v rfl (v_ld rfl ld95) ?_)))
        refine dp_v rfl (v_nilCheck rfl) (dp_v rfl (v_fieldAddr rfl fa117_0 rfl) (dp_v rfl (v_fieldAddr rfl fa115_1 rfl) (dr_v rfl (v_ld rfl ld3) ?_)))
        refine dp_v rfl (v_move rfl) (dp_v rfl (v_nilCheck rfl) (dp_v rfl (v_fieldAddr rfl fa100_2 rfl) (dr_v rfl (v_ld rfl ld95) ?_)))
        refine dp_v rfl (v_nilCheck rfl) (dp_v rfl (v_fieldAddr rfl fa117_0 rfl) (dp_v rfl (v_fieldAddr rfl fa115_2 rfl) (dr_v rfl (v_ld rfl ld3) ?_)))
        refine dp_v rfl (v_add rfl rfl (by unfold I64 at *; omega)) (dp_v rfl (v_eql rfl rfl) (dr_nil (nx_kp [0, 22, 23, 46] rfl (nx_then (cd_cond rfl (fun he => ?_) (fun he => ?_))))))
        · skip
          have hfin : μ = Mem.steps w.toNat μ0 := by
            rw [← hst, steps_done (by simpa [Mem.send] using he)]
          refine cd_exit (xt_exit_then (xt_exit_block_ne (by decide) ?_))
          refine xt_exit_then (xt_exit_then (xt_exit_block (xt_then (cd_seq (cd_drawh (ork [(0, 2), (1, 2), (2, 2), (3, 1), (4, 2), (5, 2), (6, 2), (7, 1), (8, 2), (9, 2), (10, 2), (11, 1), (12, 2), (13, 2), (14, 2), (15, 1), (16, 2), (17, 2), (18, 2), (19, 2), (20, 1), (21, 2), (22, 2)] .nil) (fun _ => true) mixed (by kernel_rfl) ?_)))))
          refine dp_v rfl (v_move rfl) (dp_v rfl (v_nilCheck rfl) (dp_v rfl (v_fieldAddr rfl fa100_2 rfl) (dr_v rfl (v_ld rfl ld95) ?_)))
          refine dp_v rfl (v_nilCheck rfl) (dp_v rfl (v_fieldAddr rfl fa117_0 rfl) (dp_v rfl (v_fieldAddr rfl fa115_1 rfl) (dr_v rfl (v_ld rfl ld3) ?_)))
          refine dp_v rfl (v_move rfl) (dp_v rfl (v_nilCheck rfl) (dp_v rfl (v_fieldAddr rfl fa100_2 rfl) (dr_v rfl (v_ld rfl ld95) ?_)))
          refine dp_v rfl (v_nilCheck rfl) (dp_v rfl (v_fieldAddr rfl fa117_0 rfl) (dp_v rfl (v_fieldAddr rfl fa115_2 rfl) (dr_v rfl (v_ld rfl ld3) ?_)))
          refine dp_v rfl (v_add rfl rfl (by unfold I64 at *; omega)) (dp_v rfl (v_move rfl) (dp_v rfl (v_nilCheck rfl) (dp_v rfl (v_fieldAddr rfl fa100_6 rfl) (dr_v rfl (v_ld rfl ld3) ?_))))
          refine dp_v rfl (v_sub rfl rfl (by unfold I64 at *; omega)) (dp_v rfl (v_assign rfl) (dr_nil (nx_kp [0, 8] rfl (nx_then (cd_seq (cd_seq (cd_region (st_v (v_move rfl) (st_v (v_eql rfl rfl) (st_nil (nx_kp [0, 8, 131] rfl (nx_then (cd_cond rfl (fun hz => ?_) (fun hz => ?_))))))))))))))
          · skip
            have hen : μ.stepEnd = { μ with bu := false, le := 0, mv := [], o := μ.o.empty } := by unfold Mem.stepEnd; rw [if_pos (show (μ.sleft == 0) = true from hz)]
            refine cd_seq (cd_region (st_v (v_move rfl) (st_v (v_move rfl) (st_v (v_move rfl) (st_makeMap (ltn rfl) fun b135 => ?_)))))
            refine st_v (v_nilCheck rfl) (st_v (v_fieldAddr rfl fa100_5 rfl) (st_sto rfl rfl sz4 ?_))
            refine st_v (v_nilCheck rfl) (st_v (v_fieldAddr rfl fa100_8 rfl) (st_sto rfl rfl sz3 ?_))
            refine st_v (v_nilCheck rfl) (st_v (v_fieldAddr rfl fa100_7 rfl) (st_sto rfl rfl sz97 ?_))
            refine st_nil (nx_kp [0, 8] rfl (nx_then (cd_region (st_v (v_move rfl) (st_v (v_nilCheck rfl) (st_v (v_fieldAddr rfl fa100_3 rfl) (st_v (v_ld rfl ld95) ?_)))))))
            refine st_cl rfl rfl en82 rfl (empty_ct (l := L.o) (s := μ.o) hP.o hP.opos) ?_
            rintro v h' ⟨rfl, rfl⟩
            simp only [List.cons_append, List.nil_append]
            refine st_nil (nx_kp [8] rfl (nx_then (cd_seq (cd_region (st_v (v_move rfl) (st_v (v_assign rfl) (st_v (v_assign rfl) (st_nil (nx_kp [4, 5] rfl (nx_then (cd_ret (xt_ret_scope (xt_ret rfl ⟨by rw [← hfin]; rfl, b135, rfl⟩ ?_)))))))))))))
            rw [← hfin, hen]
            exact (by repeat (first | exact Sub.refl _ | exact Sub.nil _ | refine Sub.sel (by repeat (first | exact Sel.here | apply Sel.there)) ?_ | apply Sub.cons))
          · skip
            have hen : μ.stepEnd = μ := by unfold Mem.stepEnd; rw [if_neg (by intro h; have h' : (μ.sleft == 0) = false := hz; rw [h] at h'; cases h')]
            refine cd_skip (xt_then (cd_seq (cd_region (st_v (v_move rfl) (st_v (v_assign rfl) (st_v (v_assign rfl) (st_nil (nx_kp [4, 5] rfl (nx_then (cd_ret (xt_ret_scope (xt_ret rfl ⟨by rw [← hfin]; rfl, L.mvb, rfl⟩ ?_))))))))))))
            rw [← hfin, hen]
            exact (by repeat (first | exact Sub.refl _ | exact Sub.nil _ | refine Sub.sel (by repeat (first | exact Sel.here | apply Sel.there)) ?_ | apply Sub.cons))
        · skip
          have hne : μ.sc ≠ μ.send := by simpa [Mem.send] using he
          have hsk : μ.sk < μ.n.us := by unfold Mem.sk; omega
          have hsq : μ.sc = (μ.n.fr : Int) + (μ.sk : Nat) := by unfold Mem.sk; omega
          obtain ⟨hx0, hx1, hsf⟩ := hP.x0 hne
          have hso : μ.so ≤ μ.sk := back_le _ _
          have hso' : back μ.n.st μ.sk ≤ μ.sk := back_le _ _
          refine cd_skip (xt_then (cd_seq (cd_region (st_v (v_move rfl) (st_v (v_move rfl) (st_v (v_nilCheck rfl) (st_v (v_fieldAddr rfl fa100_6 rfl) (st_v (v_ld rfl ld3) ?_))))))))
          refine st_clr rfl rfl en80 rfl (object_ct (L := L) (μ := μ) (k := μ.sk) hP.n hsq (by omega) (hP.ex hne)) ?_
          refine st_v (v_assign rfl) (st_nil (nx_kp [0, 6, 22, 23] rfl (nx_then (cd_seq (cd_seq (cd_region (st_v (v_move rfl) (st_v (v_nilCheck rfl) (st_v (v_fieldAddr rfl fa100_6 rfl) (st_v (v_ld rfl ld3) ?_))))))))))
          refine st_v (v_move rfl) (st_v (v_sub rfl rfl (by unfold I64 at *; omega)) (st_v (v_sub rfl rfl (by unfold I64 at *; omega)) (st_v (v_assign rfl) (st_nil (nx_kp [0, 6, 7, 22, 23] rfl (nx_then (cd_seq (cd_drawh (ork [(0, 2), (1, 2), (2, 2), (3, 2), (4, 2), (5, 2), (6, 1), (7, 2), (8, 2), (9, 2), (10, 1), (11, 2), (12, 2), (13, 2), (14, 1), (15, 2), (16, 1), (17, 2), (18, 1), (19, 2), (20, 2), (21, 1), (22, 2)] .nil) (fun _ => true) mixed (by kernel_rfl) ?_))))))))
          refine dp_v rfl (v_move rfl) (dp_v rfl (v_geq rfl rfl) (dp_v rfl (v_move rfl) ?_))
          have hkx : μ.sx.toNat < μ.sh.length := by omega
          obtain ⟨b, o, cp, u, hv, hu, a2, cp2, hu2, hrd2⟩ := hS.row hkx
          have hsh : shAt μ.sh μ.sx = μ.sh[μ.sx.toNat] := by unfold shAt; exact getD_lt hkx
          have hrd : Rd (wb L.n μ.n) ⟨L.n.wb, ((μ.n.fr : Int) + (μ.so : Nat) - μ.n.fr).toNat, none⟩ (.int .i64 μ.sx) := by
            rw [show ((μ.n.fr : Int) + (μ.so : Nat) - μ.n.fr).toNat = μ.so by omega]; exact rd_ints (by omega)
          refine dr_cut (k := 20) (d := 82) (v := .bool (decide (0 ≤ μ.sf) && (shAt μ.sh μ.sx).getD μ.sf.toNat false)) (fun hcut => bool_want (b := decide (0 ≤ μ.sf)) true (fun hg => ?_) (fun hg => ?_)) ?_
          · refine dp_sk rfl rfl rfl hg ?_
            refine dp_sk rfl rfl rfl hg ?_
            refine dp_sk rfl rfl rfl hg ?_
            refine dr_sk rfl rfl rfl hg ?_
            refine dp_sk rfl rfl rfl hg ?_
            refine dp_sk rfl rfl rfl hg ?_
            refine dp_sk rfl rfl rfl hg ?_
            refine dr_sk rfl rfl rfl hg ?_
            refine dp_sk rfl rfl rfl hg ?_
            refine dp_sk rfl rfl rfl hg ?_
            refine dp_sk rfl rfl rfl hg ?_
            refine dr_sk rfl rfl rfl hg ?_
            refine dp_sk rfl rfl rfl hg ?_
            refine dr_sk rfl rfl rfl hg ?_
            refine dp_sk rfl rfl rfl hg ?_
            refine dr_sk rfl rfl rfl hg ?_
            refine dp_sk rfl rfl rfl hg ?_
            refine dp_sk rfl rfl rfl hg ?_
            refine dr_sk rfl rfl rfl hg ?_
            refine dp_v rfl (v_pick_false (bool_ev rfl hg) rfl) ?_
            exact hcut _ (ssub_head (by first | rfl | (rw [hg]; rfl) | simp_all) (ssub_skip rfl (ssub_skip rfl (ssub_skip rfl (ssub_skip rfl (ssub_skip rfl (ssub_skip rfl (ssub_skip rfl (ssub_skip rfl (ssub_skip rfl (ssub_skip rfl (ssub_skip rfl (ssub_skip rfl (ssub_skip rfl (ssub_skip rfl (ssub_skip rfl (ssub_skip rfl (ssub_skip rfl (ssub_skip rfl (ssub_skip rfl (ssub_refl)))))))))))))))))))))
          · skip
            have hf0 : 0 ≤ μ.sf := by simpa using hg
            rw [hsh] at hsf
            have hfl : μ.sf.toNat < μ.sh[μ.sx.toNat].length := by omega
            obtain ⟨b', o', cp', hu', hrd'⟩ := RowB.at ⟨a2, cp2, hu2, hrd2⟩ hfl
            refine dp_vg rfl rfl (bool_get rfl hg) (v_move rfl) (dp_vg rfl rfl (bool_get rfl hg) (v_nilCheck rfl) (dp_vg rfl rfl (bool_get rfl hg) (v_fieldAddr rfl fa100_0 rfl) (dr_vg rfl rfl (bool_get rfl hg) (v_ld rfl ld22) ?_)))
            refine dp_vg rfl rfl (bool_get rfl hg) (v_move rfl) (dp_vg rfl rfl (bool_get rfl hg) (v_nilCheck rfl) (dp_vg rfl rfl (bool_get rfl hg) (v_fieldAddr rfl fa100_2 rfl) (dr_vg rfl rfl (bool_get rfl hg) (v_ld rfl ld95) ?_)))
            refine dp_vg rfl rfl (bool_get rfl hg) (v_nilCheck rfl) (dp_vg rfl rfl (bool_get rfl hg) (v_fieldAddr rfl fa117_0 rfl) (dp_vg rfl rfl (bool_get rfl hg) (v_move rfl) (dr_clrg rfl rfl (bool_get rfl hg) rfl rfl en61 rfl (word_ct (l := L.n) (s := μ.n) hP.n (by omega) (by omega)) ?_)))
            refine dp_vg rfl rfl (bool_get rfl hg) (v_nilCheck rfl) (dr_vg rfl rfl (bool_get rfl hg) (v_ld rfl ld3) ?_)
            refine dp_vg rfl rfl (bool_get rfl hg) (v_ixo _ (congrArg some hv) rfl sl22 (Int.toNat_of_nonneg hx0).symm hkx) (dr_vg rfl rfl (bool_get rfl hg) (v_ld rfl ld73) ?_)
            refine dp_vg rfl rfl (bool_get rfl hg) (v_move rfl) (dp_vg rfl rfl (bool_get rfl hg) (v_ixo μ.sf.toNat (congrArg some hu') rfl sl73 (Int.toNat_of_nonneg hf0).symm hfl) (dr_vg rfl rfl (bool_get rfl hg) (v_ld rfl ld4) ?_))
            have hir : μ.isRef = μ.sh[μ.sx.toNat][μ.sf.toNat] := by unfold Mem.isRef; rw [hg, hsh, getD_lt hfl, Bool.true_and]
            rw [← hir]
            refine dp_v rfl (v_pick_true (bool_ev rfl hg) rfl) ?_
            exact hcut _ (ssub_head (by first | rfl | (rw [hg]; rfl) | simp_all) (ssub_skip rfl (ssub_skip rfl (ssub_skip rfl (ssub_skip rfl (ssub_skip rfl (ssub_skip rfl (ssub_skip rfl (ssub_skip rfl (ssub_skip rfl (ssub_skip rfl (ssub_skip rfl (ssub_skip rfl (ssub_skip rfl (ssub_skip rfl (ssub_skip rfl (ssub_skip rfl (ssub_skip rfl (ssub_skip rfl (ssub_skip rfl (ssub_refl)))))))))))))))))))))
          refine dr_nil (nx_kp [0, 22, 23, 82] rfl (nx_then (cd_cond rfl (fun hr1 => ?_) (fun hr1 => ?_))))
          · skip
            have hir : μ.isRef = true := hr1
            have hs1 : μ.step1 = { (μ.fwd μ.o true μ.sw).2 with n := (μ.fwd μ.o true μ.sw).2.n.setw μ.sk (μ.fwd μ.o true μ.sw).1, sc := (μ.fwd μ.o true μ.sw).2.sc + 1 } := by unfold Mem.step1; rw [if_pos hir]
            have hsc' := fwd_sc μ μ.o true μ.sw
            refine cd_drawh (ork [(0, 2), (1, 2), (2, 2), (3, 2), (4, 1), (5, 2), (6, 2), (7, 2), (8, 1), (9, 2), (10, 2), (11, 2), (12, 2), (13, 2), (14, 1), (15, 1), (16, 0)] .nil) (fun i => !(Nat.beq i 16)) mixed (by kernel_rfl) ?_
            refine dp_v rfl (v_move rfl) (dp_v rfl (v_move rfl) (dp_v rfl (v_nilCheck rfl) (dp_v rfl (v_fieldAddr rfl fa100_3 rfl) (dr_v rfl (v_ld rfl ld95) ?_))))
            refine dp_v rfl (v_move rfl) (dp_v rfl (v_nilCheck rfl) (dp_v rfl (v_fieldAddr rfl fa100_2 rfl) (dr_v rfl (v_ld rfl ld95) ?_)))
            refine dp_v rfl (v_nilCheck rfl) (dp_v rfl (v_fieldAddr rfl fa117_0 rfl) (dp_v rfl (v_move rfl) (dp_v rfl (v_nilCheck rfl) (dp_v rfl (v_fieldAddr rfl fa100_6 rfl) (dr_v rfl (v_ld rfl ld3) ?_)))))
            refine dr_clr rfl rfl rfl en61 rfl (word_ct (l := L.n) (s := μ.n) hP.n (by omega) (by omega)) ?_
            refine dr_eff rfl (st_cl rfl rfl en81 rfl (fwdOn_ct (L := L) (μ := μ) (S := S) (t := μ.sw) (off := μ.sk) (by omega) rfl hP.o hP.n hS hP.shl hP.po hP.le (hP.room hne hir)) ?_)
            rintro v h' ⟨rfl, rfl⟩
            unfold fwSHO
            simp only [List.cons_append, List.nil_append]
            refine dr_nx ?_
            refine dr_nil (nx_kp [0, 22, 23] rfl (nx_then (cd_region (st_v (v_move rfl) (st_v (v_nilCheck rfl) (st_v (v_fieldAddr rfl fa100_6 rfl) (st_v (v_ld rfl ld3) ?_)))))))
            refine st_v (v_add rfl rfl (by show I64 ((μ.fwd μ.o true μ.sw).2.sc + 1); rw [hsc']; unfold I64; omega)) ?_
            refine st_v (v_nilCheck rfl) (st_v (v_fieldAddr rfl fa100_6 rfl) (st_sto rfl rfl sz3 ?_))
            refine st_nil (nx_kp [0, 22, 23] rfl (nx_xt (xt_normal_block (xt_then (cd_region (st_v (v_add rfl rfl (by unfold I64 at *; omega)) (st_v (v_move rfl) (st_nil (nx_kp [0, 22, 23] rfl (nx_xt (xt_again (i + 1, μ.step1) ⟨by omega, hIn hne, ?_⟩ (by show _ - _ < _ - _; omega) ⟨rfl, rfl, rfl, trivial⟩ ?_)))))))))))
            · rw [← hst, show w.toNat - i = (w.toNat - (i + 1)) + 1 by omega, steps_more hne]
            · rw [hs1]
              exact (by repeat (first | exact Sub.refl _ | exact Sub.nil _ | refine Sub.sel (by repeat (first | exact Sel.here | apply Sel.there)) ?_ | apply Sub.cons))
          · skip
            have hir : μ.isRef = false := hr1
            have hs1 : μ.step1 = { μ with sc := μ.sc + 1 } := by unfold Mem.step1; rw [if_neg (by rw [hir]; simp)]
            refine cd_skip (xt_then (cd_region (st_v (v_move rfl) (st_v (v_nilCheck rfl) (st_v (v_fieldAddr rfl fa100_6 rfl) (st_v (v_ld rfl ld3) ?_))))))
            refine st_v (v_add rfl rfl (by unfold I64 at *; omega)) (st_v (v_nilCheck rfl) (st_v (v_fieldAddr rfl fa100_6 rfl) (st_sto rfl rfl sz3 ?_)))
            refine st_nil (nx_kp [0, 22, 23] rfl (nx_xt (xt_normal_block (xt_then (cd_region (st_v (v_add rfl rfl (by unfold I64 at *; omega)) (st_v (v_move rfl) (st_nil (nx_kp [0, 22, 23] rfl (nx_xt (xt_again (i + 1, μ.step1) ⟨by omega, hIn hne, ?_⟩ (by show _ - _ < _ - _; omega) ⟨rfl, rfl, rfl, trivial⟩ ?_)))))))))))
            · rw [← hst, show w.toNat - i = (w.toNat - (i + 1)) + 1 by omega, steps_more hne]
            · rw [hs1]
              exact (by repeat (first | exact Sub.refl _ | exact Sub.nil _ | refine Sub.sel (by repeat (first | exact Sel.here | apply Sel.there)) ?_ | apply Sub.cons))
      · skip
        have hiw : w ≤ (i : Int) := by simpa using hlw
        have hfin : μ = Mem.steps w.toNat μ0 := by
          rw [← hst, show w.toNat - i = 0 by omega]; rfl
        refine cd_exit (xt_exit_then (xt_exit_then (xt_exit_block (xt_then (cd_seq (cd_drawh (ork [(0, 2), (1, 2), (2, 2), (3, 1), (4, 2), (5, 2), (6, 2), (7, 1), (8, 2), (9, 2), (10, 2), (11, 1), (12, 2), (13, 2), (14, 2), (15, 1), (16, 2), (17, 2), (18, 2), (19, 2), (20, 1), (21, 2), (22, 2)] .nil) (fun _ => true) mixed (by kernel_rfl) ?_))))))
        refine dp_v rfl (v_move rfl) (dp_v rfl (v_nilCheck rfl) (dp_v rfl (v_fieldAddr rfl fa100_2 rfl) (dr_v rfl (v_ld rfl ld95) ?_)))
        refine dp_v rfl (v_nilCheck rfl) (dp_v rfl (v_fieldAddr rfl fa117_0 rfl) (dp_v rfl (v_fieldAddr rfl fa115_1 rfl) (dr_v rfl (v_ld rfl ld3) ?_)))
        refine dp_v rfl (v_move rfl) (dp_v rfl (v_nilCheck rfl) (dp_v rfl (v_fieldAddr rfl fa100_2 rfl) (dr_v rfl (v_ld rfl ld95) ?_)))
        refine dp_v rfl (v_nilCheck rfl) (dp_v rfl (v_fieldAddr rfl fa117_0 rfl) (dp_v rfl (v_fieldAddr rfl fa115_2 rfl) (dr_v rfl (v_ld rfl ld3) ?_)))
        refine dp_v rfl (v_add rfl rfl (by unfold I64 at *; omega)) (dp_v rfl (v_move rfl) (dp_v rfl (v_nilCheck rfl) (dp_v rfl (v_fieldAddr rfl fa100_6 rfl) (dr_v rfl (v_ld rfl ld3) ?_))))
        refine dp_v rfl (v_sub rfl rfl (by unfold I64 at *; omega)) (dp_v rfl (v_assign rfl) (dr_nil (nx_kp [0, 8] rfl (nx_then (cd_seq (cd_seq (cd_region (st_v (v_move rfl) (st_v (v_eql rfl rfl) (st_nil (nx_kp [0, 8, 131] rfl (nx_then (cd_cond rfl (fun hz => ?_) (fun hz => ?_))))))))))))))
        · skip
          have hen : μ.stepEnd = { μ with bu := false, le := 0, mv := [], o := μ.o.empty } := by unfold Mem.stepEnd; rw [if_pos (show (μ.sleft == 0) = true from hz)]
          refine cd_seq (cd_region (st_v (v_move rfl) (st_v (v_move rfl) (st_v (v_move rfl) (st_makeMap (ltn rfl) fun b135 => ?_)))))
          refine st_v (v_nilCheck rfl) (st_v (v_fieldAddr rfl fa100_5 rfl) (st_sto rfl rfl sz4 ?_))
          refine st_v (v_nilCheck rfl) (st_v (v_fieldAddr rfl fa100_8 rfl) (st_sto rfl rfl sz3 ?_))
          refine st_v (v_nilCheck rfl) (st_v (v_fieldAddr rfl fa100_7 rfl) (st_sto rfl rfl sz97 ?_))
          refine st_nil (nx_kp [0, 8] rfl (nx_then (cd_region (st_v (v_move rfl) (st_v (v_nilCheck rfl) (st_v (v_fieldAddr rfl fa100_3 rfl) (st_v (v_ld rfl ld95) ?_)))))))
          refine st_cl rfl rfl en82 rfl (empty_ct (l := L.o) (s := μ.o) hP.o hP.opos) ?_
          rintro v h' ⟨rfl, rfl⟩
          simp only [List.cons_append, List.nil_append]
          refine st_nil (nx_kp [8] rfl (nx_then (cd_seq (cd_region (st_v (v_move rfl) (st_v (v_assign rfl) (st_v (v_assign rfl) (st_nil (nx_kp [4, 5] rfl (nx_then (cd_ret (xt_ret_scope (xt_ret rfl ⟨by rw [← hfin]; rfl, b135, rfl⟩ ?_)))))))))))))
          rw [← hfin, hen]
          exact (by repeat (first | exact Sub.refl _ | exact Sub.nil _ | refine Sub.sel (by repeat (first | exact Sel.here | apply Sel.there)) ?_ | apply Sub.cons))
        · skip
          have hen : μ.stepEnd = μ := by unfold Mem.stepEnd; rw [if_neg (by intro h; have h' : (μ.sleft == 0) = false := hz; rw [h] at h'; cases h')]
          refine cd_skip (xt_then (cd_seq (cd_region (st_v (v_move rfl) (st_v (v_assign rfl) (st_v (v_assign rfl) (st_nil (nx_kp [4, 5] rfl (nx_then (cd_ret (xt_ret_scope (xt_ret rfl ⟨by rw [← hfin]; rfl, L.mvb, rfl⟩ ?_))))))))))))
          rw [← hfin, hen]
          exact (by repeat (first | exact Sub.refl _ | exact Sub.nil _ | refine Sub.sel (by repeat (first | exact Sel.here | apply Sel.there)) ?_ | apply Sub.cons))
end Go.Proofs.Ytmhmpjgkkpbnnaa
namespace Go.Proofs.Ytmhmpjgkkpbnnaa
open Go.Ck Fx Go.Hm
attribute [local irreducible] St Cd Xt Nx DrL LsW

def mtv (l : List Int) : List (Int × Value) := l.map fun x => (x, .bool true)
theorem mlook_mtv (l : List Int) (t : Int) : (mlook (mtv l) t).getD (.bool false) = .bool (l.contains t) := by
  unfold mtv mlook
  induction l with
  | nil => rfl
  | cons x r ih =>
    simp only [List.map_cons, List.find?_cons, List.contains_cons]
    by_cases h : x = t
    · subst h; simp
    · have h1 : (x == t) = false := by simp [h]
      have h2 : (t == x) = false := by simp; exact fun e => h e.symm
      simp only [h1, h2, Bool.false_or]
      exact ih
theorem mupd_mtv {l : List Int} {t : Int} (h : l.contains t = false) : mupd (mtv l) t (.bool true) = mtv (l ++ [t]) := by
  unfold mtv
  induction l with
  | nil => rfl
  | cons x r ih =>
    simp only [List.contains_cons, Bool.or_eq_false_iff] at h
    have h1 : ¬ x = t := fun e => by have := h.1; simp [e] at this
    simp only [List.map_cons, List.cons_append, mupd, h1, if_false, ih h.2]
def Mem.meet (μ : Mem) (l : List Int) (t : Int) : List Int := if μ.y.begins t && !l.contains t then l ++ [t] else l
def mtSH (L : MemL) (μ : Mem) (b1 b2 b3 mp : Nat) (lv : Value) (l : List Int) : SH :=
  [pt b1 (cl [.pointer (some ⟨L.mb, 0, none⟩)] 27), pt b2 (cl [.map (some mp)] 174), pt b3 (cl [lv] 34), mpr mp (mtv l), vec lv 3 1 l.length (ints l), mb L μ, sb L.y μ.y, tb L.y μ.y]
set_option maxRecDepth 100000 in
theorem meet_ct {L : MemL} {μ : Mem} {b1 b2 b3 mp : Nat} {lv : Value} {l : List Int} {t : Int} (oy : μ.y.Ok) (hl : l.length ≤ 1000000) :
    Ct Try.prog 116 #[.int .i64 t, .pointer (some ⟨b1, 0, none⟩), .pointer (some ⟨b2, 0, none⟩), .pointer (some ⟨b3, 0, none⟩)] (mtSH L μ b1 b2 b3 mp lv l)
      fun v h' => v = .tuple #[] ∧ ∃ lv', h' = mtSH L μ b1 b2 b3 mp lv' (μ.meet l t) := by
  unfold mtSH Mem.meet
  refine ct_of (n := 23) Try.func116 rfl rfl (len rfl) fun hr w0 => ?_
  refine cd_seq (cd_region (st_v (v_ld rfl ld27) ?_))
  refine st_v (v_nilCheck rfl) (st_v (v_fieldAddr rfl fa100_1 rfl) (st_v (v_ld rfl ld95) ?_))
  refine st_v (v_move rfl) (st_clr rfl rfl en72 rfl (begins_ct (l := L.y) (s := μ.y) oy) ?_)
  refine st_v (v_move rfl) (st_cut (k := 12) (d := 16) (v := .bool (μ.y.begins t && !l.contains t)) (fun hcut => bool_want (b := μ.y.begins t) true (fun hg => ?_) (fun hg => ?_)) ?_)
  · refine st_sk rfl rfl hg ?_
    refine st_sk rfl rfl hg ?_
    refine st_sk rfl rfl hg ?_
    refine st_sk rfl rfl hg ?_
    refine st_v (v_pick_false (bool_ev rfl hg) rfl) ?_
    exact hcut _ (ssub_head (by first | rfl | (rw [hg]; rfl) | simp_all) (ssub_skip rfl (ssub_skip rfl (ssub_skip rfl (ssub_skip rfl (ssub_refl))))))
  · skip
    refine st_vg rfl (bool_get rfl hg) (v_ld rfl ld174) ?_
    refine st_vg rfl (bool_get rfl hg) (v_move rfl) (st_vg rfl (bool_get rfl hg) (v_lookup rfl rfl mp174 inf4 (by repeat (first | exact Sel.here | apply Sel.there))) ?_)
    rw [mlook_mtv]
    refine st_vg rfl (bool_get rfl hg) (v_not rfl) (st_v (v_pick_true (bool_ev rfl hg) rfl) ?_)
    exact hcut _ (ssub_head (by first | rfl | (rw [hg]; rfl) | simp_all) (ssub_skip rfl (ssub_skip rfl (ssub_skip rfl (ssub_skip rfl (ssub_refl))))))
  refine st_nil (nx_kp [0, 2, 3, 16] rfl (nx_then (cd_cond rfl (fun hc => ?_) (fun hc => ?_))))
  · skip
    rw [if_pos hc]
    have hn : l.contains t = false := by simp only [Bool.and_eq_true, Bool.not_eq_true'] at hc; exact hc.2
    refine cd_seq (cd_region (st_v (v_ld rfl ld174) ?_))
    refine st_v (v_move rfl) (st_mapUpdate rfl rfl rfl mp174 (by repeat (first | exact Sel.here | apply Sel.there)) ?_)
    rw [mupd_mtv hn]
    refine st_nil (nx_kp [0, 3] rfl (nx_then (cd_region (st_v (v_ld rfl ld34) ?_))))
    refine st_v (v_move rfl) (st_buildSlice (cells := [.int .i64 t]) rfl Try.underlying34 inf3 rfl rfl (by kernel_rfl) (ltn rfl) fun b21 => ?_)
    refine st_append (news := [.int .i64 t]) rfl rfl Try.underlying34 inf3 rfl (ltn rfl) (by repeat (first | exact Sel.here | apply Sel.there)) rfl (fun j u hu => by repeat (first | exact at_here (rd_cl (by simpa using hu)) | apply at_there)) (ones rfl) (by omega) (by omega) (ltn rfl) fun lv' hlv' hv1 => ?_
    refine st_sto rfl rfl sz34 ?_
    refine st_nil (nx_kp [] rfl (nx_xt ?_))
    have e1 : vec lv' 3 1 (l ++ [t]).length (ints (l ++ [t])) = vec lv' 3 1 (l.length + 1) (ints l ++ [.int .i64 t]) := by
      simp [ints]
    refine xt_end rfl ⟨rfl, lv', rfl⟩ ?_
    rw [e1]
    exact (by repeat (first | exact Sub.refl _ | exact Sub.nil _ | refine Sub.sel (by repeat (first | exact Sel.here | apply Sel.there)) ?_ | apply Sub.cons))
  · skip
    rw [if_neg (by rw [hc]; simp)]
    refine cd_skip ?_
    exact xt_en rfl ⟨rfl, lv, rfl⟩
end Go.Proofs.Ytmhmpjgkkpbnnaa
namespace Go.Ck
open Go Go.RowKit

/-- What is known of an open row: v is nil and has nothing, or it is a block with the row and some more cells. -/
def OpenRow (v : Value) (sz n : Nat) (l : List Value) (b cp : Nat) (j : List Value) : Prop := v = .slice (some ⟨b, 0, none⟩) n cp ∧ l.length = n * sz ∧ n ≤ cp ∧ cp ≤ maxLen ∧ (l ++ j).length = cp * sz
theorem Holds.openRow {w : World} {v : Value} {E : TypeId} {sz n : Nat} {l : List Value} {h : SH} (hh : Holds w (vec v E sz n l :: h)) :
    (v = .slice none 0 0 ∧ n = 0 ∧ l = []) ∨ ∃ b cp j, OpenRow v sz n l b cp j ∧ Holds w (pt b (cl (l ++ j) E) :: h) := by
  obtain ⟨h1, h2⟩ := hh.1
  rcases h2 with ⟨h3, h4⟩ | ⟨b, cp, j, h3, h4, h5, h6, h7⟩
  · exact .inl ⟨h3, h4, List.eq_nil_of_length_eq_zero (by rw [h1, h4]; simp)⟩
  · exact .inr ⟨b, cp, j, ⟨h3, h1, h5, h6, h7⟩, h4, fun c hc => hh.2.1 c ⟨n, cp, by rw [h3, show c = b from hc]⟩, hh.2.2⟩
theorem Holds.shutRow {w : World} {v : Value} {E : TypeId} {sz n : Nat} {l l' : List Value} {h : SH} {b cp : Nat} {j : List Value} (ho : OpenRow v sz n l b cp j) (hl : l'.length = l.length) (hh : Holds w (pt b (cl (l' ++ j) E) :: h)) : Holds w (vec v E sz n l' :: h) := by
  obtain ⟨h3, h1, h5, h6, h7⟩ := ho
  refine ⟨⟨by rw [hl, h1], .inr ⟨b, cp, j, h3, hh.1, h5, h6, by rw [List.length_append, hl, ← h7, List.length_append]⟩⟩, fun c ⟨m, cp', hv⟩ => ?_, hh.2.2⟩
  rw [h3] at hv; cases hv
  exact hh.2.1 b rfl
section
variable {c : Cx} {Q : Exit → Act → World → Prop} {e : Env} {h h' : SH} {x : Code} {v : Value} {E : TypeId} {sz n : Nat} {l l' : List Value}
theorem cd_open (s : Sel h (vec v E sz n l) h') (h0 : v = .slice none 0 0 → n = 0 → l = [] → Cd c x Q e h') (h1 : ∀ b cp j, OpenRow v sz n l b cp j → Cd c x Q e (pt b (cl (l ++ j) E) :: h')) : Cd c x Q e h := fun a w hk hh hw => by
  have k := hh.sel s
  rcases Holds.openRow k with ⟨a1, a2, a3⟩ | ⟨b, cp, j, ho, hH⟩
  · exact h0 a1 a2 a3 a w hk k.2.2 hw
  · exact h1 b cp j ho a w hk hH hw
theorem xt_shut {ex : Exit} {b cp : Nat} {j : List Value} (ho : OpenRow v sz n l b cp j) (hl : l'.length = l.length) (s : Sel h (pt b (cl (l' ++ j) E)) h') (hx : Xt c ex Q e (vec v E sz n l' :: h')) : Xt c ex Q e h :=
  fun a w hk hh hw => hx a w hk (Holds.shutRow ho hl (hh.sel s)) hw
theorem cd_shut {b cp : Nat} {j : List Value} (ho : OpenRow v sz n l b cp j) (hl : l'.length = l.length) (s : Sel h (pt b (cl (l' ++ j) E)) h') (hx : Cd c x Q e (vec v E sz n l' :: h')) : Cd c x Q e h :=
  fun a w hk hh hw => hx a w hk (Holds.shutRow ho hl (hh.sel s)) hw
end
end Go.Ck
namespace Go.Proofs.Ytmhmpjgkkpbnnaa
open Go.Ck Fx Go.Hm
attribute [local irreducible] St Cd Xt Nx DrL LsW

def Mem.knw (μ : Mem) (k : Int × Int) : Int := μ.n.wd (k.1 + 1 + k.2)
/-- The fields of an object that refer, up to the i-th. -/
def Mem.refsTo (μ : Mem) (s : Sp) (t : Int) (i : Nat) : List Int := (List.range i).filterMap fun j => if (shAt μ.sh (s.wd t)).getD j false then some (s.wd (t + 1 + j)) else none
def Mem.refsOf (μ : Mem) (s : Sp) (t : Int) : List Int := μ.refsTo s t (shAt μ.sh (s.wd t)).length
def Mem.meets (μ : Mem) (l ts : List Int) : List Int := ts.foldl μ.meet l
def Mem.needLoop (μ : Mem) : Nat → Nat → List Int → Int → Int
  | 0, _, _, n => n
  | k + 1, i, l, n => if i < l.length then needLoop μ k (i + 1) (μ.meets l (μ.refsOf μ.y (l.getD i 0))) (n + μ.osz μ.y (l.getD i 0)) else n
def Mem.needed (μ : Mem) (roots : List Int) : Int := μ.needLoop (μ.y.us + 1) 0 (μ.meets (μ.meets [] roots) (μ.kn.map μ.knw)) 0
/-- All that were met are young, and different. -/
def Mem.Met (μ : Mem) (l : List Int) : Prop := l.Nodup ∧ ∀ x ∈ l, μ.y.begins x = true
theorem Mem.Met.meet {μ : Mem} {l : List Int} (h : μ.Met l) (t : Int) : μ.Met (μ.meet l t) := by
  unfold Mem.meet
  split
  · rename_i hc
    simp only [Bool.and_eq_true, Bool.not_eq_true'] at hc
    have hn : ¬ t ∈ l := fun hm => by have := hc.2; simp [List.contains_iff_mem, hm] at this
    refine ⟨List.nodup_append.2 ⟨h.1, by simp, fun a ha b hb => by simp at hb; subst hb; exact fun e => hn (e ▸ ha)⟩, fun x hx => ?_⟩
    rcases List.mem_append.1 hx with h1 | h1
    · exact h.2 x h1
    · simp at h1; subst h1; exact hc.1
  · exact h
theorem Mem.Met.meets {μ : Mem} {l : List Int} (h : μ.Met l) : ∀ ts, μ.Met (μ.meets l ts)
  | [] => h
  | t :: ts => Mem.Met.meets (h.meet t) ts
theorem Mem.Met.len {μ : Mem} {l : List Int} (h : μ.Met l) : l.length ≤ μ.y.us :=
  nodup_le μ.y.us μ.y.fr l h.1 fun x hx => begins_bd (h.2 x hx)
theorem meets_snoc {μ : Mem} {l ts : List Int} {t : Int} : μ.meets l (ts ++ [t]) = μ.meet (μ.meets l ts) t := by simp [Mem.meets, List.foldl_append]
theorem refsTo_yes {μ : Mem} {s : Sp} {t : Int} {i : Nat} (h : (shAt μ.sh (s.wd t)).getD i false = true) : μ.refsTo s t (i + 1) = μ.refsTo s t i ++ [s.wd (t + 1 + i)] := by
  unfold Mem.refsTo; rw [List.range_succ, List.filterMap_append]; congr 1; simp only [List.filterMap_cons, List.filterMap_nil, h, if_true]
theorem refsTo_no {μ : Mem} {s : Sp} {t : Int} {i : Nat} (h : (shAt μ.sh (s.wd t)).getD i false = false) : μ.refsTo s t (i + 1) = μ.refsTo s t i := by
  unfold Mem.refsTo; rw [List.range_succ, List.filterMap_append]; simp only [List.filterMap_cons, List.filterMap_nil, h, Bool.false_eq_true, if_false, List.append_nil]
theorem meet_pre {μ : Mem} {l : List Int} {t : Int} : l <+: μ.meet l t := by
  unfold Mem.meet; split
  · exact List.prefix_append _ _
  · exact List.prefix_refl _
theorem meets_pre {μ : Mem} : ∀ {ts l : List Int}, l <+: μ.meets l ts
  | [], l => List.prefix_refl _
  | t :: ts, l => (meet_pre (μ := μ) (t := t)).trans (meets_pre (ts := ts))

def needSH (L : MemL) (μ : Mem) (S R : Res) : SH := [knR L μ, mb L μ, sb L.y μ.y, wb L.y μ.y, tb L.y μ.y, sb L.n μ.n, wb L.n μ.n, S, R]
set_option maxHeartbeats 2000000 in
set_option maxRecDepth 100000 in
theorem needed_ct {L : MemL} {μ : Mem} {S R : Res} {v : Value} {roots : List Int} (oy : μ.y.Ok) (on : μ.n.Ok) (hS : Shp S L.vs μ.sh) (hl : ShOk μ.sh) (py : SpOk μ.sh μ.y) (hv : RowI R v roots) (hrl : roots.length ≤ 1000000) (hkl : μ.kn.length ≤ 1000000)
    (hkn : ∀ k ∈ μ.kn, (μ.n.fr : Int) ≤ k.1 ∧ 0 ≤ k.2 ∧ k.1 + 1 + k.2 < (μ.n.fr : Int) + μ.n.ws.length) :
    Reads Try.prog 85 #[.pointer (some ⟨L.mb, 0, none⟩), v] (needSH L μ S R) (.int .i64 (μ.needed roots)) := by
  have h1y := oy.us; have h2y := oy.fr; have h3y := oy.ws; have h2n := on.fr; have h3n := on.ws
  obtain ⟨ra, rcp, hv1, _⟩ := id hv
  unfold needSH
  refine ct_ofM (n := 91) Try.func85 rfl rfl (len rfl) fun hr w0 => ?_
  refine cd_seq (cd_region (st_bx rfl rfl fun b2 => ?_))
  refine st_v (v_assign rfl) (st_nil (nx_kp [1, 2, 4] rfl (nx_then (cd_seq (cd_region (st_makeMap (ltn rfl) fun mp => ?_))))))
  refine st_alc al174 fun b5 => ?_
  refine st_sto rfl rfl sz174 ?_
  refine st_nil (nx_kp [1, 2, 4, 5] rfl (nx_then (cd_seq (cd_region (st_alc al34 fun b6 => ?_)))))
  refine st_nil (nx_then (cd_seq (cd_region (st_v (v_makeFunc rfl rfl) (st_alc al175 fun b7 => ?_)))))
  refine st_sto rfl rfl sz175 ?_
  refine st_nil (nx_kp [1, 2, 4, 6, 7] rfl (nx_then (cd_seq (cd_seq (cd_region (st_v (v_move rfl) (st_v (v_len (congrArg some hv1) Try.underlying34) (st_v (v_move rfl) (st_nil (nx_kp [2, 4, 6, 7, 18, 19, 20] rfl (nx_then (cd_block (cd_vecnil 3 1 ?_)))))))))))))
  refine cd_loop (σ := Nat × Value) (fun q => [(2, .pointer (some ⟨b2, 0, none⟩)), (6, .pointer (some ⟨b6, 0, none⟩)), (7, .pointer (some ⟨b7, 0, none⟩)), (18, v), (19, .int .i64 roots.length), (20, .int .i64 (q.1 : Nat))]) (fun q => (mtSH L μ b2 b5 b6 mp q.2 (μ.meets [] (roots.take q.1)) ++ ([pt b7 (cl [.func (.func 116) #[] #[.pointer (some ⟨b2, 0, none⟩), .pointer (some ⟨b5, 0, none⟩), .pointer (some ⟨b6, 0, none⟩)]] 175), wb L.y μ.y, sb L.n μ.n, wb L.n μ.n, knR L μ, S, R] ++ hr))) (fun q => q.1 ≤ roots.length ∧ μ.Met (μ.meets [] (roots.take q.1))) (fun q => roots.length - q.1) (0, .slice none 0 0) ⟨Nat.zero_le _, ⟨List.nodup_nil, fun _ h => by cases h⟩⟩ ⟨rfl, rfl, rfl, rfl, rfl, rfl, trivial⟩ (by unfold mtSH; dsimp only; exact (by repeat (first | exact Sub.refl _ | exact Sub.nil _ | refine Sub.sel (by repeat (first | exact Sel.here | apply Sel.there)) ?_ | apply Sub.cons))) ?_
  rintro ⟨i, lv⟩ ⟨hi, hmet⟩
  have hml := hmet.len
  dsimp only at hi hmet hml ⊢
  unfold mtSH
  simp only [List.cons_append, List.nil_append]
  refine cd_seq (cd_region (st_v (v_lss rfl rfl) (st_nil (nx_then (cd_seq (cd_cond rfl (fun hc => ?_) (fun hc => ?_)))))))
  · skip
    have hlt : i < roots.length := by simpa using hc
    obtain ⟨b, o, cp', hv2, hrd⟩ := hv.at hlt
    refine cd_skip (xt_then (cd_seq (cd_block (cd_seq (cd_region (st_v (v_ixo i (congrArg some hv2) rfl sl34 rfl hlt) (st_v (v_ld rfl ld3) ?_)))))))
    refine st_v (v_assign rfl) (st_nil (nx_kp [2, 6, 7, 9, 18, 19, 20] rfl (nx_then (cd_region (st_v (v_ld rfl ld175) ?_)))))
    refine st_v (v_move rfl) (st_call rfl rfl en116 rfl (meet_ct (L := L) (μ := μ) (b1 := b2) (b2 := b5) (b3 := b6) (mp := mp) (lv := lv) (l := μ.meets [] (roots.take i)) (t := roots[i]) oy (by omega)) (Pk.cons (by repeat (first | exact Sel.here | apply Sel.there)) (Pk.cons (by repeat (first | exact Sel.here | apply Sel.there)) (Pk.cons (by repeat (first | exact Sel.here | apply Sel.there)) (Pk.cons (by repeat (first | exact Sel.here | apply Sel.there)) (Pk.cons (by repeat (first | exact Sel.here | apply Sel.there)) (Pk.cons (by repeat (first | exact Sel.here | apply Sel.there)) (Pk.cons (by repeat (first | exact Sel.here | apply Sel.there)) (Pk.cons (by repeat (first | exact Sel.here | apply Sel.there)) (Pk.nil))))))))) (ltn rfl) ?_)
    rintro v' h' ⟨rfl, lv', rfl⟩
    unfold mtSH
    simp only [List.cons_append, List.nil_append]
    have htk : μ.meets [] (roots.take (i + 1)) = μ.meet (μ.meets [] (roots.take i)) roots[i] := by rw [List.take_succ_eq_append_getElem hlt, meets_snoc]
    refine st_nil (nx_kp [2, 6, 7, 18, 19, 20] rfl (nx_xt (xt_normal_block (xt_then (cd_region (st_v (v_add rfl rfl (by unfold I64 at *; omega)) (st_v (v_move rfl) (st_nil (nx_kp [2, 6, 7, 18, 19, 20] rfl (nx_xt (xt_again (i + 1, lv') ⟨hlt, by dsimp only; rw [htk]; exact hmet.meet _⟩ (by show _ - _ < _ - _; omega) ⟨rfl, rfl, rfl, rfl, rfl, rfl, trivial⟩ ?_)))))))))))
    dsimp only
    rw [htk]
    exact (by repeat (first | exact Sub.refl _ | exact Sub.nil _ | refine Sub.sel (by repeat (first | exact Sel.here | apply Sel.there)) ?_ | apply Sub.cons))
  · skip
    have hge : roots.take i = roots := List.take_of_length_le (by simpa using hc)
    rw [hge] at hmet ⊢
    refine cd_vecshape (v := L.vk) (by unfold knR; repeat (first | exact Sel.here | apply Sel.there)) fun ka kcp hkv hka => ?_
    refine cd_exit (xt_exit_then (xt_exit_then (xt_exit_block (xt_then (cd_seq (cd_seq (cd_region (st_v (v_ld rfl ld27) ?_))))))))
    refine st_v (v_nilCheck rfl) (st_v (v_fieldAddr rfl fa100_4 rfl) (st_v (v_ld rfl ld98) ?_))
    refine st_v (v_len (congrArg some hkv) Try.underlying98) (st_v (v_move rfl) (st_nil (nx_kp [2, 6, 7, 31, 32, 33] rfl (nx_then (cd_block (cd_loop (σ := Nat × Value) (fun q => [(2, .pointer (some ⟨b2, 0, none⟩)), (6, .pointer (some ⟨b6, 0, none⟩)), (7, .pointer (some ⟨b7, 0, none⟩)), (31, L.vk), (32, .int .i64 μ.kn.length), (33, .int .i64 (q.1 : Nat))]) (fun q => (mtSH L μ b2 b5 b6 mp q.2 (μ.meets (μ.meets [] roots) ((μ.kn.take q.1).map μ.knw)) ++ ([pt b7 (cl [.func (.func 116) #[] #[.pointer (some ⟨b2, 0, none⟩), .pointer (some ⟨b5, 0, none⟩), .pointer (some ⟨b6, 0, none⟩)]] 175), wb L.y μ.y, sb L.n μ.n, wb L.n μ.n, knR L μ, S, R] ++ hr))) (fun q => q.1 ≤ μ.kn.length ∧ μ.Met (μ.meets (μ.meets [] roots) ((μ.kn.take q.1).map μ.knw))) (fun q => μ.kn.length - q.1) (0, lv) ⟨Nat.zero_le _, hmet⟩ ⟨rfl, rfl, rfl, rfl, rfl, rfl, trivial⟩ (by unfold mtSH; dsimp only; exact (by repeat (first | exact Sub.refl _ | exact Sub.nil _ | refine Sub.sel (by repeat (first | exact Sel.here | apply Sel.there)) ?_ | apply Sub.cons))) ?_))))))
    rintro ⟨i, lv⟩ ⟨hi, hmet⟩
    have hml := hmet.len
    dsimp only at hi hmet hml ⊢
    unfold mtSH
    simp only [List.cons_append, List.nil_append]
    refine cd_seq (cd_region (st_v (v_lss rfl rfl) (st_nil (nx_then (cd_seq (cd_cond rfl (fun hc2 => ?_) (fun hc2 => ?_)))))))
    · skip
      have hlt : i < μ.kn.length := by simpa using hc2
      obtain ⟨kb, rfl⟩ := hka (by omega)
      have hp : μ.kn[i]? = some μ.kn[i] := List.getElem?_eq_getElem hlt
      have hkk := hkn μ.kn[i] (List.getElem_mem hlt)
      have hrd : Rd (wb L.n μ.n) ⟨L.n.wb, (μ.kn[i].1 + 1 + μ.kn[i].2 - μ.n.fr).toNat, none⟩ (.int .i64 (μ.knw μ.kn[i])) := rd_ints (by omega)
      refine cd_skip (xt_then (cd_seq (cd_block (cd_seq (cd_region (st_v (v_indexAddr (congrArg some hkv) rfl sl98 rfl hlt (Nat.zero_add _)) (st_v (v_loadR (r := knR L μ) rfl ld131 rfl (by repeat (first | exact Sel.here | apply Sel.there)) (kn_rds hkv hp)) ?_)))))))
      refine st_alc al131 fun b11 => ?_
      refine st_stoW rfl rfl sz131 rfl rfl ?_
      refine st_nil (nx_kp [2, 6, 7, 11, 31, 32, 33] rfl (nx_then (cd_drawh (ork [(0, 1), (1, 1), (2, 2), (3, 2), (4, 1), (5, 2), (6, 2), (7, 2), (8, 1), (9, 2), (10, 2), (11, 1), (12, 2), (13, 1), (14, 2), (15, 1), (16, 0)] .nil) (fun i => !(Nat.beq i 16)) mixed (by kernel_rfl) ?_)))
      refine dr_v rfl (v_ld rfl ld175) ?_
      refine dr_v rfl (v_ld rfl ld27) ?_
      refine dp_v rfl (v_nilCheck rfl) (dp_v rfl (v_fieldAddr rfl fa100_2 rfl) (dr_v rfl (v_ld rfl ld95) ?_))
      refine dp_v rfl (v_nilCheck rfl) (dp_v rfl (v_fieldAddr rfl fa117_0 rfl) (dp_v rfl (v_fieldAddr rfl fa131_0 rfl) (dr_v rfl (v_ld rfl ld3) ?_)))
      refine dp_v rfl (v_add rfl rfl (by unfold I64 at *; omega)) (dp_v rfl (v_fieldAddr rfl fa131_1 rfl) (dr_v rfl (v_ld rfl ld3) ?_))
      refine dp_v rfl (v_add rfl rfl (by unfold I64 at *; omega)) (dr_clr rfl rfl rfl en61 rfl (word_ct (l := L.n) (s := μ.n) on (by omega) (by omega)) ?_)
      refine dp_v rfl (v_nilCheck rfl) (dr_v rfl (v_ld rfl ld3) ?_)
      refine dr_eff rfl (st_call rfl rfl en116 rfl (meet_ct (L := L) (μ := μ) (b1 := b2) (b2 := b5) (b3 := b6) (mp := mp) (lv := lv) (l := μ.meets (μ.meets [] roots) ((μ.kn.take i).map μ.knw)) (t := μ.knw μ.kn[i]) oy (by omega)) (Pk.cons (by repeat (first | exact Sel.here | apply Sel.there)) (Pk.cons (by repeat (first | exact Sel.here | apply Sel.there)) (Pk.cons (by repeat (first | exact Sel.here | apply Sel.there)) (Pk.cons (by repeat (first | exact Sel.here | apply Sel.there)) (Pk.cons (by repeat (first | exact Sel.here | apply Sel.there)) (Pk.cons (by repeat (first | exact Sel.here | apply Sel.there)) (Pk.cons (by repeat (first | exact Sel.here | apply Sel.there)) (Pk.cons (by repeat (first | exact Sel.here | apply Sel.there)) (Pk.nil))))))))) (ltn rfl) ?_)
      rintro v' h' ⟨rfl, lv', rfl⟩
      unfold mtSH
      simp only [List.cons_append, List.nil_append]
      have htk : μ.meets (μ.meets [] roots) ((μ.kn.take (i + 1)).map μ.knw) = μ.meet (μ.meets (μ.meets [] roots) ((μ.kn.take i).map μ.knw)) (μ.knw μ.kn[i]) := by rw [List.take_succ_eq_append_getElem hlt, List.map_append, List.map_cons, List.map_nil, meets_snoc]
      refine dr_nx ?_
      refine dr_nil (nx_kp [2, 6, 7, 31, 32, 33] rfl (nx_xt (xt_normal_block (xt_then (cd_region (st_v (v_add rfl rfl (by unfold I64 at *; omega)) (st_v (v_move rfl) (st_nil (nx_kp [2, 6, 7, 31, 32, 33] rfl (nx_xt (xt_again (i + 1, lv') ⟨hlt, by dsimp only; rw [htk]; exact hmet.meet _⟩ (by show _ - _ < _ - _; omega) ⟨rfl, rfl, rfl, rfl, rfl, rfl, trivial⟩ ?_)))))))))))
      dsimp only
      rw [htk]
      exact (by repeat (first | exact Sub.refl _ | exact Sub.nil _ | refine Sub.sel (by repeat (first | exact Sel.here | apply Sel.there)) ?_ | apply Sub.cons))
    · skip
      have hge2 : μ.kn.take i = μ.kn := List.take_of_length_le (by simpa using hc2)
      rw [hge2] at hmet hml ⊢
      refine cd_exit (xt_exit_then (xt_exit_then (xt_exit_block (xt_then (cd_seq (cd_region (st_v (v_assign rfl) (st_nil (nx_kp [2, 6, 7, 12] rfl (nx_then (cd_seq (cd_seq (cd_region (st_v (v_assign rfl) (st_nil (nx_then ?_))))))))))))))))
      refine cd_block (cd_marks0 (cd_loopD (σ := Nat × List Int × Value × Int × List Nat) (fun q => q.2.2.2.2.map mk) (fun q => [(2, .pointer (some ⟨b2, 0, none⟩)), (6, .pointer (some ⟨b6, 0, none⟩)), (7, .pointer (some ⟨b7, 0, none⟩)), (12, .int .i64 q.2.2.2.1), (13, .int .i64 (q.1 : Nat))]) (fun q => (Res.star (marks q.2.2.2.2) :: (mtSH L μ b2 b5 b6 mp q.2.2.1 q.2.1 ++ ([pt b7 (cl [.func (.func 116) #[] #[.pointer (some ⟨b2, 0, none⟩), .pointer (some ⟨b5, 0, none⟩), .pointer (some ⟨b6, 0, none⟩)]] 175), wb L.y μ.y, sb L.n μ.n, wb L.n μ.n, knR L μ, S, R] ++ hr)))) (fun q => q.1 ≤ q.2.1.length ∧ μ.Met q.2.1 ∧ 0 ≤ q.2.2.2.1 ∧ q.2.2.2.1 ≤ 101 * (q.1 : Int) ∧ μ.needLoop (μ.y.us + 1 - q.1) q.1 q.2.1 q.2.2.2.1 = μ.needed roots) (fun q => μ.y.us + 1 - q.1) (0, μ.meets (μ.meets [] roots) (μ.kn.map μ.knw), lv, 0, []) ⟨Nat.zero_le _, hmet, Int.le_refl _, by simp, rfl⟩ rfl ⟨rfl, rfl, rfl, rfl, rfl, trivial⟩ (by unfold mtSH; dsimp only; exact (by repeat (first | exact Sub.refl _ | exact Sub.nil _ | refine Sub.sel (by repeat (first | exact Sel.here | apply Sel.there)) ?_ | apply Sub.cons))) ?_))
      rintro ⟨i, l, lv, n, bs⟩ ⟨hi, hmet, hn0, hn1, htot⟩
      have hml := hmet.len
      dsimp only at hi hmet hml hn0 hn1 htot ⊢
      refine cd_vecshape (v := lv) (E := 3) (sz := 1) (n := l.length) (l := ints l) (by unfold mtSH; repeat (first | exact Sel.here | apply Sel.there)) fun la lcp hlv hla => ?_
      unfold mtSH
      simp only [List.cons_append, List.nil_append]
      refine cd_seq (cd_seq (cd_region (st_v (v_move rfl) (st_v (v_ld rfl ld34) ?_))))
      refine st_v (v_len (congrArg some hlv) Try.underlying34) (st_v (v_lss rfl rfl) (st_nil (nx_kp [2, 6, 7, 12, 13, 58] rfl (nx_then (cd_cond rfl (fun hc3 => ?_) (fun hc3 => ?_))))))
      · skip
        have hlt : i < l.length := by simpa using hc3
        obtain ⟨lb, rfl⟩ := hla (by omega)
        have hli : l.getD i 0 = l[i] := getD_lt hlt
        have hb := hmet.2 l[i] (List.getElem_mem hlt)
        have hbd := begins_bd hb
        obtain ⟨hk0, hk1, hfit⟩ := py l[i] hb
        have hsz := hl.at (μ.y.wd l[i])
        have hrd : Rd (vec lv 3 1 l.length (ints l)) ⟨lb, i, none⟩ (.int .i64 l[i]) := rd_vec hlv (by simp [ints, hlt])
        have hstep : μ.needLoop (μ.y.us + 1 - (i + 1)) (i + 1) (μ.meets l (μ.refsOf μ.y l[i])) (n + μ.osz μ.y l[i]) = μ.needed roots := by
          rw [← htot, show μ.y.us + 1 - i = (μ.y.us + 1 - (i + 1)) + 1 by omega]
          show _ = if i < l.length then _ else _
          rw [if_pos hlt, hli]
        refine cd_skip (xt_then (cd_seq (cd_block (cd_seq (cd_drawh (ork [(0, 2), (1, 1), (2, 1), (3, 2), (4, 2), (5, 1), (6, 1), (7, 2), (8, 2), (9, 1), (10, 1), (11, 2), (12, 2)] .nil) (fun _ => true) mixed (by kernel_rfl) ?_)))))
        refine dp_v rfl (v_move rfl) (dr_v rfl (v_ld rfl ld27) ?_)
        refine dr_v rfl (v_ld rfl ld27) ?_
        refine dp_v rfl (v_nilCheck rfl) (dp_v rfl (v_fieldAddr rfl fa100_1 rfl) (dr_v rfl (v_ld rfl ld95) ?_))
        refine dr_v rfl (v_ld rfl ld34) ?_
        refine dp_v rfl (v_move rfl) (dp_v rfl (v_idx i (congrArg some hlv) rfl sl34 rfl hlt) (dr_v rfl (v_ld rfl ld3) ?_))
        refine dr_clr rfl rfl rfl en112 rfl (size_ct (L := L) (μ := μ) (S := S) (l := L.y) (s := μ.y) oy hbd.1 (by omega) hS hl hk0 hk1) ?_
        refine dp_v rfl (v_add rfl rfl (by unfold I64 at *; omega)) (dp_v rfl (v_assign rfl) (dr_nil (nx_kp [2, 6, 7, 12, 13] rfl (nx_then (cd_seq (cd_drawh (ork [(0, 1), (1, 1), (2, 2), (3, 2), (4, 1), (5, 1), (6, 2), (7, 2), (8, 1), (9, 0)] .nil) (fun i => !(Nat.beq i 9)) mixed (by kernel_rfl) ?_))))))
        refine dr_v rfl (v_ld rfl ld27) ?_
        refine dr_v rfl (v_ld rfl ld27) ?_
        refine dp_v rfl (v_nilCheck rfl) (dp_v rfl (v_fieldAddr rfl fa100_1 rfl) (dr_v rfl (v_ld rfl ld95) ?_))
        refine dr_v rfl (v_ld rfl ld34) ?_
        refine dp_v rfl (v_move rfl) (dp_v rfl (v_idx i (congrArg some hlv) rfl sl34 rfl hlt) (dr_v rfl (v_ld rfl ld3) ?_))
        refine dr_eff rfl (st_cl rfl rfl en70 rfl (refs_ct (mp := .pointer (some ⟨L.mb, 0, none⟩)) (sp := .pointer (some ⟨L.y.sb, 0, none⟩)) (t := l[i]) rfl rfl) ?_)
        rintro v' h' ⟨c1, c2, c3, rfl, rfl⟩
        simp only [List.cons_append, List.nil_append]
        refine dr_nx ?_
        refine dr_nil (nx_kp [2, 6, 7, 12, 13, 82] rfl (nx_then (cd_block (cd_range' rfl en108 fun yl db rec hst hpe hps has hbo hkn2 => ?_))))
        refine ⟨_, Ct.perm (refs1_ct (σ := List Int × Value) (L := L) (S := S) (sh := μ.sh) (l := L.y) (b1 := c1) (b2 := c2) (b3 := c3) (yl := yl) (fr := μ.y.fr) (ln := μ.y.ws.length) (t := l[i]) (row := shAt μ.sh (μ.y.wd l[i])) (fun _ => μ) (fun _ => μ.y)
          (fun q => pt yl (.loop rec) :: pt db (.deferred (some [])) :: Res.star (marks bs) :: pt b2 (cl [.pointer (some ⟨L.mb, 0, none⟩)] 27) :: pt b5 (cl [.map (some mp)] 174) :: pt b6 (cl [q.2] 34) :: mpr mp (mtv q.1) :: vec q.2 3 1 q.1.length (ints q.1) :: tb L.y μ.y :: pt b7 (cl [.func (.func 116) #[] #[.pointer (some ⟨b2, 0, none⟩), .pointer (some ⟨b5, 0, none⟩), .pointer (some ⟨b6, 0, none⟩)]] 175) :: sb L.n μ.n :: wb L.n μ.n :: knR L μ :: R :: hr)
          (fun j q => q.1 = μ.meets l (μ.refsTo μ.y l[i] j) ∧ μ.Met q.1) (fun _ => False) (l, lv) ⟨rfl, hmet⟩ hS hl hk0 hk1 rfl (fun _ _ _ => ⟨oy, rfl, rfl⟩) hbd.1 (by omega) ?_ ?_) ?_, ?_⟩
        · rintro j q hj hrow ⟨hq, hqm⟩
          have hqml := hqm.len
          have hrdw : Rd (wb L.y μ.y) ⟨L.y.wb, (l[i] + 1 + j - μ.y.fr).toNat, none⟩ (.int .i64 (μ.y.wd (l[i] + 1 + j))) := rd_ints (by omega)
          refine Yc.perm (yc_of (n := 91) (rec := rec) (args := [.int .i64 j, .pointer (some ⟨L.y.wb, (l[i] + 1 + j - μ.y.fr).toNat, none⟩)])
            (hf := pt c1 (cl [.pointer (some ⟨L.mb, 0, none⟩)] 27) :: pt c2 (cl [.pointer (some ⟨L.y.sb, 0, none⟩)] 95) :: pt c3 (cl [.int .i64 l[i]] 3) :: mb L μ :: sb L.y μ.y :: wb L.y μ.y :: S :: pt db (.deferred (some [])) :: Res.star (marks bs) :: pt b2 (cl [.pointer (some ⟨L.mb, 0, none⟩)] 27) :: pt b5 (cl [.map (some mp)] 174) :: pt b6 (cl [q.2] 34) :: mpr mp (mtv q.1) :: vec q.2 3 1 q.1.length (ints q.1) :: tb L.y μ.y :: pt b7 (cl [.func (.func 116) #[] #[.pointer (some ⟨b2, 0, none⟩), .pointer (some ⟨b5, 0, none⟩), .pointer (some ⟨b6, 0, none⟩)]] 175) :: sb L.n μ.n :: wb L.n μ.n :: knR L μ :: R :: hr) (by rw [hps]; rfl) hkn2 (by rw [hps]; decide) ?_) ?_
          · intro hr2 w1
            rw [has, hps, hbo]
            simp only [List.cons_append, List.nil_append]
            refine cd_region (st_v (v_assign rfl) (st_nil (nx_kp [7, 15] rfl (nx_xt (xt_mid rfl (by repeat (first | exact Sel.here | apply Sel.there)) (by first | rfl | assumption) ?_)))))
            refine cd_block (cd_drawh (ork [(0, 1), (1, 2), (2, 2), (3, 1), (4, 0)] .nil) (fun i => !(Nat.beq i 4)) mixed (by kernel_rfl) ?_)
            refine dr_v rfl (v_ld rfl ld175) ?_
            refine dp_v rfl (v_move rfl) (dp_v rfl (v_nilCheck rfl) (dr_v rfl (v_ld rfl ld3) ?_))
            refine dr_eff rfl (st_call rfl rfl en116 rfl (meet_ct (L := L) (μ := μ) (b1 := b2) (b2 := b5) (b3 := b6) (mp := mp) (lv := q.2) (l := q.1) (t := μ.y.wd (l[i] + 1 + j)) oy (by omega)) (Pk.cons (by repeat (first | exact Sel.here | apply Sel.there)) (Pk.cons (by repeat (first | exact Sel.here | apply Sel.there)) (Pk.cons (by repeat (first | exact Sel.here | apply Sel.there)) (Pk.cons (by repeat (first | exact Sel.here | apply Sel.there)) (Pk.cons (by repeat (first | exact Sel.here | apply Sel.there)) (Pk.cons (by repeat (first | exact Sel.here | apply Sel.there)) (Pk.cons (by repeat (first | exact Sel.here | apply Sel.there)) (Pk.cons (by repeat (first | exact Sel.here | apply Sel.there)) (Pk.nil))))))))) (ltn rfl) ?_)
            rintro v' h' ⟨rfl, lv', rfl⟩
            unfold mtSH
            simp only [List.cons_append, List.nil_append]
            refine dr_nx ?_
            refine dr_nil (nx_kp [] rfl (nx_xt (xt_normal_block (xt_round (by repeat (first | exact Sel.here | apply Sel.there)) ⟨(μ.meet q.1 (μ.y.wd (l[i] + 1 + j)), lv'), rfl, .inl ⟨rfl, ?_, hqm.meet _⟩⟩ ?_))))
            · show μ.meet q.1 _ = _
              rw [refsTo_yes (by rw [getD_lt hj]; exact hrow), meets_snoc, hq]
            · rw [rec_back hst hpe]
              unfold refH
              dsimp only
              exact (by repeat (first | exact Sub.refl _ | exact Sub.nil _ | refine Sub.sel (by repeat (first | exact Sel.here | apply Sel.there)) ?_ | apply Sub.cons))
          · unfold refH
            exact (by repeat (first | exact Pm.refl | refine Pm.cons (by repeat (first | exact Sel.here | apply Sel.there)) ?_) : Pm _ _).perm
        · rintro j q hj hrow ⟨hq, hqm⟩
          exact ⟨by rw [refsTo_no (by rw [getD_lt hj]; exact hrow)]; exact hq, hqm⟩
        · unfold refH
          exact (by repeat (first | exact Pm.refl | refine Pm.cons (by repeat (first | exact Sel.here | apply Sel.there)) ?_) : Pm _ _).perm
        · rintro v' h' ⟨rfl, ⟨l', lv'⟩, rfl, (⟨hq, hqm⟩ | hf)⟩
          · dsimp only at hq hqm
            have hpre : l <+: l' := by rw [hq]; exact meets_pre
            have hlen := hpre.length_le
            refine ⟨rec, _, (by unfold refH; repeat (first | exact Sel.here | apply Sel.there)), (by rw [hst]; simp), ?_⟩
            rw [hpe]
            dsimp only
            refine xt_mark (by repeat (first | exact Sel.here | apply Sel.there)) (by repeat (first | exact Sel.here | apply Sel.there)) ?_
            refine xt_normal_block (xt_normal_block (xt_then (cd_region (st_v (v_move rfl) (st_v (v_add rfl rfl (by unfold I64 at *; omega)) (st_v (v_assign rfl) (st_nil (nx_kp [2, 6, 7, 12, 13] rfl (nx_xt (xt_againD (i + 1, l', lv', n + (1 + ((shAt μ.sh (μ.y.wd l[i])).length : Int)), db :: bs) ⟨by dsimp only; omega, hqm, by dsimp only; omega, by dsimp only; omega, ?_⟩ (by show _ - _ < _ - _; omega) rfl ⟨rfl, rfl, rfl, rfl, rfl, trivial⟩ ?_))))))))))
            · have ho : ((μ.osz μ.y l[i] : Nat) : Int) = 1 + ((shAt μ.sh (μ.y.wd l[i])).length : Int) := by unfold Mem.osz; omega
              rw [ho] at hstep
              dsimp only
              rw [hq]
              exact hstep
            · dsimp only
              exact (by repeat (first | exact Sub.refl _ | exact Sub.nil _ | refine Sub.sel (by repeat (first | exact Sel.here | apply Sel.there)) ?_ | apply Sub.cons))
          · exact hf.elim
      · skip
        have hge : i = l.length := by have : l.length ≤ i := by simpa using hc3
                                      omega
        have hres : n = μ.needed roots := by
          rw [← htot, show μ.y.us + 1 - i = (μ.y.us - i) + 1 by omega]
          show _ = if i < l.length then _ else _
          rw [if_neg (by omega)]
        subst hres
        refine cd_exit (xt_exit_then (xt_exit_then (xt_exit_block (xt_then (cd_seq (cd_region (st_v (v_move rfl) (st_v (v_assign rfl) (st_nil (nx_kp [4] rfl (nx_then (cd_ret ?_))))))))))))
        exact xt_retS (bs := bs) rfl rfl ⟨rfl, rfl⟩ (by exact (by repeat (first | exact Sub.refl _ | exact Sub.nil _ | refine Sub.sel (by repeat (first | exact Sel.here | apply Sel.there)) ?_ | apply Sub.cons)))
end Go.Proofs.Ytmhmpjgkkpbnnaa
namespace Go.Proofs.Ytmhmpjgkkpbnnaa
open Go.Ck Fx Go.Hm
attribute [local irreducible] St Cd Xt Nx DrL LsW

theorem rowI_rd {R : Res} {l : List Int} {b o j : Nat} {u : Value} (hr : ∀ j (h : j < l.length), Rd R ⟨b, o + j, none⟩ (.int .i64 l[j])) (hu : (ints l)[j]? = some u) : Rd R ⟨b, o + j, none⟩ u := by
  simp only [ints, List.getElem?_map, Option.map_eq_some_iff] at hu
  obtain ⟨x, hx, rfl⟩ := hu
  obtain ⟨hj, rfl⟩ := List.getElem?_eq_some_iff.1 hx
  exact hr j hj
set_option maxRecDepth 100000 in
theorem clone_ct {R : Res} {v : Value} {l : List Int} (hv : RowI R v l) (hl : l.length ≤ 1000000) : Ct Try.prog 76 #[v] [R] fun u h' => h' = [vec u 3 1 l.length (ints l), R] := by
  obtain ⟨a, cp, rfl, hv2⟩ := hv
  rcases row_cases (a := a) hv2 with ⟨rfl, rfl⟩ | ⟨a', rfl, rfl⟩ | ⟨b, o, rfl, hrl⟩
  · skip
    refine ct_of (n := 8) Try.func76 rfl rfl (len rfl) fun hr w0 => ?_
    refine cd_seq (cd_region (st_v (v_assign rfl) (st_nil (nx_then (cd_seq (cd_seq (cd_region (st_v (v_move rfl) (st_v (v_eql_slice_nil rfl rfl Try.underlying34) (st_nil (nx_kp [0, 2, 4] rfl (nx_then (cd_cond rfl (fun hc => ?_) (fun hc => ?_))))))))))))))
    · skip
      refine cd_seq (cd_region (st_val (v_assign rfl) (ltn rfl) (st_nil (nx_then (cd_ret (xt_vecnil 3 1 ?_))))))
      repeat (refine xt_ret_then ?_)
      exact xt_rt rfl rfl
    · exact absurd hc (by simp)
  · skip
    refine ct_of (n := 8) Try.func76 rfl rfl (len rfl) fun hr w0 => ?_
    refine cd_seq (cd_region (st_v (v_assign rfl) (st_nil (nx_then (cd_seq (cd_seq (cd_region (st_v (v_move rfl) (st_v (v_eql_slice_nil rfl rfl Try.underlying34) (st_nil (nx_kp [0, 2, 4] rfl (nx_then (cd_false rfl ?_)))))))))))))
    refine cd_skip (xt_then (cd_seq (cd_region (st_buildSlice0 Try.underlying34 inf3 (ltn rfl) fun b5 => ?_))))
    refine st_v (v_move rfl) (st_append0 rfl rfl Try.underlying34 inf3 rfl (ltn rfl) (by repeat (first | exact Sel.here | apply Sel.there)) (by omega) (by omega) (ltn rfl) fun u hu hu1 => ?_)
    refine st_v (v_assign rfl) (st_nil (nx_kp [2] rfl (nx_then (cd_ret ?_))))
    exact xt_rt rfl rfl
  · skip
    refine ct_of (n := 8) Try.func76 rfl rfl (len rfl) fun hr w0 => ?_
    refine cd_seq (cd_region (st_v (v_assign rfl) (st_nil (nx_then (cd_seq (cd_seq (cd_region (st_v (v_move rfl) (st_v (v_eql_slice_nil rfl rfl Try.underlying34) (st_nil (nx_kp [0, 2, 4] rfl (nx_then (cd_false rfl ?_)))))))))))))
    refine cd_skip (xt_then (cd_seq (cd_region (st_buildSlice0 Try.underlying34 inf3 (ltn rfl) fun b5 => ?_))))
    refine st_v (v_move rfl) (st_append (news := ints l) rfl rfl Try.underlying34 inf3 rfl (ltn rfl) (by repeat (first | exact Sel.here | apply Sel.there)) (by simp [ints]) (fun j u hu => by repeat (first | exact at_here (rowI_rd hrl hu) | apply at_there)) ints_one (by omega) (by omega) (ltn rfl) fun u hu hu1 => ?_)
    refine st_v (v_assign rfl) (st_nil (nx_kp [2] rfl (nx_then (cd_ret ?_))))
    rw [Nat.zero_add, List.nil_append]
    exact xt_rt rfl rfl
end Go.Proofs.Ytmhmpjgkkpbnnaa
namespace Go.Proofs.Ytmhmpjgkkpbnnaa
open Go.Ck Fx Go.Hm
attribute [local irreducible] St Cd Xt Nx DrL LsW

theorem Reads.unstar {P : Program} {k : FuncId} {args : Array Value} {hf : SH} {v : Value} (h : Reads P k args [Res.star hf] v) : Reads P k args hf v := fun hr w hh =>
  (h hr w (star_iff.2 hh)).mono fun _ _ ⟨u, h', he, ⟨hu, hh'⟩, hH, hS⟩ => ⟨u, hf, he, ⟨hu, rfl⟩, by subst hh'; exact star_iff.1 hH, hS⟩
theorem RowI.star {k k' : SH} {r : Res} {v : Value} {l : List Int} (s : Sel k r k') (h : RowI r v l) : RowI (Res.star k) v l := by
  obtain ⟨a, cp, h1, h2 | ⟨b, o, h3, h4⟩⟩ := h
  · exact ⟨a, cp, h1, .inl h2⟩
  · exact ⟨a, cp, h1, .inr ⟨b, o, h3, fun j hj => rd_star s (h4 j hj)⟩⟩
set_option maxRecDepth 100000 in
theorem sameInts_ct {R : Res} {v1 v2 : Value} {l1 l2 : List Int} (h1 : RowI R v1 l1) (h2 : RowI R v2 l2) (hl : l1.length ≤ 1000000) : Reads Try.prog 21 #[v1, v2] [R] (.bool (l1 == l2)) := by
  obtain ⟨a1, cp1, hv1, _⟩ := id h1
  obtain ⟨a2, cp2, hv2, _⟩ := id h2
  refine ct_of (n := 26) Try.func21 rfl rfl (len rfl) fun hr w0 => ?_
  refine cd_seq (cd_region (st_v (v_assign rfl) (st_nil (nx_then (cd_seq (cd_seq (cd_region (st_v (v_move rfl) (st_v (v_len (congrArg some hv1) Try.underlying34) (st_v (v_move rfl) (st_v (v_len (congrArg some hv2) Try.underlying34) (st_v (v_neq rfl rfl) (st_nil (nx_kp [0, 1, 4, 10] rfl (nx_then (cd_cond rfl (fun hc => ?_) (fun hc => ?_)))))))))))))))))
  · skip
    have hne : ¬ l1 = l2 := fun e => by simp [e] at hc
    rw [beq_eq_false_iff_ne.2 hne]
    refine cd_seq (cd_region (st_v (v_assign rfl) (st_nil (nx_kp [0, 1, 4] rfl (nx_then (cd_ret (xt_ret_then ?_)))))))
    exact xt_rt rfl ⟨rfl, rfl⟩
  · skip
    have hlen : l1.length = l2.length := by simp at hc; omega
    refine cd_skip (xt_then (cd_seq (cd_seq (cd_region (st_v (v_assign rfl) (st_nil (nx_kp [0, 1, 4, 5] rfl (nx_then (cd_block (cd_loop (σ := Nat) (fun i => [(0, v1), (1, v2), (5, .int .i64 (i : Nat))]) (fun _ => R :: hr) (fun i => i ≤ l1.length ∧ ∀ j, j < i → l1[j]? = l2[j]?) (fun i => l1.length - i) 0 ⟨Nat.zero_le _, fun _ h => absurd h (Nat.not_lt_zero _)⟩ ⟨rfl, rfl, rfl, trivial⟩ (Sub.refl _) ?_))))))))))
    rintro i ⟨hi, hsame⟩
    refine cd_seq (cd_seq (cd_region (st_v (v_move rfl) (st_v (v_move rfl) (st_v (v_len (congrArg some hv1) Try.underlying34) (st_v (v_lss rfl rfl) (st_nil (nx_kp [0, 1, 5, 14] rfl (nx_then (cd_cond rfl (fun hd => ?_) (fun hd => ?_)))))))))))
    · skip
      have hlt : i < l1.length := by simpa using hd
      obtain ⟨b1, o1, c1, hw1, hrd1⟩ := h1.at hlt
      obtain ⟨b2, o2, c2, hw2, hrd2⟩ := h2.at (show i < l2.length by omega)
      refine cd_skip (xt_then (cd_seq (cd_block (cd_seq (cd_drawh (ork [(0, 2), (1, 2), (2, 2), (3, 1), (4, 2), (5, 2), (6, 2), (7, 1), (8, 2)] .nil) (fun _ => true) mixed (by kernel_rfl) ?_)))))
      refine dp_v rfl (v_move rfl) (dp_v rfl (v_move rfl) (dp_v rfl (v_ixo i (congrArg some hw1) rfl sl34 rfl hlt) (dr_v rfl (v_ld rfl ld3) ?_)))
      refine dp_v rfl (v_move rfl) (dp_v rfl (v_move rfl) (dp_v rfl (v_ixo i (congrArg some hw2) rfl sl34 rfl (by omega)) (dr_v rfl (v_ld rfl ld3) ?_)))
      refine dp_v rfl (v_neq rfl rfl) (dr_nil (nx_kp [0, 1, 5, 25] rfl (nx_then (cd_cond rfl (fun he => ?_) (fun he => ?_)))))
      · skip
        have hne : ¬ l1 = l2 := fun e => by subst e; simp at he
        rw [beq_eq_false_iff_ne.2 hne]
        refine cd_seq (cd_region (st_v (v_assign rfl) (st_nil (nx_kp [0, 1, 4, 5] rfl (nx_then (cd_ret (xt_ret_block (xt_ret_then (xt_ret_then (xt_ret_block (xt_ret_then ?_)))))))))))
        exact xt_rt rfl ⟨rfl, rfl⟩
      · skip
        refine cd_skip (xt_normal_block (xt_then (cd_region (st_v (v_move rfl) (st_v (v_add rfl rfl (by unfold I64 at *; omega)) (st_v (v_assign rfl) (st_nil (nx_kp [0, 1, 5] rfl (nx_xt (xt_ag (i + 1) ⟨hlt, fun j hj => ?_⟩ (by omega)))))))))))
        by_cases hji : j = i
        · subst hji
          have he' : l1[j] = l2[j] := by simpa using he
          rw [List.getElem?_eq_getElem hlt, List.getElem?_eq_getElem (by omega), he']
        · exact hsame j (by omega)
    · skip
      have hge : l1.length ≤ i := by simpa using hd
      have heq : l1 = l2 := by
        apply List.ext_getElem?; intro j
        rcases Nat.lt_or_ge j l1.length with h | h
        · exact hsame j (by omega)
        · rw [List.getElem?_eq_none h, List.getElem?_eq_none (by omega)]
      rw [beq_iff_eq.2 heq]
      refine cd_exit (xt_exit_then (xt_exit_then (xt_exit_block (xt_then (cd_seq (cd_region (st_v (v_assign rfl) (st_nil (nx_kp [4] rfl (nx_then (cd_ret ?_)))))))))))
      exact xt_rt rfl ⟨rfl, rfl⟩
theorem rowB_rd {R : Res} {l : List Bool} {b o j : Nat} {u : Value} (hr : ∀ j (h : j < l.length), Rd R ⟨b, o + j, none⟩ (.bool l[j])) (hu : (bools l)[j]? = some u) : Rd R ⟨b, o + j, none⟩ u := by
  simp only [bools, List.getElem?_map, Option.map_eq_some_iff] at hu
  obtain ⟨x, hx, rfl⟩ := hu
  obtain ⟨hj, rfl⟩ := List.getElem?_eq_some_iff.1 hx
  exact hr j hj
theorem bools_one {l : List Bool} : ∀ u ∈ bools l, u.oneCell' = true := fun u hu => by
  simp only [bools, List.mem_map] at hu
  obtain ⟨x, _, rfl⟩ := hu
  rfl
set_option maxRecDepth 100000 in
theorem cloneB_ct {R : Res} {v : Value} {l : List Bool} (hv : RowB R v l) (hl : l.length ≤ 1000000) : Ct Try.prog 46 #[v] [R] fun u h' => u.oneCell' = true ∧ h' = [vec u 4 1 l.length (bools l), R] := by
  obtain ⟨a, cp, rfl, hv2⟩ := hv
  rcases row_cases (a := a) hv2 with ⟨rfl, rfl⟩ | ⟨a', rfl, rfl⟩ | ⟨b, o, rfl, hrl⟩
  · skip
    refine ct_of (n := 8) Try.func46 rfl rfl (len rfl) fun hr w0 => ?_
    refine cd_seq (cd_region (st_v (v_assign rfl) (st_nil (nx_then (cd_seq (cd_seq (cd_region (st_v (v_move rfl) (st_v (v_eql_slice_nil rfl rfl Try.underlying73) (st_nil (nx_kp [0, 2, 4] rfl (nx_then (cd_cond rfl (fun hc => ?_) (fun hc => ?_))))))))))))))
    · skip
      refine cd_seq (cd_region (st_val (v_assign rfl) (ltn rfl) (st_nil (nx_then (cd_ret (xt_vecnil 4 1 ?_))))))
      repeat (refine xt_ret_then ?_)
      exact xt_rt rfl ⟨rfl, rfl⟩
    · exact absurd hc (by simp)
  · skip
    refine ct_of (n := 8) Try.func46 rfl rfl (len rfl) fun hr w0 => ?_
    refine cd_seq (cd_region (st_v (v_assign rfl) (st_nil (nx_then (cd_seq (cd_seq (cd_region (st_v (v_move rfl) (st_v (v_eql_slice_nil rfl rfl Try.underlying73) (st_nil (nx_kp [0, 2, 4] rfl (nx_then (cd_false rfl ?_)))))))))))))
    refine cd_skip (xt_then (cd_seq (cd_region (st_buildSlice0 Try.underlying73 inf4 (ltn rfl) fun b5 => ?_))))
    refine st_v (v_move rfl) (st_append0 rfl rfl Try.underlying73 inf4 rfl (ltn rfl) (by repeat (first | exact Sel.here | apply Sel.there)) (by omega) (by omega) (ltn rfl) fun u hu hu1 => ?_)
    refine st_v (v_assign rfl) (st_nil (nx_kp [2] rfl (nx_then (cd_ret ?_))))
    exact xt_rt rfl ⟨hu1, rfl⟩
  · skip
    refine ct_of (n := 8) Try.func46 rfl rfl (len rfl) fun hr w0 => ?_
    refine cd_seq (cd_region (st_v (v_assign rfl) (st_nil (nx_then (cd_seq (cd_seq (cd_region (st_v (v_move rfl) (st_v (v_eql_slice_nil rfl rfl Try.underlying73) (st_nil (nx_kp [0, 2, 4] rfl (nx_then (cd_false rfl ?_)))))))))))))
    refine cd_skip (xt_then (cd_seq (cd_region (st_buildSlice0 Try.underlying73 inf4 (ltn rfl) fun b5 => ?_))))
    refine st_v (v_move rfl) (st_append (news := bools l) rfl rfl Try.underlying73 inf4 rfl (ltn rfl) (by repeat (first | exact Sel.here | apply Sel.there)) (by simp [bools]) (fun j u hu => by repeat (first | exact at_here (rowB_rd hrl hu) | apply at_there)) bools_one (by omega) (by omega) (ltn rfl) fun u hu hu1 => ?_)
    refine st_v (v_assign rfl) (st_nil (nx_kp [2] rfl (nx_then (cd_ret ?_))))
    rw [Nat.zero_add, List.nil_append]
    exact xt_rt rfl ⟨hu1, rfl⟩
end Go.Proofs.Ytmhmpjgkkpbnnaa
namespace Go.Proofs.Ytmhmpjgkkpbnnaa
open Go.Ck Fx Go.Hm
attribute [local irreducible] St Cd Xt Nx DrL LsW

def long (l : List Bool) : Bool := decide (60 < (l.length : Int))
set_option maxRecDepth 100000 in
theorem sized1_ct {R : Res} {u : Value} {l : List Bool} (h : RowB R u l) : Reads Try.prog 94 #[u] [R] (.bool (long l)) := by
  obtain ⟨a, cp, hu, _⟩ := h
  refine ct_of (n := 6) Try.func94 rfl rfl (len rfl) fun hr w0 => ?_
  refine cd_seq (cd_region (st_v (v_assign rfl) (st_nil (nx_then (cd_seq (cd_region (st_v (v_move rfl) (st_v (v_len (congrArg some hu) Try.underlying73) (st_v (v_gtr rfl rfl) (st_v (v_assign rfl) (st_nil (nx_kp [2] rfl (nx_then (cd_ret ?_))))))))))))))
  exact xt_rt rfl ⟨rfl, rfl⟩
def sidx (sh : List (List Bool)) : Int := match sh.findIdx? long with | some i => (i : Int) | none => -1
theorem sidx_has (sh : List (List Bool)) : decide (0 ≤ sidx sh) = sh.any long := by
  unfold sidx
  cases h : sh.findIdx? long with
  | none =>
    rw [List.findIdx?_eq_none_iff] at h
    have : sh.any long = false := List.any_eq_false.2 fun x hx => by simp [h x hx]
    rw [this]; rfl
  | some i =>
    obtain ⟨hi, h1, _⟩ := List.findIdx?_eq_some_iff_getElem.1 h
    have : sh.any long = true := List.any_eq_true.2 ⟨sh[i], List.getElem_mem hi, h1⟩
    rw [this]; simp
set_option maxRecDepth 100000 in
theorem indexFunc_ct {R : Res} {v : Value} {sh : List (List Bool)} (h : Shp R v sh) (hl : sh.length ≤ 1000000) : Reads Try.prog 117 #[v, .func (.func 94) #[] #[]] [R] (.int .i64 (sidx sh)) := by
  obtain ⟨a, cp, hv, _⟩ := id h
  refine ct_of (n := 19) Try.func117 rfl rfl (len rfl) fun hr w0 => ?_
  refine cd_seq (cd_region (st_v (v_assign rfl) (st_nil (nx_then (cd_seq (cd_seq (cd_region (st_v (v_move rfl) (st_v (v_len (congrArg some hv) Try.underlying22) (st_v (v_move rfl) (st_nil (nx_kp [0, 1, 4, 7, 8] rfl (nx_then (cd_block (cd_loop (σ := Nat) (fun i => [(0, v), (1, .func (.func 94) #[] #[]), (7, .int .i64 sh.length), (8, .int .i64 (i : Nat))]) (fun _ => R :: hr) (fun i => i ≤ sh.length ∧ ∀ j l, j < i → sh[j]? = some l → long l = false) (fun i => sh.length - i) 0 ⟨Nat.zero_le _, fun _ _ h => absurd h (Nat.not_lt_zero _)⟩ ⟨rfl, rfl, rfl, rfl, trivial⟩ (Sub.refl _) ?_)))))))))))))))
  rintro i ⟨hi, hno⟩
  refine cd_seq (cd_region (st_v (v_lss rfl rfl) (st_nil (nx_then (cd_seq (cd_cond rfl (fun hc => ?_) (fun hc => ?_)))))))
  · skip
    have hlt : i < sh.length := by simpa using hc
    obtain ⟨b, o, cp', u, hv', hrd, hu⟩ := h.row hlt
    refine cd_skip (xt_then (cd_seq (cd_block (cd_seq (cd_region (st_v (v_move rfl) (st_v (v_assign rfl) (st_nil (nx_kp [0, 1, 5, 7, 8] rfl (nx_then (cd_seq (cd_region (st_v (v_move rfl) (st_v (v_move rfl) (st_v (v_move rfl) ?_)))))))))))))))
    refine st_v (v_ixo i (congrArg some hv') rfl sl22 rfl hlt) (st_v (v_ld rfl ld73) ?_)
    refine st_callr rfl rfl en94 rfl (sized1_ct hu) (Pk.cons .here Pk.nil) (ltn rfl) (st_nil (nx_kp [0, 1, 5, 7, 8, 16] rfl (nx_then (cd_cond rfl (fun hd => ?_) (fun hd => ?_)))))
    · skip
      have hk : sidx sh = (i : Int) := by
        unfold sidx
        have : sh.findIdx? long = some i := List.findIdx?_eq_some_iff_getElem.2 ⟨hlt, hd, fun j hj => by simp [hno j sh[j] hj (List.getElem?_eq_getElem (by omega))]⟩
        rw [this]
      rw [hk]
      refine cd_seq (cd_region (st_v (v_move rfl) (st_v (v_assign rfl) (st_nil (nx_kp [0, 1, 4, 7, 8] rfl (nx_then (cd_ret (xt_ret_block (xt_ret_then (xt_ret_then (xt_ret_block (xt_ret_then ?_))))))))))))
      exact xt_rt rfl ⟨rfl, rfl⟩
    · skip
      refine cd_skip (xt_normal_block (xt_then (cd_region (st_v (v_add rfl rfl (by unfold I64 at *; omega)) (st_v (v_move rfl) (st_nil (nx_kp [0, 1, 7, 8] rfl (nx_xt (xt_ag (i + 1) ⟨hlt, fun j l hj hjl => ?_⟩ (by omega))))))))))
      by_cases hji : j = i
      · subst hji; rw [List.getElem?_eq_getElem hlt] at hjl; cases hjl; exact hd
      · exact hno j l (by omega) hjl
  · skip
    have hge : sh.length ≤ i := by simpa using hc
    have hk : sidx sh = -1 := by
      unfold sidx
      have : sh.findIdx? long = none := by
        rw [List.findIdx?_eq_none_iff]
        intro l hl
        obtain ⟨j, hj, rfl⟩ := List.getElem_of_mem hl
        exact hno j sh[j] (by omega) (List.getElem?_eq_getElem hj)
      rw [this]
    rw [hk]
    refine cd_exit (xt_exit_then (xt_exit_then (xt_exit_block (xt_then (cd_seq (cd_region (st_v (v_assign rfl) (st_nil (nx_kp [4] rfl (nx_then (cd_ret ?_)))))))))))
    exact xt_rt rfl ⟨rfl, rfl⟩
set_option maxRecDepth 100000 in
theorem containsFunc_ct {R : Res} {v : Value} {sh : List (List Bool)} (h : Shp R v sh) (hl : sh.length ≤ 1000000) : Reads Try.prog 93 #[v, .func (.func 94) #[] #[]] [R] (.bool (sh.any long)) := by
  rw [← sidx_has]
  refine ct_of (n := 9) Try.func93 rfl rfl (len rfl) fun hr w0 => ?_
  refine cd_seq (cd_region (st_v (v_assign rfl) (st_nil (nx_then (cd_seq (cd_region (st_v (v_move rfl) (st_v (v_move rfl) (st_clr rfl rfl en117 rfl (indexFunc_ct h hl) ?_)))))))))
  refine st_v (v_geq rfl rfl) (st_v (v_assign rfl) (st_nil (nx_kp [4] rfl (nx_then (cd_ret ?_)))))
  exact xt_rt rfl ⟨rfl, rfl⟩
def sized (sh : List (List Bool)) : Int := if decide (60 < (sh.length : Int)) || sh.any long then 3 else 0
set_option maxRecDepth 100000 in
theorem sized_ct {R : Res} {v : Value} {sh : List (List Bool)} (h : Shp R v sh) (hl : sh.length ≤ 1000000) : Reads Try.prog 44 #[v] [R] (.int .i64 (sized sh)) := by
  obtain ⟨a, cp, hv, _⟩ := id h
  unfold sized
  refine ct_of (n := 10) Try.func44 rfl rfl (len rfl) fun hr w0 => ?_
  refine cd_seq (cd_region (st_v (v_assign rfl) (st_nil (nx_then (cd_seq (cd_seq (cd_region (st_v (v_move rfl) (st_v (v_len (congrArg some hv) Try.underlying22) (st_v (v_gtr rfl rfl) (st_v (v_move rfl) (st_cut (k := 7) (d := 9) (v := .bool (decide (60 < (sh.length : Int)) || sh.any long)) (fun hcut => bool_want (b := decide (60 < (sh.length : Int))) false (fun hg => ?_) (fun hg => ?_)) ?_))))))))))))
  · refine st_sk rfl rfl hg ?_
    refine st_sk rfl rfl hg ?_
    refine st_v (v_pick_true (bool_ev rfl hg) rfl) ?_
    exact hcut _ (ssub_head (by first | rfl | (rw [hg]; rfl) | simp_all) (ssub_skip rfl (ssub_skip rfl (ssub_refl))))
  · skip
    refine st_vg rfl (bool_get rfl hg) (v_move rfl) (st_clrg rfl (bool_get rfl hg) rfl rfl en93 rfl (containsFunc_ct h hl) ?_)
    refine st_v (v_pick_false (bool_ev rfl hg) rfl) ?_
    exact hcut _ (ssub_head (by first | rfl | (rw [hg]; rfl) | simp_all) (ssub_skip rfl (ssub_skip rfl (ssub_refl))))
  refine st_nil (nx_kp [2, 9] rfl (nx_then (cd_cond rfl (fun hc => ?_) (fun hc => ?_))))
  · skip
    rw [if_pos hc]
    refine cd_seq (cd_region (st_v (v_assign rfl) (st_nil (nx_kp [2] rfl (nx_then (cd_ret (xt_ret_then ?_)))))))
    exact xt_rt rfl ⟨rfl, rfl⟩
  · skip
    rw [if_neg (by rw [hc]; simp)]
    refine cd_skip (xt_then (cd_seq (cd_region (st_v (v_assign rfl) (st_nil (nx_kp [2] rfl (nx_then (cd_ret ?_))))))))
    exact xt_rt rfl ⟨rfl, rfl⟩
end Go.Proofs.Ytmhmpjgkkpbnnaa
namespace Go.Ck
open Go
theorem rd_star_mem {k : SH} {r : Res} {p : Addr} {v : Value} (hm : r ∈ k) (h : Rd r p v) : Rd (Res.star k) p v := fun w hw => by
  obtain ⟨s, t, rfl⟩ := List.append_of_mem hm
  exact h w ((HoldsF.perm List.perm_middle).1 hw).1
theorem fill_one {u : Value} (hu : u.oneCell' = true) (c0 : Array Value) (h0 : c0.size = 1) : Instr.fill (fun i => some (i * 1, 1)) c0 [(0, u)] = some #[u] := by
  have hc : u.cells = #[u] := by cases u <;> first | rfl | (simp [Value.oneCell'] at hu)
  rcases c0 with ⟨_ | ⟨x, _ | ⟨y, t⟩⟩⟩
  · simp at h0
  · simp [Instr.fill, hc]
  · simp at h0
/-- What a slice that owns its row is: nil, or a block. -/
def VForm (v : Value) (n : Nat) (l : List Value) : Prop := (v = .slice none 0 0 ∧ n = 0 ∧ l = []) ∨ ∃ b cp, v = .slice (some ⟨b, 0, none⟩) n cp
section
variable {c : Cx} {Q : Exit → Act → World → Prop} {e : Env} {h h' : SH} {x : Code} {v : Value} {E : TypeId} {sz n : Nat} {l : List Value}
theorem vform_of {w : World} (s : Sel h (vec v E sz n l) h') (hh : Holds w h) : VForm v n l := by
  rcases vec_form (hh.sel s).1 with h1 | ⟨b, cp, h1, _⟩
  · exact .inl h1
  · exact .inr ⟨b, cp, h1⟩
theorem xt_vform {ex : Exit} (s : Sel h (vec v E sz n l) h') (hx : VForm v n l → Xt c ex Q e h) : Xt c ex Q e h := fun a w hk hh hw => hx (vform_of s hh) a w hk hh hw
theorem cd_vform (s : Sel h (vec v E sz n l) h') (hx : VForm v n l → Cd c x Q e h) : Cd c x Q e h := fun a w hk hh hw => hx (vform_of s hh) a w hk hh hw
theorem restar {w : World} {r : Res} {k k' h1 h2 : SH} (s1 : Sel h r h1) (s2 : Sel h1 (Res.star k) h2) (p : (r :: k).Perm k') (hh : Holds w h) : Holds w (Res.star k' :: h2) := by
  have k1 := hh.sel s1
  have k2 : Holds w (r :: Res.star k :: h2) := k1.perm ((s2.perm).cons _)
  have k3 : HoldsF (hp w) (r :: (k ++ h2)) := ⟨k2.1, fun b hb hd => k2.2.1 b hb ((SH.dom_append.1 hd).elim .inl .inr), star_iff.1 k2.2.2⟩
  exact star_iff.2 ((HoldsF.perm (p.append_right h2)).1 k3)
theorem xt_restar {ex : Exit} {r : Res} {k k' h1 h2 : SH} (s1 : Sel h r h1) (s2 : Sel h1 (Res.star k) h2) (p : (r :: k).Perm k') (hx : Xt c ex Q e (Res.star k' :: h2)) : Xt c ex Q e h := fun a w hk hh hw => hx a w hk (restar s1 s2 p hh) hw
theorem cd_restar {r : Res} {k k' h1 h2 : SH} (s1 : Sel h r h1) (s2 : Sel h1 (Res.star k) h2) (p : (r :: k).Perm k') (hx : Cd c x Q e (Res.star k' :: h2)) : Cd c x Q e h := fun a w hk hh hw => hx a w hk (restar s1 s2 p hh) hw
theorem cd_ne {a b : Nat} {o o' : Obj} {h1 h2 : SH} (s1 : Sel h (pt a o) h1) (s2 : Sel h1 (pt b o') h2) (hx : a ≠ b → Cd c x Q e h) : Cd c x Q e h := fun ac w hk hh hw => by
  refine hx ?_ ac w hk hh hw
  have k1 := hh.sel s1
  exact fun he => k1.2.1 a rfl ((SH.dom_perm s2.perm).2 (.inl he))
theorem cd_star0 (hx : Cd c x Q e (Res.star [] :: h)) : Cd c x Q e h := fun a w hk hh hw => hx a w hk ⟨trivial, fun _ hb => hb.elim, hh⟩ hw
end
end Go.Ck
namespace Go.Proofs.Ytmhmpjgkkpbnnaa
open Go.Ck Fx Go.Hm
attribute [local irreducible] St Cd Xt Nx DrL LsW

set_option maxRecDepth 100000 in
theorem spaceOf_ct' {fr n : Nat} {fi ni : Int} (e1 : fi = (fr : Int)) (e2 : ni = (n : Int)) (hf : fr ≤ 1000000) (hn : n ≤ 1000000) :
    Ct Try.prog 45 #[.int .i64 fi, .int .i64 ni] [] fun v h' => ∃ l : SpL, l.wj = [] ∧ l.tj = [] ∧ v = .pointer (some ⟨l.sb, 0, none⟩) ∧ h' = spSH l (Sp.new fr n) := by
  subst e1 e2; exact spaceOf_ct hf hn
theorem spNew_ok {fr n : Nat} (h1 : fr ≤ 1000000) (h2 : n ≤ 1000000) : (Sp.new fr n).Ok := ⟨by simp [Sp.new], by simp [Sp.new], h1, by simpa [Sp.new] using h2⟩
/-- The rows of a memory's shapes. -/
def rowsR (us : List Value) (sh : List (List Bool)) : SH := (us.zip sh).map fun q => vec q.1 4 1 q.2.length (bools q.2)
theorem rowsR_snoc {us : List Value} {sh : List (List Bool)} {u : Value} {l : List Bool} (h : us.length = sh.length) : rowsR (us ++ [u]) (sh ++ [l]) = rowsR us sh ++ [vec u 4 1 l.length (bools l)] := by
  unfold rowsR
  rw [List.zip_append h]; simp
def shS (vs : Value) (us : List Value) (sh : List (List Bool)) : Res := Res.star (vec vs 73 1 sh.length us :: rowsR us sh)
theorem shS_shp {vs : Value} {us : List Value} {sh : List (List Bool)} (hl : us.length = sh.length) (hv : VForm vs sh.length us) (hu : ∀ i (h : i < sh.length), VForm (us[i]'(by omega)) sh[i].length (bools sh[i])) : Shp (shS vs us sh) vs sh := by
  rcases hv with ⟨rfl, h1, h2⟩ | ⟨b, cp, rfl⟩
  · exact ⟨none, 0, by rw [h1], .inl (List.eq_nil_of_length_eq_zero h1)⟩
  · refine ⟨_, cp, rfl, .inr ⟨b, 0, rfl, fun i hi => ⟨us[i]'(by omega), ?_, ?_⟩⟩⟩
    · rw [Nat.zero_add]
      exact rd_star_mem (List.mem_cons_self ..) (rd_vec rfl (List.getElem?_eq_getElem (by omega)))
    · have hm : vec (us[i]'(by omega)) 4 1 sh[i].length (bools sh[i]) ∈ (vec (.slice (some ⟨b, 0, none⟩) sh.length cp) 73 1 sh.length us :: rowsR us sh) := by
        refine List.mem_cons_of_mem _ (List.mem_map.2 ⟨(us[i]'(by omega), sh[i]), ?_, rfl⟩)
        have : (us.zip sh)[i]'(by simp; omega) = (us[i]'(by omega), sh[i]) := by simp
        rw [← this]; exact List.getElem_mem _
      rcases hu i hi with ⟨h1, h2, h3⟩ | ⟨b', cp', h1⟩
      · refine ⟨none, 0, by rw [h1, h2], .inl (List.eq_nil_of_length_eq_zero h2)⟩
      · refine ⟨_, cp', h1, .inr ⟨b', 0, rfl, fun j hj => ?_⟩⟩
        rw [Nat.zero_add]
        exact rd_star_mem hm (rd_vec h1 (by simp [bools, hj]))
def Mem.new (sh : List (List Bool)) (half young : Nat) : Mem := ⟨sh, Sp.new 1 young, Sp.new (1 + young) half, Sp.new (1 + young + half) half, [], false, 0, [], 0⟩
def newErr (sh : List (List Bool)) (half young : Int) : Int :=
  if (sized sh != 0 || decide (4096 < half)) || decide (1024 < young) then 3 else if decide (half < 1) || decide (young < 1) then 1 else 0
def memSH (L : MemL) (μ : Mem) (S : Res) : SH := [mb L μ, sb L.y μ.y, wb L.y μ.y, tb L.y μ.y, sb L.n μ.n, wb L.n μ.n, tb L.n μ.n, sb L.o μ.o, wb L.o μ.o, tb L.o μ.o, knR L μ, mpr L.mvb (mvv μ.mv), S]
set_option maxRecDepth 100000 in
theorem new_ct {R : Res} {v : Value} {sh : List (List Bool)} {half young : Int} (h : Shp R v sh) (hl : sh.length ≤ 1000000) :
    Ct Try.prog 15 #[v, .int .i64 half, .int .i64 young] [R] fun u h' =>
      (newErr sh half young ≠ 0 ∧ u = .tuple #[.pointer none, .int .i64 (newErr sh half young)] ∧ h' = [R]) ∨
      (newErr sh half young = 0 ∧ ∃ L us, u = .tuple #[.pointer (some ⟨L.mb, 0, none⟩), .int .i64 0] ∧ MOk L (Mem.new sh half.toNat young.toNat) (shS L.vs us sh) ∧ h' = memSH L (Mem.new sh half.toNat young.toNat) (shS L.vs us sh) ++ [R]) := by
  obtain ⟨a, cp, hv, _⟩ := id h
  refine ct_of (n := 58) Try.func15 rfl rfl (len rfl) fun hr w0 => ?_
  refine cd_seq (cd_region (st_v (v_assign rfl) (st_v (v_assign rfl) (st_nil (nx_then (cd_seq (cd_block (cd_seq (cd_seq (cd_region (st_v (v_move rfl) (st_clr rfl rfl en44 rfl (sized_ct h hl) ?_))))))))))))
  refine st_v (v_neq rfl rfl) (st_v (v_assign rfl) (st_nil (nx_kp [0, 1, 2, 6, 7, 11] rfl (nx_then (cd_cond rfl (fun c1 => ?_) (fun c1 => ?_))))))
  · skip
    refine cd_skip (xt_then (cd_cond rfl (fun d1 => ?_) (fun d1 => ?_)))
    · skip
      refine cd_seq (cd_region (st_v (v_assign rfl) (st_v (v_assign rfl) (st_nil (nx_kp [0, 1, 2, 6, 7] rfl (nx_then (cd_ret (xt_ret_block (xt_ret_then ?_)))))))))
      have hne : newErr sh half young = 3 := by unfold newErr; rw [if_pos (by simp [c1])]
      exact xt_rt rfl (.inl ⟨by rw [hne]; decide, by rw [hne]; rfl, rfl⟩)
    · skip
      rw [c1] at d1; cases d1
  · skip
    refine cd_seq (cd_region (st_v (v_move rfl) (st_v (v_gtr rfl rfl) (st_v (v_assign rfl) (st_nil (nx_kp [0, 1, 2, 6, 7, 11] rfl (nx_then (cd_cond rfl (fun c2 => ?_) (fun c2 => ?_)))))))))
    · skip
      refine cd_skip (xt_then (cd_cond rfl (fun d2 => ?_) (fun d2 => ?_)))
      · skip
        refine cd_seq (cd_region (st_v (v_assign rfl) (st_v (v_assign rfl) (st_nil (nx_kp [0, 1, 2, 6, 7] rfl (nx_then (cd_ret (xt_ret_block (xt_ret_then ?_)))))))))
        have hne : newErr sh half young = 3 := by unfold newErr; rw [if_pos (by simp [c2])]
        exact xt_rt rfl (.inl ⟨by rw [hne]; decide, by rw [hne]; rfl, rfl⟩)
      · skip
        rw [c2] at d2; cases d2
    · skip
      refine cd_region (st_v (v_move rfl) (st_v (v_gtr rfl rfl) (st_v (v_assign rfl) (st_nil (nx_kp [0, 1, 2, 6, 7, 11] rfl (nx_then (cd_cond rfl (fun c3 => ?_) (fun c3 => ?_))))))))
      · skip
        refine cd_seq (cd_region (st_v (v_assign rfl) (st_v (v_assign rfl) (st_nil (nx_kp [0, 1, 2, 6, 7] rfl (nx_then (cd_ret (xt_ret_block (xt_ret_then ?_)))))))))
        have hne : newErr sh half young = 3 := by unfold newErr; rw [if_pos (by simp [c3])]
        exact xt_rt rfl (.inl ⟨by rw [hne]; decide, by rw [hne]; rfl, rfl⟩)
      · skip
        have hf : ((sized sh != 0 || decide (4096 < half)) || decide (1024 < young)) = false := by rw [c1, c2, c3]; rfl
        refine cd_seq (cd_seq (cd_region (st_v (v_move rfl) (st_v (v_lss rfl rfl) (st_v (v_assign rfl) (st_nil (nx_kp [0, 1, 2, 6, 7, 19] rfl (nx_then (cd_cond rfl (fun c4 => ?_) (fun c4 => ?_))))))))))
        · skip
          refine cd_skip (xt_then (cd_cond rfl (fun d4 => ?_) (fun d4 => ?_)))
          · skip
            refine cd_seq (cd_region (st_v (v_assign rfl) (st_v (v_assign rfl) (st_nil (nx_kp [0, 1, 2, 6, 7] rfl (nx_then (cd_ret (xt_ret_block (xt_ret_then ?_)))))))))
            have hne : newErr sh half young = 1 := by unfold newErr; rw [if_neg (by rw [hf]; simp), if_pos (by rw [c4]; rfl)]
            exact xt_rt rfl (.inl ⟨by rw [hne]; decide, by rw [hne]; rfl, rfl⟩)
          · skip
            rw [c4] at d4; cases d4
        · skip
          refine cd_region (st_v (v_move rfl) (st_v (v_lss rfl rfl) (st_v (v_assign rfl) (st_nil (nx_kp [0, 1, 2, 6, 7, 19] rfl (nx_then (cd_cond rfl (fun c5 => ?_) (fun c5 => ?_))))))))
          · skip
            refine cd_seq (cd_region (st_v (v_assign rfl) (st_v (v_assign rfl) (st_nil (nx_kp [0, 1, 2, 6, 7] rfl (nx_then (cd_ret (xt_ret_block (xt_ret_then ?_)))))))))
            have hne : newErr sh half young = 1 := by unfold newErr; rw [if_neg (by rw [hf]; simp), if_pos (by rw [c4, c5]; rfl)]
            exact xt_rt rfl (.inl ⟨by rw [hne]; decide, by rw [hne]; rfl, rfl⟩)
          · skip
            have hne : newErr sh half young = 0 := by unfold newErr; rw [if_neg (by rw [hf]; simp), if_neg (by rw [c4, c5]; simp)]
            simp only [decide_eq_false_iff_not, Int.not_lt] at c2 c3 c4 c5
            obtain ⟨hN, rfl⟩ : ∃ k : Nat, half = k := ⟨half.toNat, by omega⟩
            obtain ⟨yN, rfl⟩ : ∃ k : Nat, young = k := ⟨young.toNat, by omega⟩
            refine cd_skip (xt_normal_block (xt_then (cd_seq (cd_region (st_v (v_move rfl) (st_cl rfl rfl en45 rfl (spaceOf_ct' (fr := 1) (n := yN) rfl rfl (by omega) (by omega)) ?_))))))
            rintro v1 h1' ⟨ly, hy1, hy2, rfl, rfl⟩
            refine st_v (v_move rfl) (st_v (v_add rfl rfl (by unfold I64 at *; omega)) (st_v (v_move rfl) (st_cl rfl rfl en45 rfl (spaceOf_ct' (fr := 1 + yN) (n := hN) (by omega) rfl (by omega) (by omega)) ?_)))
            rintro v2 h2' ⟨ln, hn1, hn2, rfl, rfl⟩
            refine st_v (v_move rfl) (st_v (v_add rfl rfl (by unfold I64 at *; omega)) (st_v (v_move rfl) (st_v (v_add rfl rfl (by unfold I64 at *; omega)) (st_v (v_move rfl) (st_cl rfl rfl en45 rfl (spaceOf_ct' (fr := 1 + yN + hN) (n := hN) (by omega) rfl (by omega) (by omega)) ?_)))))
            rintro v3 h3' ⟨lo, ho1, ho2, rfl, rfl⟩
            unfold spSH
            simp only [List.cons_append, List.nil_append]
            refine st_makeMap (ltn rfl) fun mp => ?_
            refine st_v (v_build (cells := [.slice none 0 0, .pointer (some ⟨ly.sb, 0, none⟩), .pointer (some ⟨ln.sb, 0, none⟩), .pointer (some ⟨lo.sb, 0, none⟩), .slice none 0 0, .bool false, .int .i64 0, .map (some mp), .int .i64 0]) rfl (fun _ => by kernel_rfl)) ?_
            refine st_bx rfl rfl fun b38 => ?_
            refine st_v (v_assign rfl) (st_nil (nx_kp [0, 6, 7, 8] rfl (nx_then (cd_seq (cd_seq (cd_region (st_v (v_move rfl) (st_v (v_len (congrArg some hv) Try.underlying22) (st_v (v_move rfl) (st_nil (nx_kp [6, 7, 8, 39, 40, 41] rfl (nx_then (cd_block (cd_ne (a := ly.sb) (b := ln.sb) (by repeat (first | exact Sel.here | apply Sel.there)) (by repeat (first | exact Sel.here | apply Sel.there)) fun hyn => ?_))))))))))))))
            refine cd_ne (a := ly.sb) (b := lo.sb) (by repeat (first | exact Sel.here | apply Sel.there)) (by repeat (first | exact Sel.here | apply Sel.there)) fun hyo => ?_
            refine cd_ne (a := ln.sb) (b := lo.sb) (by repeat (first | exact Sel.here | apply Sel.there)) (by repeat (first | exact Sel.here | apply Sel.there)) fun hno => ?_
            have hso : ShOk sh := by
              have hz : sized sh = 0 := by simpa using c1
              unfold sized at hz
              by_cases hq : (decide (60 < (sh.length : Int)) || sh.any long) = true
              · rw [if_pos hq] at hz; cases hz
              · simp only [Bool.or_eq_true, decide_eq_true_eq, not_or, List.any_eq_true, not_exists, not_and] at hq
                exact ⟨by omega, fun l hl => by have := hq.2 l hl; unfold long at this; simp at this; omega⟩
            refine cd_vecnil 131 2 ?_
            refine cd_vecnil 73 1 ?_
            refine cd_star0 (cd_loop (σ := Nat × List Value × Value) (fun q => [(8, .pointer (some ⟨b38, 0, none⟩)), (39, v), (40, .int .i64 sh.length), (41, .int .i64 (q.1 : Nat))]) (fun q => (pt b38 (cl [q.2.2, .pointer (some ⟨ly.sb, 0, none⟩), .pointer (some ⟨ln.sb, 0, none⟩), .pointer (some ⟨lo.sb, 0, none⟩), .slice none 0 0, .bool false, .int .i64 0, .map (some mp), .int .i64 0] 100) :: vec q.2.2 73 1 q.1 q.2.1 :: Res.star (rowsR q.2.1 (sh.take q.1)) :: sb ly (Sp.new 1 yN) :: wb ly (Sp.new 1 yN) :: tb ly (Sp.new 1 yN) :: sb ln (Sp.new (1 + yN) hN) :: wb ln (Sp.new (1 + yN) hN) :: tb ln (Sp.new (1 + yN) hN) :: sb lo (Sp.new (1 + yN + hN) hN) :: wb lo (Sp.new (1 + yN + hN) hN) :: tb lo (Sp.new (1 + yN + hN) hN) :: vec (.slice none 0 0) 131 2 0 [] :: mpr mp [] :: R :: hr)) (fun q => q.1 ≤ sh.length ∧ q.2.1.length = q.1 ∧ ∀ (j : Nat) (u : Value) (l : List Bool), q.2.1[j]? = some u → sh[j]? = some l → VForm u l.length (bools l)) (fun q => sh.length - q.1) (0, [], .slice none 0 0) ⟨Nat.zero_le _, rfl, fun j u l hx _ => absurd hx (by show ¬ ([] : List Value)[j]? = some u; simp)⟩ ⟨rfl, rfl, rfl, rfl, trivial⟩ (by repeat (first | exact Sub.refl _ | exact Sub.nil _ | refine Sub.sel (by repeat (first | exact Sel.here | apply Sel.there)) ?_ | apply Sub.cons)) ?_)
            rintro ⟨i, us, vs⟩ ⟨hi, hul, hform⟩
            dsimp only at hi hul hform ⊢
            refine cd_seq (cd_region (st_v (v_lss rfl rfl) (st_nil (nx_then (cd_seq (cd_cond rfl (fun hlc => ?_) (fun hlc => ?_)))))))
            · skip
              have hlt : i < sh.length := by simpa using hlc
              obtain ⟨b, o, cp', u, hv', hrd, hu⟩ := h.row hlt
              have hw := hso.w _ (List.getElem_mem hlt)
              refine cd_skip (xt_then (cd_seq (cd_block (cd_seq (cd_region (st_v (v_ixo i (congrArg some hv') rfl sl22 rfl hlt) (st_v (v_ld rfl ld73) ?_)))))))
              refine st_v (v_assign rfl) (st_nil (nx_kp [8, 10, 39, 40, 41] rfl (nx_then (cd_draw (ork [(0, 2), (1, 2), (2, 2), (3, 2), (4, 1), (5, 2), (6, 0), (7, 0), (8, 0), (9, 2), (10, 2), (11, 0)] .nil) (fun i => !(Nat.beq i 8 || Nat.beq i 11)) [pt b38 (cl [vs, .pointer (some ⟨ly.sb, 0, none⟩), .pointer (some ⟨ln.sb, 0, none⟩), .pointer (some ⟨lo.sb, 0, none⟩), .slice none 0 0, .bool false, .int .i64 0, .map (some mp), .int .i64 0] 100)] mixed (by kernel_rfl) ?_))))
              refine dp_v rfl (v_move rfl) (dp_v rfl (v_move rfl) (dp_v rfl (v_nilCheck rfl) (dp_v rfl (v_fieldAddr rfl fa100_0 rfl) (dr_v rfl (v_ld rfl ld22) ?_))))
              refine dp_v rfl (v_move rfl) (dr_eff rfl (st_cl rfl rfl en46 rfl (cloneB_ct hu (by omega)) ?_))
              rintro u' h' ⟨hu1, rfl⟩
              simp only [List.cons_append, List.nil_append]
              refine dr_nx ?_
              refine dr_eff rfl (st_buildSlice (cells := [u']) rfl Try.underlying22 inf73 rfl rfl (fill_one hu1 _ (by simp)) (ltn rfl) fun b52 => dr_nx ?_)
              refine dr_eff rfl (st_append (news := [u']) rfl rfl Try.underlying22 inf73 rfl (ltn rfl) (by repeat (first | exact Sel.here | apply Sel.there)) rfl (fun j u hu => by repeat (first | exact at_here (rd_cl (by simpa using hu)) | apply at_there)) (fun x hx => by simp at hx; subst hx; exact hu1) (by omega) (by omega) (ltn rfl) fun vs' hvs' hv1 => dr_nx ?_)
              refine dp_v rfl (v_nilCheck rfl) (dp_v rfl (v_fieldAddr rfl fa100_0 rfl) (dr_eff rfl (st_sto rfl rfl sz22 (dr_nx ?_))))
              refine dr_nil (nx_kp [8, 39, 40, 41] rfl (nx_xt (xt_normal_block (xt_then (cd_region (st_v (v_add rfl rfl (by unfold I64 at *; omega)) (st_v (v_move rfl) (st_nil (nx_kp [8, 39, 40, 41] rfl (nx_xt (xt_vform (v := u') (n := sh[i].length) (l := bools sh[i]) (by repeat (first | exact Sel.here | apply Sel.there)) fun hvf => ?_)))))))))))
              have htk : sh.take (i + 1) = sh.take i ++ [sh[i]] := List.take_succ_eq_append_getElem hlt
              refine xt_restar (k' := rowsR (us ++ [u']) (sh.take (i + 1))) (r := vec u' 4 1 sh[i].length (bools sh[i])) (k := rowsR us (sh.take i)) (by repeat (first | exact Sel.here | apply Sel.there)) (by repeat (first | exact Sel.here | apply Sel.there)) (by rw [htk, rowsR_snoc (by simp; omega)]; exact (List.perm_append_singleton _ _).symm) ?_
              refine xt_again (i + 1, us ++ [u'], vs') ⟨hlt, by simp [hul], fun j x l hx hl => ?_⟩ (by show _ - _ < _ - _; omega) ⟨rfl, rfl, rfl, rfl, trivial⟩ (by repeat (first | exact Sub.refl _ | exact Sub.nil _ | refine Sub.sel (by repeat (first | exact Sel.here | apply Sel.there)) ?_ | apply Sub.cons))
              rcases Nat.lt_or_ge j i with hj | hj
              · exact hform j x l (by rw [List.getElem?_append_left (by omega)] at hx; exact hx) hl
              · have hji : j = i := by
                  have := (List.getElem?_eq_some_iff.1 hx).1
                  simp [hul] at this; omega
                subst hji
                have hx' : x = u' := by
                  dsimp only at hx
                  rw [← hul, List.getElem?_append_right (Nat.le_refl _)] at hx
                  simpa using hx.symm
                rw [List.getElem?_eq_getElem hlt] at hl
                cases hl
                rw [hx']; exact hvf
            · skip
              have hge : i = sh.length := by have : sh.length ≤ i := by simpa using hlc
                                             omega
              subst hge
              rw [List.take_length]
              refine cd_exit (xt_exit_then (xt_exit_then (xt_exit_block (xt_then (cd_seq (cd_region (st_v (v_move rfl) (st_v (v_assign rfl) (st_v (v_assign rfl) (st_nil (nx_kp [6, 7] rfl (nx_then (cd_ret (xt_vform (v := vs) (n := sh.length) (l := us) (by repeat (first | exact Sel.here | apply Sel.there)) fun hvf => ?_))))))))))))))
              refine xt_restar (k' := vec vs 73 1 sh.length us :: rowsR us sh) (r := vec vs 73 1 sh.length us) (k := rowsR us sh) (by repeat (first | exact Sel.here | apply Sel.there)) (by repeat (first | exact Sel.here | apply Sel.there)) (.refl _) ?_
              refine xt_ret rfl (.inr ⟨hne, ⟨b38, vs, .slice none 0 0, mp, ly, ln, lo⟩, us, rfl, ⟨?_, ?_, ?_, hyn, hyo, hno, shS_shp hul hvf fun j hj => hform j _ _ (List.getElem?_eq_getElem (by omega)) (List.getElem?_eq_getElem hj), hso⟩, rfl⟩) ?_
              · exact spNew_ok (by omega) (by omega)
              · exact spNew_ok (by omega) (by omega)
              · exact spNew_ok (by omega) (by omega)
              · unfold memSH
                exact (by repeat (first | exact Sub.refl _ | exact Sub.nil _ | refine Sub.sel (by repeat (first | exact Sel.here | apply Sel.there)) ?_ | apply Sub.cons))
end Go.Proofs.Ytmhmpjgkkpbnnaa
namespace Go.Proofs.Ytmhmpjgkkpbnnaa
open Go.Ck Fx Go.Hm
attribute [local irreducible] St Cd Xt Nx DrL LsW

set_option maxRecDepth 100000 in
theorem nil_alloc_ct {a : Int} : Reads Try.prog 33 #[.pointer none, .int .i64 a] [] (.tuple #[.int .i64 0, .int .i64 12]) := by
  refine ct_of (n := 55) Try.func33 rfl rfl (len rfl) fun hr w0 => ?_
  refine cd_seq (cd_region (st_v (v_assign rfl) (st_v (v_assign rfl) (st_nil (nx_then (cd_seq (cd_block (cd_seq (cd_region (st_v (v_move rfl) (st_clr rfl rfl en67 rfl (made_nil_ct) ?_)))))))))))
  refine st_v (v_not rfl) (st_v (v_assign rfl) (st_nil (nx_kp [0, 1, 4, 5, 6] rfl (nx_then (cd_true rfl ?_)))))
  refine cd_seq (cd_region (st_v (v_assign rfl) (st_v (v_assign rfl) (st_nil (nx_kp [0, 1, 4, 5] rfl (nx_then (cd_ret (xt_ret_block (xt_ret_then ?_)))))))))
  exact xt_rt rfl ⟨rfl, rfl⟩
set_option maxRecDepth 100000 in
theorem nil_shape_ct {a : Int} : Reads Try.prog 42 #[.pointer none, .int .i64 a] [] (.tuple #[.int .i64 0, .int .i64 12]) := by
  refine ct_of (n := 26) Try.func42 rfl rfl (len rfl) fun hr w0 => ?_
  refine cd_seq (cd_region (st_v (v_assign rfl) (st_v (v_assign rfl) (st_nil (nx_then (cd_seq (cd_seq (cd_region (st_v (v_move rfl) (st_clr rfl rfl en67 rfl (made_nil_ct) ?_))))))))))
  refine st_v (v_not rfl) (st_nil (nx_kp [0, 1, 4, 5, 10] rfl (nx_then (cd_true rfl ?_))))
  refine cd_seq (cd_region (st_v (v_assign rfl) (st_v (v_assign rfl) (st_nil (nx_kp [0, 1, 4, 5] rfl (nx_then (cd_ret (xt_ret_then ?_))))))))
  exact xt_rt rfl ⟨rfl, rfl⟩
set_option maxRecDepth 100000 in
theorem nil_field_ct {a b : Int} : Reads Try.prog 92 #[.pointer none, .int .i64 a, .int .i64 b] [] (.tuple #[.pointer none, .bool false, .int .i64 12]) := by
  refine ct_of (n := 56) Try.func92 rfl rfl (len rfl) fun hr w0 => ?_
  refine cd_seq (cd_region (st_v (v_assign rfl) (st_v (v_assign rfl) (st_v (v_assign rfl) (st_nil (nx_then (cd_seq (cd_seq (cd_region (st_v (v_move rfl) (st_clr rfl rfl en67 rfl (made_nil_ct) ?_)))))))))))
  refine st_v (v_not rfl) (st_nil (nx_kp [0, 1, 2, 6, 7, 8, 14] rfl (nx_then (cd_true rfl ?_))))
  refine cd_seq (cd_region (st_v (v_assign rfl) (st_v (v_assign rfl) (st_v (v_assign rfl) (st_nil (nx_kp [0, 1, 2, 6, 7, 8] rfl (nx_then (cd_ret (xt_ret_then ?_)))))))))
  exact xt_rt rfl ⟨rfl, rfl⟩
set_option maxRecDepth 100000 in
theorem nil_get_ct {a b : Int} : Reads Try.prog 41 #[.pointer none, .int .i64 a, .int .i64 b] [] (.tuple #[.int .i64 0, .int .i64 12]) := by
  refine ct_of (n := 39) Try.func41 rfl rfl (len rfl) fun hr w0 => ?_
  refine cd_seq (cd_region (st_v (v_assign rfl) (st_v (v_assign rfl) (st_nil (nx_then (cd_seq (cd_region (st_v (v_move rfl) (st_v (v_move rfl) (st_v (v_move rfl) (st_clr rfl rfl en92 rfl (nil_field_ct) ?_)))))))))))
  refine st_v (v_move rfl) (st_v (v_extract rfl rfl) (st_v (v_extract rfl rfl) (st_v (v_extract rfl rfl) (st_v (v_assign rfl) (st_v (v_assign rfl) (st_v (v_assign rfl) (st_nil (nx_kp [0, 6, 7, 8, 9, 10] rfl (nx_then (cd_seq (cd_seq (cd_region (st_v (v_move rfl) (st_v (v_neq rfl rfl) (st_nil (nx_kp [0, 6, 7, 8, 9, 10, 20] rfl (nx_then ?_)))))))))))))))))
  refine cd_true rfl ?_
  refine cd_seq (cd_region (st_v (v_move rfl) (st_v (v_assign rfl) (st_v (v_assign rfl) (st_nil (nx_kp [0, 6, 7, 8, 9] rfl (nx_then (cd_ret (xt_ret_then ?_)))))))))
  exact xt_rt rfl ⟨rfl, rfl⟩
set_option maxRecDepth 100000 in
theorem nil_set_ct {a b c : Int} : Reads Try.prog 40 #[.pointer none, .int .i64 a, .int .i64 b, .int .i64 c] [] (.int .i64 12) := by
  refine ct_of (n := 83) Try.func40 rfl rfl (len rfl) fun hr w0 => ?_
  refine cd_seq (cd_region (st_v (v_assign rfl) (st_nil (nx_then (cd_seq (cd_region (st_v (v_move rfl) (st_v (v_move rfl) (st_v (v_move rfl) (st_clr rfl rfl en92 rfl (nil_field_ct) ?_))))))))))
  refine st_v (v_move rfl) (st_v (v_extract rfl rfl) (st_v (v_extract rfl rfl) (st_v (v_extract rfl rfl) (st_v (v_assign rfl) (st_v (v_assign rfl) (st_v (v_assign rfl) (st_nil (nx_kp [0, 1, 2, 3, 8, 9, 10, 11] rfl (nx_then (cd_seq (cd_seq (cd_region (st_v (v_move rfl) (st_v (v_neq rfl rfl) (st_nil (nx_kp [0, 1, 2, 3, 8, 9, 10, 11, 24] rfl (nx_then ?_)))))))))))))))))
  refine cd_true rfl ?_
  refine cd_seq (cd_region (st_v (v_move rfl) (st_v (v_assign rfl) (st_nil (nx_kp [0, 1, 2, 3, 8, 9, 10] rfl (nx_then (cd_ret (xt_ret_then ?_))))))))
  exact xt_rt rfl ⟨rfl, rfl⟩
set_option maxRecDepth 100000 in
theorem nil_rooted_ct {v : Value} : Reads Try.prog 57 #[.pointer none, v] [] (.int .i64 12) := by
  refine ct_of (n := 36) Try.func57 rfl rfl (len rfl) fun hr w0 => ?_
  refine cd_seq (cd_region (st_v (v_assign rfl) (st_nil (nx_then (cd_seq (cd_block (cd_seq (cd_region (st_v (v_move rfl) (st_clr rfl rfl en67 rfl (made_nil_ct) ?_))))))))))
  refine st_v (v_not rfl) (st_v (v_assign rfl) (st_nil (nx_kp [0, 1, 4, 9] rfl (nx_then (cd_true rfl ?_)))))
  refine cd_seq (cd_region (st_v (v_assign rfl) (st_nil (nx_kp [0, 1, 4] rfl (nx_then (cd_ret (xt_ret_block (xt_ret_then ?_))))))))
  exact xt_rt rfl ⟨rfl, rfl⟩
set_option maxRecDepth 100000 in
theorem nil_Minor_ct {v : Value} : Reads Try.prog 34 #[.pointer none, v] [] (.tuple #[.slice none 0 0, .int .i64 12]) := by
  refine ct_of (n := 32) Try.func34 rfl rfl (len rfl) fun hr w0 => ?_
  refine cd_seq (cd_region (st_v (v_assign rfl) (st_v (v_assign rfl) (st_nil (nx_then (cd_seq (cd_seq (cd_region (st_v (v_move rfl) (st_v (v_move rfl) (st_clr rfl rfl en57 rfl (nil_rooted_ct) ?_)))))))))))
  refine st_v (v_assign rfl) (st_nil (nx_kp [0, 1, 4, 5, 6] rfl (nx_then (cd_seq (cd_region (st_v (v_move rfl) (st_v (v_neq rfl rfl) (st_nil (nx_kp [0, 1, 4, 5, 6, 11] rfl (nx_then (cd_true rfl ?_)))))))))))
  refine cd_seq (cd_region (st_v (v_move rfl) (st_v (v_assign rfl) (st_v (v_assign rfl) (st_nil (nx_kp [0, 1, 4, 5] rfl (nx_then (cd_ret (xt_ret_then ?_)))))))))
  exact xt_rt rfl ⟨rfl, rfl⟩
set_option maxRecDepth 100000 in
theorem nil_flip_ct {v : Value} : Reads Try.prog 43 #[.pointer none, v] [] (.tuple #[.slice none 0 0, .int .i64 12]) := by
  refine ct_of (n := 86) Try.func43 rfl rfl (len rfl) fun hr w0 => ?_
  refine cd_seq (cd_region (st_v (v_assign rfl) (st_v (v_assign rfl) (st_nil (nx_then (cd_seq (cd_seq (cd_region (st_v (v_move rfl) (st_clr rfl rfl en67 rfl (made_nil_ct) ?_))))))))))
  refine st_v (v_not rfl) (st_v (v_move rfl) (st_sk rfl rfl rfl ?_))
  refine st_sk rfl rfl rfl ?_
  refine st_sk rfl rfl rfl ?_
  refine st_sk rfl rfl rfl ?_
  refine st_v (v_pick_true rfl rfl) (st_nil (nx_kp [0, 1, 4, 5, 17] rfl (nx_then (cd_true rfl ?_))))
  refine cd_seq (cd_region (st_v (v_assign rfl) (st_v (v_assign rfl) (st_nil (nx_kp [0, 1, 4, 5] rfl (nx_then (cd_ret (xt_ret_then ?_))))))))
  exact xt_rt rfl ⟨rfl, rfl⟩
set_option maxRecDepth 100000 in
theorem nil_step_ct {a : Int} : Reads Try.prog 31 #[.pointer none, .int .i64 a] [] (.tuple #[.int .i64 0, .int .i64 12]) := by
  refine ct_of (n := 148) Try.func31 rfl rfl (len rfl) fun hr w0 => ?_
  refine cd_seq (cd_region (st_v (v_assign rfl) (st_v (v_assign rfl) (st_nil (nx_then (cd_scope (cd_seq (cd_block (cd_seq (cd_region (st_v (v_move rfl) (st_clr rfl rfl en67 rfl (made_nil_ct) ?_))))))))))))
  refine st_v (v_not rfl) (st_v (v_assign rfl) (st_nil (nx_kp [0, 1, 4, 5, 9] rfl (nx_then (cd_true rfl ?_)))))
  refine cd_seq (cd_region (st_v (v_assign rfl) (st_v (v_assign rfl) (st_nil (nx_kp [0, 1, 4, 5] rfl (nx_then (cd_ret (xt_ret_block (xt_ret_then (xt_ret_scope ?_))))))))))
  exact xt_rt rfl ⟨rfl, rfl⟩
set_option maxRecDepth 100000 in
theorem nil_busy_ct : Reads Try.prog 23 #[.pointer none] [] (.bool false) := by
  refine ct_of (n := 11) Try.func23 rfl rfl (len rfl) fun hr w0 => ?_
  refine cd_seq (cd_region (st_v (v_assign rfl) (st_nil (nx_then (cd_seq (cd_region (st_v (v_move rfl) (st_clr rfl rfl en67 rfl (made_nil_ct) ?_))))))))
  refine st_v (v_move rfl) (st_sk rfl rfl rfl ?_)
  refine st_sk rfl rfl rfl ?_
  refine st_sk rfl rfl rfl ?_
  refine st_sk rfl rfl rfl ?_
  refine st_v (v_pick_false rfl rfl) (st_v (v_assign rfl) (st_nil (nx_kp [2] rfl (nx_then (cd_ret ?_)))))
  exact xt_rt rfl ⟨rfl, rfl⟩
set_option maxRecDepth 100000 in
theorem nil_room_ct : Reads Try.prog 24 #[.pointer none] [] (.agg #[.int .i64 0, .int .i64 0, .int .i64 0]) := by
  refine ct_of (n := 28) Try.func24 rfl rfl (len rfl) fun hr w0 => ?_
  refine cd_seq (cd_region (st_alc al54 fun b2 => ?_))
  refine st_nil (nx_then (cd_seq (cd_seq (cd_region (st_v (v_move rfl) (st_clr rfl rfl en67 rfl (made_nil_ct) ?_))))))
  refine st_v (v_not rfl) (st_nil (nx_kp [0, 2, 5] rfl (nx_then (cd_true rfl ?_))))
  refine cd_seq (cd_region (st_v (v_build (cells := [.int .i64 0, .int .i64 0, .int .i64 0]) rfl (fun _ => by kernel_rfl)) ?_))
  refine st_stoW rfl rfl sz54 rfl rfl ?_
  refine st_nil (nx_kp [0, 2] rfl (nx_then (cd_ret (xt_ret_then ?_))))
  exact xt_retV (.cellN rfl ld54 rfl (by repeat (first | exact Sel.here | apply Sel.there)) .nil) ⟨rfl, rfl⟩ (by repeat (first | exact Sub.refl _ | exact Sub.nil _ | refine Sub.sel (by repeat (first | exact Sel.here | apply Sel.there)) ?_ | apply Sub.cons))
set_option maxRecDepth 100000 in
theorem nil_check_ct : Reads Try.prog 26 #[.pointer none] [] (.int .i64 12) := by
  refine ct_of (n := 36) Try.func26 rfl rfl (len rfl) fun hr w0 => ?_
  refine cd_seq (cd_region (st_bx rfl rfl fun b1 => ?_))
  refine st_v (v_assign rfl) (st_nil (nx_kp [1, 2] rfl (nx_then (cd_seq (cd_seq (cd_region (st_v (v_ld rfl ld27) ?_)))))))
  refine st_clr rfl rfl en67 rfl (made_nil_ct) ?_
  refine st_v (v_not rfl) (st_nil (nx_kp [1, 2, 6] rfl (nx_then (cd_true rfl ?_))))
  refine cd_seq (cd_region (st_v (v_assign rfl) (st_nil (nx_kp [1, 2] rfl (nx_then (cd_ret (xt_ret_then ?_)))))))
  exact xt_rt rfl ⟨rfl, rfl⟩
set_option maxRecDepth 100000 in
theorem nil_copy_ct : Reads Try.prog 27 #[.pointer none] [] (.pointer none) := by
  refine ct_of (n := 56) Try.func27 rfl rfl (len rfl) fun hr w0 => ?_
  refine cd_seq (cd_region (st_v (v_assign rfl) (st_nil (nx_then (cd_seq (cd_seq (cd_region (st_v (v_move rfl) (st_clr rfl rfl en67 rfl (made_nil_ct) ?_)))))))))
  refine st_v (v_not rfl) (st_nil (nx_kp [0, 2, 9] rfl (nx_then (cd_true rfl ?_))))
  refine cd_seq (cd_region (st_v (v_assign rfl) (st_nil (nx_kp [0, 2] rfl (nx_then (cd_ret (xt_ret_then ?_)))))))
  exact xt_rt rfl ⟨rfl, rfl⟩
set_option maxRecDepth 100000 in
theorem nil_picture_ct {v : Value} : Reads Try.prog 19 #[.pointer none, v] [] (.tuple #[.agg #[.slice none 0 0, .slice none 0 0, .slice none 0 0], .int .i64 12]) := by
  refine ct_of (n := 114) Try.func19 rfl rfl (len rfl) fun hr w0 => ?_
  refine cd_seq (cd_region (st_bx rfl rfl fun b2 => ?_))
  refine st_alc al42 fun b4 => ?_
  refine st_v (v_assign rfl) (st_nil (nx_kp [1, 2, 4, 5] rfl (nx_then (cd_seq (cd_seq (cd_region (st_v (v_ld rfl ld27) ?_)))))))
  refine st_v (v_move rfl) (st_clr rfl rfl en57 rfl (nil_rooted_ct) ?_)
  refine st_v (v_assign rfl) (st_nil (nx_kp [1, 2, 4, 5, 6] rfl (nx_then (cd_seq (cd_region (st_v (v_move rfl) (st_v (v_neq rfl rfl) (st_nil (nx_kp [1, 2, 4, 5, 6, 24] rfl (nx_then (cd_true rfl ?_)))))))))))
  refine cd_seq (cd_region (st_v (v_build (cells := [.slice none 0 0, .slice none 0 0, .slice none 0 0]) rfl (fun _ => by kernel_rfl)) ?_))
  refine st_v (v_move rfl) (st_stoW rfl rfl sz42 rfl rfl ?_)
  refine st_v (v_assign rfl) (st_nil (nx_kp [1, 2, 4, 5] rfl (nx_then (cd_ret (xt_ret_then ?_)))))
  exact xt_retV (.cellN rfl ld42 rfl (by repeat (first | exact Sel.here | apply Sel.there)) (.tmp rfl .nil)) ⟨rfl, rfl⟩ (by repeat (first | exact Sub.refl _ | exact Sub.nil _ | refine Sub.sel (by repeat (first | exact Sel.here | apply Sel.there)) ?_ | apply Sub.cons))
end Go.Proofs.Ytmhmpjgkkpbnnaa
namespace Go.Proofs.Ytmhmpjgkkpbnnaa
open Go.Ck Fx Go.Hm
attribute [local irreducible] St Cd Xt Nx DrL LsW

/-- The space that is being emptied. -/
def Mem.src (μ : Mem) (oth : Bool) : Sp := if oth then μ.o else μ.y
/-- There is room for what a word refers to. -/
def Mem.roomFor (μ : Mem) (oth : Bool) (t : Int) : Prop := (μ.src oth).begins t = true → ml μ.mv t = none → μ.n.us + μ.osz (μ.src oth) t ≤ μ.n.ws.length ∧ (oth = true → (μ.osz (μ.src oth) t : Int) ≤ μ.le)
/-- Words of a list, from the i-th on, are forwarded, k of them. -/
def Mem.fwdRow (oth : Bool) : Nat → Nat → Mem → List Int → Mem × List Int
  | 0, _, μ, l => (μ, l)
  | k + 1, i, μ, l => fwdRow oth k (i + 1) (μ.fwd (μ.src oth) oth (l.getD i 0)).2 (l.set i (μ.fwd (μ.src oth) oth (l.getD i 0)).1)
def Mem.fwdRowOk (oth : Bool) : Nat → Nat → Mem → List Int → Prop
  | 0, _, _, _ => True
  | k + 1, i, μ, l => μ.roomFor oth (l.getD i 0) ∧ fwdRowOk oth k (i + 1) (μ.fwd (μ.src oth) oth (l.getD i 0)).2 (l.set i (μ.fwd (μ.src oth) oth (l.getD i 0)).1)
/-- A word of the present half is forwarded. -/
def Mem.fwdAt (μ : Mem) (oth : Bool) (k : Nat) : Mem := { (μ.fwd (μ.src oth) oth (μ.n.ws.getD k 0)).2 with n := (μ.fwd (μ.src oth) oth (μ.n.ws.getD k 0)).2.n.setw k (μ.fwd (μ.src oth) oth (μ.n.ws.getD k 0)).1 }
def Mem.fwdNs (oth : Bool) : List Nat → Mem → Mem
  | [], μ => μ
  | k :: ks, μ => fwdNs oth ks (μ.fwdAt oth k)
def Mem.fwdNsOk (oth : Bool) : List Nat → Mem → Prop
  | [], _ => True
  | k :: ks, μ => μ.roomFor oth (μ.n.ws.getD k 0) ∧ fwdNsOk oth ks (μ.fwdAt oth k)
/-- The places of the fields that refer: of the rest of a row, from the j-th field of the object at a place on. -/
def refIdx (a : Nat) : Nat → List Bool → List Nat
  | _, [] => []
  | j, b :: t => if b then (a + 1 + j) :: refIdx a (j + 1) t else refIdx a (j + 1) t
def Mem.nrow (μ : Mem) (a : Nat) : List Bool := shAt μ.sh (μ.n.ws.getD a 0)
/-- New objects of the present half are looked through, from a place on. -/
def Mem.look1 (μ : Mem) (a : Nat) : Mem := Mem.fwdNs false (refIdx a 0 (μ.nrow a)) μ
def Mem.look : Nat → Nat → Mem → Mem
  | 0, _, μ => μ
  | k + 1, a, μ => if a < μ.n.us then look k (a + 1 + ((μ.look1 a).nrow a).length) (μ.look1 a) else μ
def Mem.lookOk : Nat → Nat → Mem → Prop
  | 0, _, _ => True
  | k + 1, a, μ => a < μ.n.us → (0 ≤ μ.n.ws.getD a 0 ∧ μ.n.ws.getD a 0 < μ.sh.length ∧ a + 1 + (μ.nrow a).length ≤ μ.n.ws.length) ∧ Mem.fwdNsOk false (refIdx a 0 (μ.nrow a)) μ ∧
      (0 ≤ (μ.look1 a).n.ws.getD a 0 ∧ (μ.look1 a).n.ws.getD a 0 < μ.sh.length) ∧ lookOk k (a + 1 + ((μ.look1 a).nrow a).length) (μ.look1 a)
def Mem.minor1 (μ : Mem) (roots : List Int) : Mem × List Int := Mem.fwdRow false roots.length 0 { μ with mv := [] } roots
def Mem.kidxs (μ : Mem) : List Nat := μ.kn.map fun k => (k.1 + 1 + k.2 - (μ.n.fr : Int)).toNat
def Mem.minor (μ : Mem) (roots : List Int) : Mem × List Int :=
  let r := μ.minor1 roots
  let m := Mem.look μ.n.ws.length μ.n.us (Mem.fwdNs false μ.kidxs r.1)
  ({ m with mv := μ.mv, y := m.y.empty, kn := [] }, r.2)
theorem fwd_sh (μ : Mem) (s : Sp) (o : Bool) (t : Int) : (μ.fwd s o t).2.sh = μ.sh := by
  unfold Mem.fwd; split
  · split <;> rfl
  · rfl
theorem fwd_kn (μ : Mem) (s : Sp) (o : Bool) (t : Int) : (μ.fwd s o t).2.kn = μ.kn := by
  unfold Mem.fwd; split
  · split <;> rfl
  · rfl
theorem fwd_bu (μ : Mem) (s : Sp) (o : Bool) (t : Int) : (μ.fwd s o t).2.bu = μ.bu := by
  unfold Mem.fwd; split
  · split <;> rfl
  · rfl
theorem fwd_le0 (μ : Mem) (s : Sp) (t : Int) : (μ.fwd s false t).2.le = μ.le := by
  unfold Mem.fwd; split
  · split <;> rfl
  · rfl
/-- The half stays in order while objects come into it. -/
theorem fwd_nok {μ : Mem} {oth : Bool} {t : Int} (hn : μ.n.Ok) (hs : (μ.src oth).Ok) (hp : SpOk μ.sh (μ.src oth)) (hr : μ.roomFor oth t) : (μ.fwd (μ.src oth) oth t).2.n.Ok := by
  unfold Mem.fwd
  split
  · rename_i hb
    split
    · exact hn
    · rename_i hm
      have h1 := (hr hb hm).1
      have h2 := begins_bd hb
      have h3 := hp t hb
      have h4 := hs.us
      have hl : ((μ.src oth).obj t (μ.osz (μ.src oth) t)).length = μ.osz (μ.src oth) t := obj_length (by unfold Mem.osz; omega)
      have hw : (spl μ.n.ws μ.n.us ((μ.src oth).obj t (μ.osz (μ.src oth) t))).length = μ.n.ws.length := spl_length _ _ _ (by rw [hl]; exact h1)
      exact ⟨by simp only [Sp.move, List.length_set, hw]; exact hn.st, by simp only [Sp.move, hw, hl]; exact h1, hn.fr, by simp only [Sp.move, hw]; exact hn.ws⟩
  · exact hn
end Go.Proofs.Ytmhmpjgkkpbnnaa
