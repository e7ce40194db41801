/-
  The reference: keyed, right. Conditions: what is read, that lists are not too long.
  The reference: Right, spotted, state, State, ready, Ready, Ended. Conditions: what is read, that lists are not too long.
  The reference: ready, Ready, Blocks. Conditions: what is read, that lists are not too long.
  The law's bounds on a yard; WaitChecks: for every input the law answers true. Conditions: what is read, that numbers are those of the machine.
  Package wait: Same. Conditions: what is read, that lists are not too long.
  The reference: hold, queue, large; copying of rows. Conditions: what is read, that lists are not too long.
  The reference: copied, Copy. Conditions: what is read, that lists are not too long.
  The reference: puts, leave. Conditions: what is owned, bounds.
  The reference: leave. Conditions: what is owned, bounds.
-/
import Derived.Test.YtboepbencndobaaGreatM11
import Derived.Test.YtboepbencndobaaGreatM10
set_option linter.unusedVariables false
set_option linter.unusedSimpArgs false
namespace Go.Wt
open Go Go.Ck Go.Proofs Go.Proofs.YtboepbencndobaaGreat Fx
attribute [local irreducible] Go.Ck.Sub St Cd Xt Nx DrL LsW
section
variable (p : Proc) (i : Int) (y : Yard)
def Proc.rA : Bool := (!within p.job (-1) ((y.jobs.length : Int) - 1)) || (!within p.waits (-1) ((y.procs.length : Int) - 1)) || (p.waits == i) || decide (p.made < 0) || decide (p.pc < 0)
def Proc.rC : Bool := decide (p.job < 0) && (p.pc != 0 || decide (0 ≤ p.waits) || decide (0 < (p.holds.length : Int)))
def Proc.rD : Bool := decide (0 ≤ p.job) && decide ((y.jlen p.job : Int) < p.pc)
theorem right_r : p.right i y = (!p.rA i y && !p.g3 && !p.rC && !p.rD y && !p.g4 y) := by
 have key : (!p.g1 y && !p.g2 i y) = (!p.rA i y && !p.rC && !p.rD y) := by
  unfold Proc.g1 Proc.g2 Proc.rA Proc.rC Proc.rD
  generalize within p.job (-1) ((y.jobs.length : Int) - 1) = a1
  generalize within p.waits (-1) ((y.procs.length : Int) - 1) = a2
  generalize (p.waits == i) = a3
  generalize decide (p.made < 0) = a4
  generalize decide (0 < (p.holds.length : Int)) = a5
  generalize decide (0 ≤ p.waits) = a6
  generalize (y.jlen p.job : Int) = jl
  unfold within
  by_cases h1 : p.job < 0
  ·have h2 : ¬ 0 ≤ p.job := by omega
   by_cases h3 : p.pc = 0
   ·have h4 : ¬ p.pc < 0 := by omega
    simp only [h1, h2, h3, decide_true, decide_false]
    cases a1 <;> cases a2 <;> cases a3 <;> cases a4 <;> cases a5 <;> cases a6 <;> rfl
   ·have h5 : (p.pc != 0) = true := by simpa using h3
    simp only [h1, h2, h5, decide_true, decide_false]
    generalize decide (p.pc < 0) = a7
    cases a1 <;> cases a2 <;> cases a3 <;> cases a4 <;> cases a5 <;> cases a6 <;> cases a7 <;> rfl
  ·have h2 : 0 ≤ p.job := by omega
   have h6 : decide (p.pc < 0) = !decide (0 ≤ p.pc) := by by_cases h : p.pc < 0 <;> simp [h] <;> omega
   have h7 : decide (jl < p.pc) = !decide (p.pc ≤ jl) := by by_cases h : jl < p.pc <;> simp [h] <;> omega
   rw [h6, h7]
   simp only [h1, h2, decide_true, decide_false]
   generalize decide (0 ≤ p.pc) = a7
   generalize decide (p.pc ≤ jl) = a8
   cases a1 <;> cases a2 <;> cases a3 <;> cases a4 <;> cases a5 <;> cases a6 <;> cases a7 <;> cases a8 <;> rfl
 rw [right_g, key]
 generalize p.rA i y = a1
 generalize p.rC = a2
 generalize p.rD y = a3
 generalize p.g3 = a4
 cases a1 <;> cases a2 <;> cases a3 <;> cases a4 <;> rfl
end
section
variable {S : Res}
set_option maxRecDepth 100000 in
theorem rkeyed_ct (k : Key) (n : Int) (hn : 0 ≤ n ∧ n ≤ 1000000) : Reads Tryz.prog 145 #[.agg (kC k).toArray, .int .i64 n] [] (.bool (keyed k n)) := by
 refine ct_of (n := 15) Tryz.func145 rfl rfl (len rfl) fun hr w0 => ?_
 refine cS (cR (st_bx rfl rfl fun b2 => ?_))
 refine sV (vA rfl) (sN (nK [1, 2, 4] rfl (nT (cS (cR (sV (vF rfl fa79_0 rfl) (sV (vY rfl ld3) ?_)))))))
 refine sV (vM rfl) (sV (v_sub rfl rfl (by unfold I64 at *; omega)) (st_clr rfl rfl en89 rfl (in_ct k.1 0 (n - 1)) ?_))
 refine sV (vM rfl) (st_cut (k := 10) (d := 14) (v := .bool (within k.1 0 (n - 1) && decide (0 ≤ k.2))) (fun hcut => bool_want (b := within k.1 0 (n - 1)) true (fun hg => ?_) (fun hg => ?_)) ?_)
 ·refine st_sk rfl rfl hg ?_
  iterate 2 refine st_sk rfl rfl hg ?_
  refine sV (vP (bE rfl hg) rfl) ?_
  exact hcut _ (uH (by first | rfl | (rw [hg]; rfl) | simp_all) (uS rfl (uS rfl (uS rfl (uR)))))
 ·skip
  refine sG rfl (bG rfl hg) (vF rfl fa79_1 rfl) (sG rfl (bG rfl hg) (vY rfl ld3) ?_)
  refine sG rfl (bG rfl hg) (v_geq rfl rfl) (sV (vQ (bE rfl hg) rfl) ?_)
  exact hcut _ (uH (by first | rfl | (rw [hg]; rfl) | simp_all) (uS rfl (uS rfl (uS rfl (uR)))))
 refine sV (vA rfl) (sN (nK [4] rfl (nT (cT ?_))))
 exact xt_rt rfl ⟨rfl, rfl⟩ sbq
set_option maxHeartbeats 2000000 in
set_option maxRecDepth 100000 in
theorem rright_ct {us ys : List Value} {p : Proc} {i : Int} {y : Yard} (hpp : procR S us p) (hy : yardR S ys y) (hf : FitP p) (hnj : y.jobs.length ≤ 1000000) (hnp : y.procs.length ≤ 1000000) :
  Reads Tryz.prog 113 #[.agg us.toArray, .int .i64 i, .agg ys.toArray] [S] (.bool (p.right i y)) := by
 obtain ⟨jv, pv, rfl, hj, hp⟩ := hy
 obtain ⟨lv, pv', hv, dv, rfl, hL, hP, hH, hD⟩ := hpp
 obtain ⟨fl, fp, fh, fd, fa⟩ := hf
 obtain ⟨aj, cj, rfl, _⟩ := id hj
 obtain ⟨ap, cp, rfl, _⟩ := id hp
 obtain ⟨al, cl', rfl, _⟩ := id hL
 obtain ⟨ap', cp', rfl, _⟩ := id hP
 obtain ⟨ah, ch', rfl, _⟩ := id hH
 obtain ⟨ad, cd', rfl, _⟩ := id hD
 generalize hr0 : p.right i y = r0
 rw [right_r] at hr0
 refine ct_of (n := 239) Tryz.func113 rfl rfl (len rfl) fun hr w0 => ?_
 refine cS (cR (st_bx rfl rfl fun b3 => ?_))
 refine st_bx rfl rfl fun b5 => ?_
 refine sV (vA rfl) (sN (nK [1, 3, 5, 6] rfl (nT (cS (cR (sV (vF rfl fa27_1 rfl) (sV (vY rfl ld25) ?_)))))))
 refine sV (v_len rfl Tryz.underlying25) (sV (vA rfl) (sN (nK [1, 3, 5, 6, 7] rfl (nT (cS (cS (cR (sV (vF rfl fa77_2 rfl) (sV (vY rfl ld3) ?_)))))))))
 refine sV (vF rfl fa27_0 rfl) (sV (vY rfl ld22) ?_)
 refine sV (v_len rfl Tryz.underlying22) (sV (v_sub rfl rfl (by unfold I64 at *; omega)) (st_clr rfl rfl en89 rfl (in_ct p.job (-1) ((y.jobs.length : Int) - 1)) ?_))
 refine sV (v_not rfl) (sV (vM rfl) (st_cut (k := 16) (d := 35) (v := .bool (!within p.job (-1) ((y.jobs.length : Int) - 1) || !within p.waits (-1) ((y.procs.length : Int) - 1))) (fun hcut => bool_want (b := !within p.job (-1) ((y.jobs.length : Int) - 1)) false (fun hg => ?_) (fun hg => ?_)) ?_))
 ·refine st_sk rfl rfl hg ?_
  iterate 5 refine st_sk rfl rfl hg ?_
  refine sV (vQ (bE rfl hg) rfl) ?_
  exact hcut _ (uH (by first | rfl | (rw [hg]; rfl) | simp_all) (uS rfl (uS rfl (uS rfl (uS rfl (uS rfl (uS rfl (uR))))))))
 ·skip
  refine sG rfl (bG rfl hg) (vF rfl fa77_6 rfl) (sG rfl (bG rfl hg) (vY rfl ld3) ?_)
  refine sG rfl (bG rfl hg) (vM rfl) (sG rfl (bG rfl hg) (v_sub rfl rfl (by unfold I64 at *; omega)) (st_clrg rfl (bG rfl hg) rfl rfl en89 rfl (in_ct p.waits (-1) ((y.procs.length : Int) - 1)) ?_))
  refine sG rfl (bG rfl hg) (v_not rfl) (sV (vP (bE rfl hg) rfl) ?_)
  exact hcut _ (uH (by first | rfl | (rw [hg]; rfl) | simp_all) (uS rfl (uS rfl (uS rfl (uS rfl (uS rfl (uS rfl (uR))))))))
 refine sV (vM rfl) (st_cut (k := 22) (d := 41) (v := .bool (!within p.job (-1) ((y.jobs.length : Int) - 1) || !within p.waits (-1) ((y.procs.length : Int) - 1) || (p.waits == i))) (fun hcut => bool_want (b := !within p.job (-1) ((y.jobs.length : Int) - 1) || !within p.waits (-1) ((y.procs.length : Int) - 1)) false (fun hg => ?_) (fun hg => ?_)) ?_)
 ·refine st_sk rfl rfl hg ?_
  iterate 3 refine st_sk rfl rfl hg ?_
  refine sV (vQ (bE rfl hg) rfl) ?_
  exact hcut _ (uH (by first | rfl | (rw [hg]; rfl) | simp_all) (uS rfl (uS rfl (uS rfl (uS rfl (uR))))))
 ·skip
  refine sG rfl (bG rfl hg) (vF rfl fa77_6 rfl) (sG rfl (bG rfl hg) (vY rfl ld3) ?_)
  refine sG rfl (bG rfl hg) (vM rfl) (sG rfl (bG rfl hg) (v_eql rfl rfl) (sV (vP (bE rfl hg) rfl) ?_))
  exact hcut _ (uH (by first | rfl | (rw [hg]; rfl) | simp_all) (uS rfl (uS rfl (uS rfl (uS rfl (uR))))))
 refine sV (vM rfl) (st_cut (k := 27) (d := 46) (v := .bool (!within p.job (-1) ((y.jobs.length : Int) - 1) || !within p.waits (-1) ((y.procs.length : Int) - 1) || (p.waits == i) || decide (p.made < 0))) (fun hcut => bool_want (b := !within p.job (-1) ((y.jobs.length : Int) - 1) || !within p.waits (-1) ((y.procs.length : Int) - 1) || (p.waits == i)) false (fun hg => ?_) (fun hg => ?_)) ?_)
 ·refine st_sk rfl rfl hg ?_
  iterate 2 refine st_sk rfl rfl hg ?_
  refine sV (vQ (bE rfl hg) rfl) ?_
  exact hcut _ (uH (by first | rfl | (rw [hg]; rfl) | simp_all) (uS rfl (uS rfl (uS rfl (uR)))))
 ·skip
  refine sG rfl (bG rfl hg) (vF rfl fa77_7 rfl) (sG rfl (bG rfl hg) (vY rfl ld3) ?_)
  refine sG rfl (bG rfl hg) (v_lss rfl rfl) (sV (vP (bE rfl hg) rfl) ?_)
  exact hcut _ (uH (by first | rfl | (rw [hg]; rfl) | simp_all) (uS rfl (uS rfl (uS rfl (uR)))))
 refine sV (vM rfl) (st_cut (k := 32) (d := 51) (v := .bool (!within p.job (-1) ((y.jobs.length : Int) - 1) || !within p.waits (-1) ((y.procs.length : Int) - 1) || (p.waits == i) || decide (p.made < 0) || decide (p.pc < 0))) (fun hcut => bool_want (b := !within p.job (-1) ((y.jobs.length : Int) - 1) || !within p.waits (-1) ((y.procs.length : Int) - 1) || (p.waits == i) || decide (p.made < 0)) false (fun hg => ?_) (fun hg => ?_)) ?_)
 ·refine st_sk rfl rfl hg ?_
  iterate 2 refine st_sk rfl rfl hg ?_
  refine sV (vQ (bE rfl hg) rfl) ?_
  exact hcut _ (uH (by first | rfl | (rw [hg]; rfl) | simp_all) (uS rfl (uS rfl (uS rfl (uR)))))
 ·skip
  refine sG rfl (bG rfl hg) (vF rfl fa77_3 rfl) (sG rfl (bG rfl hg) (vY rfl ld3) ?_)
  refine sG rfl (bG rfl hg) (v_lss rfl rfl) (sV (vP (bE rfl hg) rfl) ?_)
  exact hcut _ (uH (by first | rfl | (rw [hg]; rfl) | simp_all) (uS rfl (uS rfl (uS rfl (uR)))))
 refine sN (nK [3, 5, 6, 7, 51] rfl (nT (cC rfl (fun hA => ?_) (fun hA => ?_))))
 ·skip
  rw [show p.rA i y = true from hA] at hr0
  simp at hr0
  subst hr0
  refine cS (cR (sV (vA rfl) (sN (nK [6] rfl (nT (cT (xR ?_)))))))
  exact xt_rt rfl ⟨rfl, rfl⟩ sbq
 ·skip
  rw [show p.rA i y = false from hA] at hr0
  have hA1 : within p.job (-1) ((y.jobs.length : Int) - 1) = true := by
   simp only [Bool.or_eq_false_iff, Bool.not_eq_false'] at hA
   exact hA.1.1.1.1
  refine cK (xT (cS (cS (cR (sV (vF rfl fa77_8 rfl) (sV (vY rfl ld62) ?_))))))
  refine sV (v_len rfl Tryz.underlying62) (sV (v_gtr rfl rfl) (sV (vM rfl) (st_cut (k := 10) (d := 61) (v := .bool (decide (400 < (p.did.length : Int)) || decide (400 < (p.puts.length : Int)))) (fun hcut => bool_want (b := decide (400 < (p.did.length : Int))) false (fun hg => ?_) (fun hg => ?_)) ?_)))
  ·refine st_sk rfl rfl hg ?_
   iterate 3 refine st_sk rfl rfl hg ?_
   refine sV (vQ (bE rfl hg) rfl) ?_
   exact hcut _ (uH (by first | rfl | (rw [hg]; rfl) | simp_all) (uS rfl (uS rfl (uS rfl (uS rfl (uR))))))
  ·skip
   refine sG rfl (bG rfl hg) (vF rfl fa77_1 rfl) (sG rfl (bG rfl hg) (vY rfl ld74) ?_)
   refine sG rfl (bG rfl hg) (v_len rfl Tryz.underlying74) (sG rfl (bG rfl hg) (v_gtr rfl rfl) (sV (vP (bE rfl hg) rfl) ?_))
   exact hcut _ (uH (by first | rfl | (rw [hg]; rfl) | simp_all) (uS rfl (uS rfl (uS rfl (uS rfl (uR))))))
  refine sV (vM rfl) (st_cut (k := 16) (d := 67) (v := .bool (decide (400 < (p.did.length : Int)) || decide (400 < (p.puts.length : Int)) || decide (400 < (p.lines.length : Int)))) (fun hcut => bool_want (b := decide (400 < (p.did.length : Int)) || decide (400 < (p.puts.length : Int))) false (fun hg => ?_) (fun hg => ?_)) ?_)
  ·refine st_sk rfl rfl hg ?_
   iterate 3 refine st_sk rfl rfl hg ?_
   refine sV (vQ (bE rfl hg) rfl) ?_
   exact hcut _ (uH (by first | rfl | (rw [hg]; rfl) | simp_all) (uS rfl (uS rfl (uS rfl (uS rfl (uR))))))
  ·skip
   refine sG rfl (bG rfl hg) (vF rfl fa77_0 rfl) (sG rfl (bG rfl hg) (vY rfl ld73) ?_)
   refine sG rfl (bG rfl hg) (v_len rfl Tryz.underlying73) (sG rfl (bG rfl hg) (v_gtr rfl rfl) (sV (vP (bE rfl hg) rfl) ?_))
   exact hcut _ (uH (by first | rfl | (rw [hg]; rfl) | simp_all) (uS rfl (uS rfl (uS rfl (uS rfl (uR))))))
  refine sV (vM rfl) (st_cut (k := 22) (d := 73) (v := .bool (decide (400 < (p.did.length : Int)) || decide (400 < (p.puts.length : Int)) || decide (400 < (p.lines.length : Int)) || decide (20 < (p.holds.length : Int)))) (fun hcut => bool_want (b := decide (400 < (p.did.length : Int)) || decide (400 < (p.puts.length : Int)) || decide (400 < (p.lines.length : Int))) false (fun hg => ?_) (fun hg => ?_)) ?_)
  ·refine st_sk rfl rfl hg ?_
   iterate 3 refine st_sk rfl rfl hg ?_
   refine sV (vQ (bE rfl hg) rfl) ?_
   exact hcut _ (uH (by first | rfl | (rw [hg]; rfl) | simp_all) (uS rfl (uS rfl (uS rfl (uS rfl (uR))))))
  ·skip
   refine sG rfl (bG rfl hg) (vF rfl fa77_5 rfl) (sG rfl (bG rfl hg) (vY rfl ld75) ?_)
   refine sG rfl (bG rfl hg) (v_len rfl Tryz.underlying75) (sG rfl (bG rfl hg) (v_gtr rfl rfl) (sV (vP (bE rfl hg) rfl) ?_))
   exact hcut _ (uH (by first | rfl | (rw [hg]; rfl) | simp_all) (uS rfl (uS rfl (uS rfl (uS rfl (uR))))))
  refine sN (nK [3, 5, 6, 7, 73] rfl (nT (cC rfl (fun hB => ?_) (fun hB => ?_))))
  ·skip
   rw [show p.g3 = true from hB] at hr0
   simp at hr0
   subst hr0
   refine cS (cR (sV (vA rfl) (sN (nK [6] rfl (nT (cT (xR ?_)))))))
   exact xt_rt rfl ⟨rfl, rfl⟩ sbq
  ·skip
   rw [show p.g3 = false from hB] at hr0
   refine cK (xT (cS (cS (cR (sV (vF rfl fa77_2 rfl) (sV (vY rfl ld3) ?_))))))
   refine sV (v_lss rfl rfl) (sV (vM rfl) (st_cut (k := 19) (d := 92) (v := .bool (decide (p.job < 0) && (p.pc != 0 || decide (0 ≤ p.waits) || decide (0 < (p.holds.length : Int))))) (fun hcut => bool_want (b := decide (p.job < 0)) true (fun hg => ?_) (fun hg => ?_)) ?_))
   ·refine st_sk rfl rfl hg ?_
    iterate 3 refine st_sk rfl rfl hg ?_
    refine st_sku rfl rfl ?_
    refine st_sku rfl rfl ?_
    refine st_sku rfl rfl ?_
    iterate 2 refine st_sk rfl rfl hg ?_
    refine st_sku rfl rfl ?_
    refine st_sku rfl rfl ?_
    refine st_sku rfl rfl ?_
    refine st_sku rfl rfl ?_
    refine st_sk rfl rfl hg ?_
    refine sV (vP (bE rfl hg) rfl) ?_
    exact hcut _ (uH (by first | rfl | (rw [hg]; rfl) | simp_all) (uS rfl (uS rfl (uS rfl (uS rfl (uS rfl (uS rfl (uS rfl (uS rfl (uS rfl (uS rfl (uS rfl (uS rfl (uS rfl (uS rfl (uR))))))))))))))))
   ·skip
    refine sG rfl (bG rfl hg) (vF rfl fa77_3 rfl) (sG rfl (bG rfl hg) (vY rfl ld3) ?_)
    refine sG rfl (bG rfl hg) (v_neq rfl rfl) (sG rfl (bG rfl hg) (vM rfl) (st_cut (k := 12) (d := 85) (v := .bool (p.pc != 0 || decide (0 ≤ p.waits))) (fun hcut => bool_want (b := p.pc != 0) false (fun hg1 => ?_) (fun hg1 => ?_)) ?_))
    ·refine st_sk rfl rfl hg1 ?_
     iterate 2 refine st_sk rfl rfl hg1 ?_
     refine sG rfl (bG rfl hg) (vQ (bE rfl hg1) rfl) ?_
     exact hcut _ (uH (by first | rfl | (rw [hg1]; rfl) | simp_all) (uS rfl (uS rfl (uS rfl (uR)))))
    ·skip
     refine sG rfl (bG rfl hg1) (vF rfl fa77_6 rfl) (sG rfl (bG rfl hg1) (vY rfl ld3) ?_)
     refine sG rfl (bG rfl hg1) (v_geq rfl rfl) (sG rfl (bG rfl hg) (vP (bE rfl hg1) rfl) ?_)
     exact hcut _ (uH (by first | rfl | (rw [hg1]; rfl) | simp_all) (uS rfl (uS rfl (uS rfl (uR)))))
    refine sG rfl (bG rfl hg) (vM rfl) (st_cut (k := 18) (d := 91) (v := .bool (p.pc != 0 || decide (0 ≤ p.waits) || decide (0 < (p.holds.length : Int)))) (fun hcut => bool_want (b := p.pc != 0 || decide (0 ≤ p.waits)) false (fun hg1 => ?_) (fun hg1 => ?_)) ?_)
    ·refine st_sk rfl rfl hg1 ?_
     iterate 3 refine st_sk rfl rfl hg1 ?_
     refine sG rfl (bG rfl hg) (vQ (bE rfl hg1) rfl) ?_
     exact hcut _ (uH (by first | rfl | (rw [hg1]; rfl) | simp_all) (uS rfl (uS rfl (uS rfl (uS rfl (uR))))))
    ·skip
     refine sG rfl (bG rfl hg1) (vF rfl fa77_5 rfl) (sG rfl (bG rfl hg1) (vY rfl ld75) ?_)
     refine sG rfl (bG rfl hg1) (v_len rfl Tryz.underlying75) (sG rfl (bG rfl hg1) (v_gtr rfl rfl) (sG rfl (bG rfl hg) (vP (bE rfl hg1) rfl) ?_))
     exact hcut _ (uH (by first | rfl | (rw [hg1]; rfl) | simp_all) (by repeat (first | exact uR | refine uS rfl ?_)))
    refine sV (vQ (bE rfl hg) rfl) ?_
    exact hcut _ (uH (by first | rfl | (rw [hg]; rfl) | simp_all) (by repeat (first | exact uR | refine uS rfl ?_)))
   refine sN (nK [3, 5, 6, 7, 92] rfl (nT (cC rfl (fun hC => ?_) (fun hC => ?_))))
   ·skip
    rw [show p.rC = true from hC] at hr0
    simp at hr0
    subst hr0
    refine cS (cR (sV (vA rfl) (sN (nK [6] rfl (nT (cT (xR ?_)))))))
    exact xt_rt rfl ⟨rfl, rfl⟩ sbq
   ·skip
    rw [show p.rC = false from hC] at hr0
    refine cK (xT (cS (cS (cd_drawh (ork [(0, 2), (1, 1), (2, 2), (3, 2), (4, 2), (5, 1), (6, 2), (7, 1), (8, 2), (9, 1), (10, 2), (11, 2), (12, 1), (13, 2), (14, 2), (15, 2)] .nil) (fun _ => true) mixed (by kernel_rfl) ?_))))
    refine dV rfl (vF rfl fa77_2 rfl) (dr_v rfl (vY rfl ld3) ?_)
    refine dV rfl (v_geq rfl rfl) (dV rfl (vM rfl) (dr_cut (k := 12) (d := 108) (v := .bool (decide (0 ≤ p.job) && decide ((y.jlen p.job : Int) < p.pc))) (fun hcut => bool_want (b := decide (0 ≤ p.job)) true (fun hg => ?_) (fun hg => ?_)) ?_))
    ·refine dp_sk rfl rfl rfl hg ?_
     refine dr_sk rfl rfl rfl hg ?_
     refine dp_sk rfl rfl rfl hg ?_
     refine dr_sk rfl rfl rfl hg ?_
     refine dp_sk rfl rfl rfl hg ?_
     refine dr_sk rfl rfl rfl hg ?_
     iterate 2 refine dp_sk rfl rfl rfl hg ?_
     refine dr_sk rfl rfl rfl hg ?_
     iterate 2 refine dp_sk rfl rfl rfl hg ?_
     refine dV rfl (vP (bE rfl hg) rfl) ?_
     exact hcut _ (uH (by first | rfl | (rw [hg]; rfl) | simp_all) (uS rfl (uS rfl (uS rfl (uS rfl (uS rfl (uS rfl (uS rfl (uS rfl (uS rfl (uS rfl (uS rfl (uR)))))))))))))
    ·skip
     have hjob : 0 ≤ p.job := by simpa using hg
     have hjob2 : p.job ≤ (y.jobs.length : Int) - 1 := by have := hA1; unfold within at this; simp at this; omega
     have hjlt : p.job.toNat < y.jobs.length := by omega
     obtain ⟨bj, oj, cj2, uj, uja, ujc, hvj, hrdj, huj, hXj⟩ := jobs_at hj hjlt
     subst huj
     have hjl : (y.jobs[p.job.toNat]).length = y.jlen p.job := by unfold Yard.jlen; rw [List.getD_eq_getElem?_getD, List.getElem?_eq_getElem hjlt]; rfl
     rw [hjl] at hrdj
     refine dp_vg rfl rfl (bG rfl hg) (vF rfl fa77_3 rfl) (dr_vg rfl rfl (bG rfl hg) (vY rfl ld3) ?_)
     refine dp_vg rfl rfl (bG rfl hg) (vF rfl fa27_0 rfl) (dr_vg rfl rfl (bG rfl hg) (vY rfl ld22) ?_)
     refine dp_vg rfl rfl (bG rfl hg) (vF rfl fa77_2 rfl) (dr_vg rfl rfl (bG rfl hg) (vY rfl ld3) ?_)
     refine dp_vg rfl rfl (bG rfl hg) (v_max rfl rfl hjob) (dp_vg rfl rfl (bG rfl hg) (vI (k := p.job.toNat) (congrArg some hvj) rfl sl22 (by omega) hjlt rfl) (dr_vg rfl rfl (bG rfl hg) (vY rfl ld108) ?_))
     refine dp_vg rfl rfl (bG rfl hg) (v_len rfl Tryz.underlying108) (dp_vg rfl rfl (bG rfl hg) (v_gtr rfl rfl) (dV rfl (vQ (bE rfl hg) rfl) ?_))
     exact hcut _ (uH (by first | rfl | (rw [hg]; rfl) | simp_all) (uS rfl (uS rfl (uS rfl (uS rfl (uS rfl (uS rfl (uS rfl (uS rfl (uS rfl (uS rfl (uS rfl (uR)))))))))))))
    refine dr_nil (nK [3, 5, 6, 7, 108] rfl (nT (cC rfl (fun hD0 => ?_) (fun hD0 => ?_))))
    ·skip
     rw [show p.rD y = true from hD0] at hr0
     simp at hr0
     subst hr0
     refine cS (cR (sV (vA rfl) (sN (nK [6] rfl (nT (cT (xR ?_)))))))
     exact xt_rt rfl ⟨rfl, rfl⟩ sbq
    ·skip
     rw [show p.rD y = false from hD0] at hr0
     simp only [Bool.not_false, Bool.true_and] at hr0
     unfold Proc.g4 at hr0
     refine cK (xT (cS (cS (cR (sV (vA rfl) (sN (nK [3, 5, 6, 7, 8] rfl (nT (cB (cd_lq (σ := Nat) (fun k => [(3, .pointer (some ⟨b3, 0, none⟩)), (5, .pointer (some ⟨b5, 0, none⟩)), (7, .int .i64 y.procs.length), (8, .int .i64 (k : Nat))]) (fun _ => pt b5 (cl [.slice aj y.jobs.length cj, .slice ap y.procs.length cp] 27) :: pt b3 (cl (pC (.slice al p.lines.length cl') (.slice ap' p.puts.length cp') (.slice ah p.holds.length ch') (.slice ad p.did.length cd') p) 77) :: S :: hr) (fun k => k ≤ p.lines.length ∧ ∀ (j : Nat) (hj : j < p.lines.length), j < k → lineOk y.procs.length y.jobs.length p.lines[j] = true) (fun k => p.lines.length - k) 0 ⟨Nat.zero_le _, fun j _ hj => by omega⟩ ?_))))))))))
     rintro k ⟨hk, hall⟩
     refine cS (cS (cR (sV (vM rfl) (sV (vF rfl fa77_0 rfl) (sV (vY rfl ld73) ?_)))))
     refine sV (v_len rfl Tryz.underlying73) (sV (v_lss rfl rfl) (sN (nK [3, 5, 7, 8, 113] rfl (nT (cC rfl (fun hd => ?_) (fun hd => ?_))))))
     ·skip
      have hkt : k < p.lines.length := by simpa using hd
      obtain ⟨b, o, cp2, us, hv2, hus, hrd, av, rfl, hAs⟩ := hL.at (List.getElem?_eq_getElem hkt)
      obtain ⟨aa, ac, rfl, _⟩ := id hAs
      have hbad : lineOk y.procs.length y.jobs.length p.lines[k] = false → r0 = false := fun h => by
       rw [← hr0, all_bad (g := fun l => lineOk y.procs.length y.jobs.length l) hkt h]; simp
      have hgood : lineOk y.procs.length y.jobs.length p.lines[k] = true → ∀ (j : Nat) (hj : j < p.lines.length), j < k + 1 → lineOk y.procs.length y.jobs.length p.lines[j] = true := fun h j hj' hji => by
       by_cases hjk : j = k
       ·subst hjk; exact h
       ·exact hall j hj' (by omega)
      have hal := fa _ (List.getElem_mem hkt)
      generalize p.lines[k] = l at *
      refine cK (xT (cS (cB (cS (cR (sV (vF rfl fa77_0 rfl) (sV (vY rfl ld73) ?_)))))))
      refine sV (vM rfl) (sV (vI (k := k) (congrArg some hv2) rfl sl73 rfl hkt rfl) (sV (vF rfl fa120_0 rfl) (sV (v_ldn (vs := kC l.key) rfl ld79 rfl (rds_sub hrd rfl)) ?_)))
      refine sV (vM rfl) (st_clr rfl rfl en145 rfl (rkeyed_ct l.key y.procs.length ⟨by omega, by omega⟩) ?_)
      refine sV (vA rfl) (sN (nK [3, 5, 7, 8, 9] rfl (nT (cS (cS (cR (sV (vM rfl) (sV (v_not rfl) (sV (vM rfl) (st_cut (k := 12) (d := 135) (v := .bool (!keyed l.key y.procs.length || decide (400 < (l.asks.length : Int)))) (fun hcut => bool_want (b := !keyed l.key y.procs.length) false (fun hg => ?_) (fun hg => ?_)) ?_))))))))))
      ·refine st_sk rfl rfl hg ?_
       iterate 7 refine st_sk rfl rfl hg ?_
       refine sV (vQ (bE rfl hg) rfl) ?_
       exact hcut _ (uH (by first | rfl | (rw [hg]; rfl) | simp_all) (uS rfl (uS rfl (uS rfl (uS rfl (uS rfl (uS rfl (uS rfl (uS rfl (uR))))))))))
      ·skip
       refine sG rfl (bG rfl hg) (vF rfl fa77_0 rfl) (sG rfl (bG rfl hg) (vY rfl ld73) ?_)
       refine sG rfl (bG rfl hg) (vM rfl) (sG rfl (bG rfl hg) (vI (k := k) (congrArg some hv2) rfl sl73 rfl hkt rfl) (sG rfl (bG rfl hg) (vF rfl fa120_1 rfl) (sG rfl (bG rfl hg) (vY rfl ld118) ?_)))
       refine sG rfl (bG rfl hg) (v_len rfl Tryz.underlying118) (sG rfl (bG rfl hg) (v_gtr rfl rfl) (sV (vP (bE rfl hg) rfl) ?_))
       exact hcut _ (uH (by first | rfl | (rw [hg]; rfl) | simp_all) (uS rfl (uS rfl (uS rfl (uS rfl (uS rfl (uS rfl (uS rfl (uS rfl (uR))))))))))
      refine sN (nK [3, 5, 7, 8, 135] rfl (nT (cC rfl (fun hk1 => ?_) (fun hk1 => ?_))))
      ·skip
       obtain rfl := hbad (by
        unfold lineOk
        rw [Bool.or_eq_true, Bool.not_eq_true', decide_eq_true_eq] at hk1
        rw [Bool.and_eq_false_iff, Bool.and_eq_false_iff, decide_eq_false_iff_not]
        left
        rcases hk1 with h | h
        ·exact .inl h
        ·exact .inr (by omega))
       refine cS (cR (sV (vA rfl) (sN (nK [6] rfl (nT (cT (xR (xW (xR (xR (xW (xR ?_))))))))))))
       exact xt_rt rfl ⟨rfl, rfl⟩ sbq
      ·skip
       rw [Bool.or_eq_false_iff, Bool.not_eq_false', decide_eq_false_iff_not] at hk1
       refine cK (xT (cS (cR (sV (vA rfl) (sN (nK [3, 5, 7, 8, 10] rfl (nT (cB (cd_lq (σ := Nat) (fun q => [(3, .pointer (some ⟨b3, 0, none⟩)), (5, .pointer (some ⟨b5, 0, none⟩)), (7, .int .i64 y.procs.length), (8, .int .i64 (k : Nat)), (10, .int .i64 (q : Nat))]) (fun _ => pt b5 (cl [.slice aj y.jobs.length cj, .slice ap y.procs.length cp] 27) :: pt b3 (cl (pC (.slice al p.lines.length cl') (.slice ap' p.puts.length cp') (.slice ah p.holds.length ch') (.slice ad p.did.length cd') p) 77) :: S :: hr) (fun q => q ≤ l.asks.length ∧ ∀ (j : Nat) (hj : j < l.asks.length), j < q → within (l.asks[j]).1 0 ((y.jobs.length : Int) - 1) = true) (fun q => l.asks.length - q) 0 ⟨Nat.zero_le _, fun j _ hj => by omega⟩ ?_)))))))))
       rintro q ⟨hq, hallq⟩
       refine cS (cS (cR (sV (vM rfl) (sV (vF rfl fa77_0 rfl) (sV (vY rfl ld73) ?_)))))
       refine sV (vM rfl) (sV (vI (k := k) (congrArg some hv2) rfl sl73 rfl hkt rfl) (sV (vF rfl fa120_1 rfl) (sV (vY rfl ld118) ?_)))
       refine sV (v_len rfl Tryz.underlying118) (sV (v_lss rfl rfl) (sN (nK [3, 5, 7, 8, 10, 144] rfl (nT (cC rfl (fun hd2 => ?_) (fun hd2 => ?_))))))
       ·skip
        have hqt : q < l.asks.length := by simpa using hd2
        obtain ⟨c1, c2, c3, cus, hcv, hcus, hcrd, rfl⟩ := hAs.at (List.getElem?_eq_getElem hqt)
        have hw : within (l.asks[q]).1 0 ((y.jobs.length : Int) - 1) = false → lineOk y.procs.length y.jobs.length l = false := fun h => by
         unfold lineOk
         rw [all_bad (g := fun a : Ask => within a.1 0 ((y.jobs.length : Int) - 1)) hqt h, Bool.and_false]
        have hwg : within (l.asks[q]).1 0 ((y.jobs.length : Int) - 1) = true → ∀ (j : Nat) (hj : j < l.asks.length), j < q + 1 → within (l.asks[j]).1 0 ((y.jobs.length : Int) - 1) = true := fun h j hj' hji => by
         by_cases hjk : j = q
         ·subst hjk; exact h
         ·exact hallq j hj' (by omega)
        generalize l.asks[q] = x at *
        refine cK (xT (cS (cB (cS (cd_drawh (ork [(0, 2), (1, 1), (2, 2), (3, 2), (4, 2), (5, 1), (6, 2), (7, 2), (8, 2), (9, 1), (10, 2), (11, 1), (12, 2), (13, 2), (14, 1), (15, 2)] .nil) (fun _ => true) mixed (by kernel_rfl) ?_)))))
        refine dV rfl (vF rfl fa77_0 rfl) (dr_v rfl (vY rfl ld73) ?_)
        refine dV rfl (vM rfl) (dV rfl (vI (k := k) (congrArg some hv2) rfl sl73 rfl hkt rfl) (dV rfl (vF rfl fa120_1 rfl) (dr_v rfl (vY rfl ld118) ?_)))
        refine dV rfl (vM rfl) (dV rfl (vI (k := q) (congrArg some hcv) rfl sl118 rfl hqt rfl) (dV rfl (vF rfl fa117_0 rfl) (dr_v rfl (vY rfl ld3) ?_)))
        refine dV rfl (vF rfl fa27_0 rfl) (dr_v rfl (vY rfl ld22) ?_)
        refine dV rfl (v_len rfl Tryz.underlying22) (dV rfl (v_sub rfl rfl (by unfold I64 at *; omega)) (dr_clr rfl rfl rfl en89 rfl (in_ct x.1 0 ((y.jobs.length : Int) - 1)) ?_))
        refine dV rfl (v_not rfl) (dr_nil (nK [3, 5, 7, 8, 10, 162] rfl (nT (cC rfl (fun hx => ?_) (fun hx => ?_)))))
        ·skip
         obtain rfl := hbad (hw (by simpa using hx))
         refine cS (cR (sV (vA rfl) (sN (nK [6] rfl (nT (cT (xW (xR (xR (xW (xW (xR (xR (xW (xR ?_)))))))))))))))
         exact xt_rt rfl ⟨rfl, rfl⟩ sbq
        ·skip
         refine cK (xB (xT (cR (sV (vM rfl) (sV (v_add rfl rfl (by unfold I64 at *; omega)) (sV (vA rfl) (sN (nK [3, 5, 7, 8, 10] rfl (nx_xt ?_)))))))))
         refine xt_aq (q + 1) ⟨hqt, hwg (by simpa using hx)⟩ (by show _ - _ < _ - _; omega)
       ·skip
        have hql : q = l.asks.length := by
         have : ¬ q < l.asks.length := by simpa using hd2
         omega
        refine cd_exit (xE (xE (xY (xB (xT (cR (sV (vM rfl) (sV (v_add rfl rfl (by unfold I64 at *; omega)) (sV (vA rfl) (sN (nK [3, 5, 7, 8] rfl (nx_xt ?_))))))))))))
        refine xt_aq (k + 1) ⟨hkt, hgood (by
         unfold lineOk
         rw [hk1.1, decide_eq_true (by omega), all_good (g := fun a : Ask => within a.1 0 ((y.jobs.length : Int) - 1)) (fun j hj' => hallq j hj' (by omega))]
         rfl)⟩ (by show _ - _ < _ - _; omega)
     ·skip
      have hkl : k = p.lines.length := by
       have : ¬ k < p.lines.length := by simpa using hd
       omega
      rw [all_good (g := fun l => lineOk y.procs.length y.jobs.length l) (fun j hj' => hall j hj' (by omega))] at hr0
      refine cd_exit (xE (xE (xY (xT (cS (cS (cR (sV (vA rfl) (sN (nK [3, 5, 7, 11] rfl (nT (cB (cd_lq (σ := Nat) (fun k => [(3, .pointer (some ⟨b3, 0, none⟩)), (5, .pointer (some ⟨b5, 0, none⟩)), (7, .int .i64 y.procs.length), (11, .int .i64 (k : Nat))]) (fun _ => pt b5 (cl [.slice aj y.jobs.length cj, .slice ap y.procs.length cp] 27) :: pt b3 (cl (pC (.slice al p.lines.length cl') (.slice ap' p.puts.length cp') (.slice ah p.holds.length ch') (.slice ad p.did.length cd') p) 77) :: S :: hr) (fun k => k ≤ p.puts.length ∧ ∀ (j : Nat) (hj : j < p.puts.length), j < k → keyed p.puts[j] y.procs.length = true) (fun k => p.puts.length - k) 0 ⟨Nat.zero_le _, fun j _ hj => by omega⟩ ?_)))))))))))))
      rintro k2 ⟨hk2, hall2⟩
      refine cS (cS (cR (sV (vM rfl) (sV (vF rfl fa77_1 rfl) (sV (vY rfl ld74) ?_)))))
      refine sV (v_len rfl Tryz.underlying74) (sV (v_lss rfl rfl) (sN (nK [3, 5, 7, 11, 167] rfl (nT (cC rfl (fun hd3 => ?_) (fun hd3 => ?_))))))
      ·skip
       have hkt2 : k2 < p.puts.length := by simpa using hd3
       obtain ⟨c1, c2, c3, cus, hcv, hcus, hcrd, rfl⟩ := hP.at (List.getElem?_eq_getElem hkt2)
       refine cK (xT (cS (cB (cS (cR (sV (vF rfl fa77_1 rfl) (sV (vY rfl ld74) ?_)))))))
       refine sV (vM rfl) (sV (vI (k := k2) (congrArg some hcv) rfl sl74 rfl hkt2 rfl) (sV (v_ldn rfl ld79 hcus hcrd) ?_))
       refine sV (vM rfl) (st_clr rfl rfl en145 rfl (rkeyed_ct p.puts[k2] y.procs.length ⟨by omega, by omega⟩) ?_)
       refine sV (vA rfl) (sN (nK [3, 5, 7, 11, 12] rfl (nT (cS (cR (sV (vM rfl) (sV (v_not rfl) (sN (nK [3, 5, 7, 11, 178] rfl (nT (cC rfl (fun hx => ?_) (fun hx => ?_))))))))))))
       ·skip
        rw [all_bad (g := fun k => keyed k y.procs.length) hkt2 (by simpa using hx)] at hr0
        simp at hr0
        subst hr0
        refine cS (cR (sV (vA rfl) (sN (nK [6] rfl (nT (cT (xW (xR (xR (xW (xR ?_)))))))))))
        exact xt_rt rfl ⟨rfl, rfl⟩ sbq
       ·skip
        refine cK (xB (xT (cR (sV (vM rfl) (sV (v_add rfl rfl (by unfold I64 at *; omega)) (sV (vA rfl) (sN (nK [3, 5, 7, 11] rfl (nx_xt (xt_aq (k2 + 1) ⟨hkt2, fun j hj' hji => ?_⟩ (by show _ - _ < _ - _; omega)))))))))))
        by_cases hjk : j = k2
        ·subst hjk; simpa using hx
        ·exact hall2 j hj' (by omega)
      ·skip
       have hkl2 : k2 = p.puts.length := by
        have : ¬ k2 < p.puts.length := by simpa using hd3
        omega
       rw [all_good (g := fun k => keyed k y.procs.length) (fun j hj' => hall2 j hj' (by omega))] at hr0
       refine cd_exit (xE (xE (xY (xT (cS (cS (cR (sV (vA rfl) (sN (nK [3, 5, 7, 13] rfl (nT (cB (cd_lq (σ := Nat) (fun k => [(3, .pointer (some ⟨b3, 0, none⟩)), (5, .pointer (some ⟨b5, 0, none⟩)), (7, .int .i64 y.procs.length), (13, .int .i64 (k : Nat))]) (fun _ => pt b5 (cl [.slice aj y.jobs.length cj, .slice ap y.procs.length cp] 27) :: pt b3 (cl (pC (.slice al p.lines.length cl') (.slice ap' p.puts.length cp') (.slice ah p.holds.length ch') (.slice ad p.did.length cd') p) 77) :: S :: hr) (fun k => k ≤ p.holds.length ∧ ∀ (j : Nat) (hj : j < p.holds.length), j < k → holdOk y.procs.length p.holds[j] = true) (fun k => p.holds.length - k) 0 ⟨Nat.zero_le _, fun j _ hj => by omega⟩ ?_)))))))))))))
       rintro k3 ⟨hk3, hall3⟩
       refine cS (cS (cR (sV (vM rfl) (sV (vF rfl fa77_5 rfl) (sV (vY rfl ld75) ?_)))))
       refine sV (v_len rfl Tryz.underlying75) (sV (v_lss rfl rfl) (sN (nK [3, 5, 7, 13, 183] rfl (nT (cC rfl (fun hd4 => ?_) (fun hd4 => ?_))))))
       ·skip
        have hkt3 : k3 < p.holds.length := by simpa using hd4
        obtain ⟨c1, c2, c3, cus, hcv, hcus, hcrd, rfl⟩ := hH.at (List.getElem?_eq_getElem hkt3)
        have hbad3 : holdOk y.procs.length p.holds[k3] = false → r0 = false := fun h => by
         rw [← hr0, all_bad (g := fun h => holdOk y.procs.length h) hkt3 h]; simp
        have hgood3 : holdOk y.procs.length p.holds[k3] = true → ∀ (j : Nat) (hj : j < p.holds.length), j < k3 + 1 → holdOk y.procs.length p.holds[j] = true := fun h j hj' hji => by
         by_cases hjk : j = k3
         ·subst hjk; exact h
         ·exact hall3 j hj' (by omega)
        generalize p.holds[k3] = x at *
        have hok3 : holdOk y.procs.length x = !(!keyed x.2.1 y.procs.length || !within x.1 0 ((y.procs.length : Int) - 1)) := by
         unfold holdOk
         rw [Bool.not_or, Bool.not_not, Bool.not_not, Bool.and_comm]
        refine cK (xT (cS (cB (cS (cR (sV (vF rfl fa77_5 rfl) (sV (vY rfl ld75) ?_)))))))
        refine sV (vM rfl) (sV (vI (k := k3) (congrArg some hcv) rfl sl75 rfl hkt3 rfl) (sV (vF rfl fa161_1 rfl) (sV (v_ldn (vs := kC x.2.1) rfl ld79 rfl (rds_sub hcrd rfl)) ?_)))
        refine sV (vM rfl) (st_clr rfl rfl en145 rfl (rkeyed_ct x.2.1 y.procs.length ⟨by omega, by omega⟩) ?_)
        refine sV (vA rfl) (sN (nK [3, 5, 7, 13, 14] rfl (nT (cS (cR (sV (vM rfl) (sV (v_not rfl) (sV (vM rfl) (st_cut (k := 14) (d := 207) (v := .bool (!keyed x.2.1 y.procs.length || !within x.1 0 ((y.procs.length : Int) - 1))) (fun hcut => bool_want (b := !keyed x.2.1 y.procs.length) false (fun hg => ?_) (fun hg => ?_)) ?_)))))))))
        ·refine st_sk rfl rfl hg ?_
         iterate 9 refine st_sk rfl rfl hg ?_
         refine sV (vQ (bE rfl hg) rfl) ?_
         exact hcut _ (uH (by first | rfl | (rw [hg]; rfl) | simp_all) (uS rfl (uS rfl (uS rfl (uS rfl (uS rfl (uS rfl (uS rfl (uS rfl (uS rfl (uS rfl (uR))))))))))))
        ·skip
         refine sG rfl (bG rfl hg) (vF rfl fa77_5 rfl) (sG rfl (bG rfl hg) (vY rfl ld75) ?_)
         refine sG rfl (bG rfl hg) (vM rfl) (sG rfl (bG rfl hg) (vI (k := k3) (congrArg some hcv) rfl sl75 rfl hkt3 rfl) (sG rfl (bG rfl hg) (vF rfl fa161_0 rfl) (sG rfl (bG rfl hg) (vY rfl ld3) ?_)))
         refine sG rfl (bG rfl hg) (vM rfl) (sG rfl (bG rfl hg) (v_sub rfl rfl (by unfold I64 at *; omega)) (st_clrg rfl (bG rfl hg) rfl rfl en89 rfl (in_ct x.1 0 ((y.procs.length : Int) - 1)) ?_))
         refine sG rfl (bG rfl hg) (v_not rfl) (sV (vP (bE rfl hg) rfl) ?_)
         exact hcut _ (uH (by first | rfl | (rw [hg]; rfl) | simp_all) (uS rfl (uS rfl (uS rfl (uS rfl (uS rfl (uS rfl (uS rfl (uS rfl (uS rfl (uS rfl (uR))))))))))))
        refine sN (nK [3, 5, 7, 13, 207] rfl (nT (cC rfl (fun hx => ?_) (fun hx => ?_))))
        ·skip
         obtain rfl := hbad3 (by rw [hok3, hx]; rfl)
         refine cS (cR (sV (vA rfl) (sN (nK [6] rfl (nT (cT (xW (xR (xR (xW (xR ?_)))))))))))
         exact xt_rt rfl ⟨rfl, rfl⟩ sbq
        ·skip
         refine cK (xB (xT (cR (sV (vM rfl) (sV (v_add rfl rfl (by unfold I64 at *; omega)) (sV (vA rfl) (sN (nK [3, 5, 7, 13] rfl (nx_xt ?_)))))))))
         refine xt_aq (k3 + 1) ⟨hkt3, hgood3 (by rw [hok3, hx]; rfl)⟩ (by show _ - _ < _ - _; omega)
       ·skip
        have hkl3 : k3 = p.holds.length := by
         have : ¬ k3 < p.holds.length := by simpa using hd4
         omega
        rw [all_good (g := fun h => holdOk y.procs.length h) (fun j hj' => hall3 j hj' (by omega))] at hr0
        refine cd_exit (xE (xE (xY (xT (cS (cS (cR (sV (vA rfl) (sN (nK [3, 5, 7, 15] rfl (nT (cB (cd_lq (σ := Nat) (fun k => [(3, .pointer (some ⟨b3, 0, none⟩)), (5, .pointer (some ⟨b5, 0, none⟩)), (7, .int .i64 y.procs.length), (15, .int .i64 (k : Nat))]) (fun _ => pt b5 (cl [.slice aj y.jobs.length cj, .slice ap y.procs.length cp] 27) :: pt b3 (cl (pC (.slice al p.lines.length cl') (.slice ap' p.puts.length cp') (.slice ah p.holds.length ch') (.slice ad p.did.length cd') p) 77) :: S :: hr) (fun k => k ≤ p.did.length ∧ ∀ (j : Nat) (hj : j < p.did.length), j < k → didOk y.procs.length y.jobs.length p.did[j] = true) (fun k => p.did.length - k) 0 ⟨Nat.zero_le _, fun j _ hj => by omega⟩ ?_)))))))))))))
        rintro k4 ⟨hk4, hall4⟩
        refine cS (cS (cR (sV (vM rfl) (sV (vF rfl fa77_8 rfl) (sV (vY rfl ld62) ?_)))))
        refine sV (v_len rfl Tryz.underlying62) (sV (v_lss rfl rfl) (sN (nK [3, 5, 7, 15, 212] rfl (nT (cC rfl (fun hd5 => ?_) (fun hd5 => ?_))))))
        ·skip
         have hkt4 : k4 < p.did.length := by simpa using hd5
         obtain ⟨c1, c2, c3, cus, hcv, hcus, hcrd, rfl⟩ := hD.at (List.getElem?_eq_getElem hkt4)
         have hbad4 : didOk y.procs.length y.jobs.length p.did[k4] = false → r0 = false := fun h => by
          rw [← hr0, all_bad (g := fun d => didOk y.procs.length y.jobs.length d) hkt4 h]; simp
         have hgood4 : didOk y.procs.length y.jobs.length p.did[k4] = true → ∀ (j : Nat) (hj : j < p.did.length), j < k4 + 1 → didOk y.procs.length y.jobs.length p.did[j] = true := fun h j hj' hji => by
          by_cases hjk : j = k4
          ·subst hjk; exact h
          ·exact hall4 j hj' (by omega)
         generalize p.did[k4] = x at *
         have hok4 : didOk y.procs.length y.jobs.length x = !(!keyed x.1 y.procs.length || !within x.2.1 0 ((y.jobs.length : Int) - 1)) := by
          unfold didOk
          rw [Bool.not_or, Bool.not_not, Bool.not_not]
         refine cK (xT (cS (cB (cS (cR (sV (vF rfl fa77_8 rfl) (sV (vY rfl ld62) ?_)))))))
         refine sV (vM rfl) (sV (vI (k := k4) (congrArg some hcv) rfl sl62 rfl hkt4 rfl) (sV (vF rfl fa81_0 rfl) (sV (v_ldn (vs := kC x.1) rfl ld79 rfl (rds_sub hcrd rfl)) ?_)))
         refine sV (vM rfl) (st_clr rfl rfl en145 rfl (rkeyed_ct x.1 y.procs.length ⟨by omega, by omega⟩) ?_)
         refine sV (vA rfl) (sN (nK [3, 5, 7, 15, 16] rfl (nT (cS (cd_drawh (ork [(0, 2), (1, 2), (2, 2), (3, 2), (4, 1), (5, 2), (6, 2), (7, 2), (8, 1), (9, 2), (10, 1), (11, 2), (12, 2), (13, 1), (14, 2), (15, 2)] .nil) (fun _ => true) mixed (by kernel_rfl) ?_)))))
         refine dV rfl (vM rfl) (dV rfl (v_not rfl) (dV rfl (vM rfl) (dr_cut (k := 13) (d := 238) (v := .bool (!keyed x.1 y.procs.length || !within x.2.1 0 ((y.jobs.length : Int) - 1))) (fun hcut => bool_want (b := !keyed x.1 y.procs.length) false (fun hg => ?_) (fun hg => ?_)) ?_)))
         ·refine dp_sk rfl rfl rfl hg ?_
          refine dr_sk rfl rfl rfl hg ?_
          iterate 3 refine dp_sk rfl rfl rfl hg ?_
          refine dr_sk rfl rfl rfl hg ?_
          refine dp_sk rfl rfl rfl hg ?_
          refine dr_sk rfl rfl rfl hg ?_
          iterate 2 refine dp_sk rfl rfl rfl hg ?_
          refine dr_sk rfl rfl rfl hg ?_
          refine dp_sk rfl rfl rfl hg ?_
          refine dV rfl (vQ (bE rfl hg) rfl) ?_
          exact hcut _ (uH (by first | rfl | (rw [hg]; rfl) | simp_all) (uS rfl (uS rfl (uS rfl (uS rfl (uS rfl (uS rfl (uS rfl (uS rfl (uS rfl (uS rfl (uS rfl (uS rfl (uR))))))))))))))
         ·skip
          refine dp_vg rfl rfl (bG rfl hg) (vF rfl fa77_8 rfl) (dr_vg rfl rfl (bG rfl hg) (vY rfl ld62) ?_)
          refine dp_vg rfl rfl (bG rfl hg) (vM rfl) (dp_vg rfl rfl (bG rfl hg) (vI (k := k4) (congrArg some hcv) rfl sl62 rfl hkt4 rfl) (dp_vg rfl rfl (bG rfl hg) (vF rfl fa81_1 rfl) (dr_vg rfl rfl (bG rfl hg) (vY rfl ld3) ?_)))
          refine dp_vg rfl rfl (bG rfl hg) (vF rfl fa27_0 rfl) (dr_vg rfl rfl (bG rfl hg) (vY rfl ld22) ?_)
          refine dp_vg rfl rfl (bG rfl hg) (v_len rfl Tryz.underlying22) (dp_vg rfl rfl (bG rfl hg) (v_sub rfl rfl (by unfold I64 at *; omega)) (dr_clrg rfl rfl (bG rfl hg) rfl rfl en89 rfl (in_ct x.2.1 0 ((y.jobs.length : Int) - 1)) ?_))
          refine dp_vg rfl rfl (bG rfl hg) (v_not rfl) (dV rfl (vP (bE rfl hg) rfl) ?_)
          exact hcut _ (uH (by first | rfl | (rw [hg]; rfl) | simp_all) (uS rfl (uS rfl (uS rfl (uS rfl (uS rfl (uS rfl (uS rfl (uS rfl (uS rfl (uS rfl (uS rfl (uS rfl (uR))))))))))))))
         refine dr_nil (nK [3, 5, 7, 15, 238] rfl (nT (cC rfl (fun hx => ?_) (fun hx => ?_))))
         ·skip
          obtain rfl := hbad4 (by rw [hok4, hx]; rfl)
          refine cS (cR (sV (vA rfl) (sN (nK [6] rfl (nT (cT (xW (xR (xR (xW (xR ?_)))))))))))
          exact xt_rt rfl ⟨rfl, rfl⟩ sbq
         ·skip
          refine cK (xB (xT (cR (sV (vM rfl) (sV (v_add rfl rfl (by unfold I64 at *; omega)) (sV (vA rfl) (sN (nK [3, 5, 7, 15] rfl (nx_xt ?_)))))))))
          refine xt_aq (k4 + 1) ⟨hkt4, hgood4 (by rw [hok4, hx]; rfl)⟩ (by show _ - _ < _ - _; omega)
        ·skip
         have hkl4 : k4 = p.did.length := by
          have : ¬ k4 < p.did.length := by simpa using hd5
          omega
         rw [all_good (g := fun d => didOk y.procs.length y.jobs.length d) (fun j hj' => hall4 j hj' (by omega))] at hr0
         have hr1 : r0 = true := by rw [← hr0]; rfl
         subst hr1
         refine cd_exit (xE (xE (xY (xT (cS (cR (sV (vA rfl) (sN (nK [6] rfl (nT (cT ?_)))))))))))
         exact xt_rt rfl ⟨rfl, rfl⟩ sbq
end
end Go.Wt
namespace Go.Wt
open Go Go.Ck Go.Proofs Go.Proofs.YtboepbencndobaaGreat Fx
attribute [local irreducible] Go.Ck.Sub St Cd Xt Nx DrL LsW
section
variable {S : Res}
set_option maxRecDepth 100000 in
theorem rRight_ct {ys : List Value} {y : Yard} (hy : yardR S ys y) (hf : Fit y) : Reads Tryz.prog 73 #[.agg ys.toArray] [S] (.int .i64 (if y.right = true then 0 else 2)) := by
 obtain ⟨jv, pv, rfl, hj, hp⟩ := id hy
 obtain ⟨hfj, hfp, hfpp⟩ := hf
 have hnj := hfj.1
 obtain ⟨aj, cj, rfl, _⟩ := id hj
 obtain ⟨ap, cp, rfl, _⟩ := id hp
 generalize hr0 : (if y.right = true then (0 : Int) else 2) = r0
 have hb0 : y.right = false → r0 = 2 := fun h => by rw [← hr0, if_neg (by rw [h]; decide)]
 unfold Yard.right at hb0 hr0
 refine ct_of (n := 29) Tryz.func73 rfl rfl (len rfl) fun hr w0 => ?_
 refine cS (cR (st_bx rfl rfl fun b1 => ?_))
 refine sV (vA rfl) (sN (nK [1, 2] rfl (nT (cS (cS (cR (sV (vF rfl fa27_0 rfl) (sV (vY rfl ld22) ?_))))))))
 refine sV (vF rfl fa27_1 rfl) (sV (vY rfl ld25) ?_)
 refine sV (v_len rfl Tryz.underlying25) (st_clr rfl rfl en18 rfl (rcheck_ct hj hfj (by unfold I64; omega)) ?_)
 refine sV (v_neq rfl rfl) (sN (nK [1, 2, 11] rfl (nT (cC rfl (fun hc => ?_) (fun hc => ?_)))))
 ·skip
  have hc' : decide (check y.jobs y.procs.length = 0) = false := by simpa using hc
  obtain rfl := hb0 (by rw [hc']; rfl)
  refine cS (cR (sV (vA rfl) (sN (nK [2] rfl (nT (cT (xR ?_)))))))
  exact xt_rt rfl ⟨rfl, rfl⟩ sbq
 ·skip
  have hc' : check y.jobs y.procs.length = 0 := by simpa using hc
  rw [show decide (check y.jobs y.procs.length = 0) = true by simp [hc'], Bool.true_and] at hb0 hr0
  refine cK (xT (cS (cS (cR (sV (vA rfl) (sN (nK [1, 2, 3] rfl (nT (cB (cd_lq (σ := Nat) (fun i => [(1, .pointer (some ⟨b1, 0, none⟩)), (3, .int .i64 (i : Nat))]) (fun _ => pt b1 (cl [.slice aj y.jobs.length cj, .slice ap y.procs.length cp] 27) :: S :: hr) (fun i => i ≤ y.procs.length ∧ ∀ k, k < i → (y.pr k).right k y = true) (fun i => y.procs.length - i) 0 ⟨Nat.zero_le _, fun j hj => by omega⟩ ?_))))))))))
  rintro i ⟨hi, hall⟩
  refine cS (cS (cR (sV (vM rfl) (sV (vF rfl fa27_1 rfl) (sV (vY rfl ld25) ?_)))))
  refine sV (v_len rfl Tryz.underlying25) (sV (v_lss rfl rfl) (sN (nK [1, 3, 16] rfl (nT (cC rfl (fun hd => ?_) (fun hd => ?_))))))
  ·skip
   have hlt : i < y.procs.length := by simpa using hd
   obtain ⟨b, off, cp2, us, hv2, hus, hrd, hX⟩ := hp.at (List.getElem?_eq_getElem hlt)
   refine cK (xT (cS (cB (cS (cd_drawh (ork [(0, 2), (1, 1), (2, 2), (3, 2), (4, 1), (5, 2), (6, 1), (7, 1), (8, 2)] .nil) (fun _ => true) mixed (by kernel_rfl) ?_)))))
   refine dV rfl (vF rfl fa27_1 rfl) (dr_v rfl (vY rfl ld25) ?_)
   refine dV rfl (vM rfl) (dV rfl (vI (k := i) (congrArg some hv2) rfl sl25 rfl hlt rfl) (dr_v rfl (v_ldn rfl ld77 hus hrd) ?_))
   refine dV rfl (vM rfl) (dr_v rfl (v_ldn rfl ld27 rfl rds_pt) ?_)
   refine dr_clr rfl rfl rfl en113 rfl (rright_ct hX hy (hfpp _ (List.getElem_mem hlt)) hnj hfp) ?_
   refine dV rfl (vA rfl) (dr_nil (nK [1, 3, 4] rfl (nT (cS (cR (sV (vM rfl) (sV (v_not rfl) (sN (nK [1, 3, 28] rfl (nT (cC rfl (fun hq => ?_) (fun hq => ?_))))))))))))
   ·skip
    obtain rfl := hb0 (right_bad hlt (by simpa using hq))
    refine cS (cR (sV (vA rfl) (sN (nK [2] rfl (nT (cT (xW (xR (xR (xW (xR ?_)))))))))))
    exact xt_rt rfl ⟨rfl, rfl⟩ sbq
   ·skip
    refine cK (xB (xT (cR (sV (vM rfl) (sV (v_add rfl rfl (by unfold I64 at *; omega)) (sV (vA rfl) (sN (nK [1, 3] rfl (nx_xt (xt_aq (i + 1) ⟨hlt, fun k hk => ?_⟩ (by show _ - _ < _ - _; omega)))))))))))
    by_cases hki : k = i
    ·subst hki; rw [pr_get hlt]; simpa using hq
    ·exact hall k (by omega)
  ·skip
   have hin : i = y.procs.length := by
    have : ¬ i < y.procs.length := by simpa using hd
    omega
   rw [if_pos (List.all_eq_true.2 fun k hk => hall k (by rw [hin]; simpa using hk))] at hr0
   subst hr0
   refine cd_exit (xE (xE (xY (xT (cS (cR (sV (vA rfl) (sN (nK [2] rfl (nT (cT ?_)))))))))))
   exact xt_rt rfl ⟨rfl, rfl⟩ sbq
set_option maxRecDepth 100000 in
theorem rstate_ct {jv pv : Value} {procs : List Proc} {i : Nat} (hp : Row S 9 (procR S) pv procs) (hi : i < procs.length) (hw : (procs[i]).job < 0 → (procs[i]).waits < 0) (hj1 : jv.oneCell' = true) : Reads Tryz.prog 70 #[.agg #[jv, pv], .int .i64 i] [S] (.int .i64 (procs[i]).state) := by
 obtain ⟨b, off, cp2, us, rfl, hus, hrd, lv, pv', hv, dv, rfl, hL, hP, hH, hD⟩ := hp.at (List.getElem?_eq_getElem hi)
 obtain ⟨al, cl', rfl, _⟩ := id hL
 obtain ⟨ap', cp', rfl, _⟩ := id hP
 obtain ⟨ah, ch', rfl, _⟩ := id hH
 obtain ⟨ad, cd', rfl, _⟩ := id hD
 generalize hpe : procs[i] = p at *
 generalize hst : p.state = st
 unfold Proc.state at hst
 refine ct_of (n := 35) Tryz.func70 rfl rfl (len rfl) fun hr w0 => ?_
 refine cS (cR (st_bx rfl rfl fun b2 => ?_))
 refine sV (vA rfl) (sN (nK [1, 2, 4] rfl (nT (cS (cR (sV (vF rfl fa27_1 rfl) (sV (vY rfl ld25) ?_)))))))
 refine sV (vM rfl) (sV (vI (k := i) rfl rfl sl25 rfl hi rfl) (sV (v_ldn rfl ld77 hus hrd) ?_))
 refine st_alc al77 fun b5 => ?_
 refine st_stoW rfl rfl sz77 rfl rfl ?_
 refine sN (nK [4, 5] rfl (nT (cS (cS (cR (sV (vF rfl fa77_6 rfl) (sV (vY rfl ld3) ?_)))))))
 refine sV (v_geq rfl rfl) (sN (nK [4, 5, 13] rfl (nT (cC rfl (fun h1 => ?_) (fun h1 => ?_)))))
 ·skip
  refine cS (cR (sV (vA rfl) (sN (nK [4] rfl (nT (cT (xR ?_)))))))
  have hj0 : 0 ≤ p.job := by
   have h1' := of_decide_eq_true h1
   rcases Int.lt_or_le p.job 0 with h | h
   ·have := hw h; omega
   ·exact h
  rw [if_pos ⟨hj0, of_decide_eq_true h1⟩] at hst
  subst hst
  exact xt_rt rfl ⟨rfl, rfl⟩ sbq
 ·skip
  have h1' : ¬(0 ≤ p.job ∧ 0 ≤ p.waits) := fun h => by rw [decide_eq_true h.2] at h1; cases h1
  rw [if_neg h1'] at hst
  refine cK (xT (cS (cS (cR (sV (vF rfl fa77_2 rfl) (sV (vY rfl ld3) ?_))))))
  refine sV (v_geq rfl rfl) (sN (nK [4, 5, 16] rfl (nT (cC rfl (fun h2 => ?_) (fun h2 => ?_)))))
  ·skip
   refine cS (cR (sV (vA rfl) (sN (nK [4] rfl (nT (cT (xR ?_)))))))
   rw [if_pos (by simpa using h2)] at hst
   subst hst
   exact xt_rt rfl ⟨rfl, rfl⟩ sbq
  ·skip
   rw [if_neg (by simpa using h2)] at hst
   refine cK (xT (cS (cS (cR (sV (vF rfl fa77_0 rfl) (sV (vY rfl ld73) ?_))))))
   refine sV (v_len rfl Tryz.underlying73) (sV (v_eql rfl rfl) (sN (nK [4, 5, 20] rfl (nT ?_))))
   obtain ⟨lines, puts, job, pc, waited, holds, waits, made, did⟩ := p
   simp only at *
   cases lines with
   | nil =>
    refine cC rfl (fun h3 => ?_) (fun h3 => ?_)
    ·skip
     refine cS (cR (sV (vA rfl) (sN (nK [4] rfl (nT (cT (xR ?_)))))))
     obtain rfl : 5 = st := hst
     exact xt_rt rfl ⟨rfl, rfl⟩ sbq
    ·skip
     exact absurd h3 (by decide)
   | cons l ls =>
    obtain ⟨b2, o2, cp3, us2, hv2, hus2, hrd2, av, rfl, hA⟩ := hL.at (show (l :: ls)[0]? = some l from rfl)
    obtain ⟨aa, ca, rfl, _⟩ := id hA
    cases hv2
    refine cC rfl (fun h3 => ?_) (fun h3 => ?_)
    ·skip
     exact absurd h3 (by simp; omega)
    ·skip
     refine cK (xT (cS (cS (cR (sV (vF rfl fa77_0 rfl) (sV (vY rfl ld73) ?_))))))
     refine sV (vI (k := 0) rfl rfl sl73 rfl (by simp) rfl) ?_
     refine sV (vF rfl fa120_1 rfl) (sV (vY rfl ld118) ?_)
     refine sV (v_len rfl Tryz.underlying118) (sV (v_gtr rfl rfl) (sV (vM rfl) (st_cut (k := 14) (d := 34) (v := .bool (decide (0 < (l.asks.length : Int)) || l.closed)) (fun hcut => bool_want (b := decide (0 < (l.asks.length : Int))) false (fun hg => ?_) (fun hg => ?_)) ?_)))
     ·refine st_sk rfl rfl hg ?_
      iterate 4 refine st_sk rfl rfl hg ?_
      refine sV (vQ (bE rfl hg) rfl) ?_
      exact hcut _ (uH (by first | rfl | (rw [hg]; rfl) | simp_all) (uS rfl (uS rfl (uS rfl (uS rfl (uS rfl (uR)))))))
     ·skip
      refine sG rfl (bG rfl hg) (vF rfl fa77_0 rfl) (sG rfl (bG rfl hg) (vY rfl ld73) ?_)
      refine sG rfl (bG rfl hg) (vI (k := 0) rfl rfl sl73 rfl (by simp) rfl) ?_
      refine sG rfl (bG rfl hg) (vF rfl fa120_2 rfl) (sG rfl (bG rfl hg) (vY rfl ld4) ?_)
      refine sV (vP (bE rfl hg) rfl) ?_
      exact hcut _ (uH (by first | rfl | (rw [hg]; rfl) | simp_all) (uS rfl (uS rfl (uS rfl (uS rfl (uS rfl (uR)))))))
     refine sN (nK [4, 34] rfl (nT ?_))
     have hcl : (l.asks ≠ [] ∨ l.closed = true) ↔ (decide (0 < (l.asks.length : Int)) || l.closed) = true := by
      cases l.asks <;> simp
     refine cC rfl (fun h4 => ?_) (fun h4 => ?_)
     ·skip
      refine cS (cR (sV (vA rfl) (sN (nK [4] rfl (nT (cT (xR ?_)))))))
      obtain rfl : 2 = st := by rw [← hst]; exact (if_pos (hcl.2 h4)).symm
      exact xt_rt rfl ⟨rfl, rfl⟩ sbq
     ·skip
      obtain rfl : 4 = st := by rw [← hst]; exact (if_neg (fun h => by rw [hcl.1 h] at h4; cases h4)).symm
      refine cK (xT (cS (cR (sV (vA rfl) (sN (nK [4] rfl (nT (cT ?_))))))))
      exact xt_rt rfl ⟨rfl, rfl⟩ sbq
theorem right_waits {y : Yard} (h : y.right = true) {i : Nat} (hi : i < y.procs.length) : (y.procs[i]).job < 0 → (y.procs[i]).waits < 0 := fun hj => by
 have hr := right_pr h hi
 rw [right_g] at hr
 simp only [Bool.and_eq_true, Bool.not_eq_true'] at hr
 have h2 := hr.1.1.2
 unfold Proc.g2 at h2
 simp only [Bool.or_eq_false_iff, Bool.and_eq_false_iff, decide_eq_false_iff_not] at h2
 omega
end
end Go.Wt
namespace Go.Wt
open Go Go.Ck Go.Proofs Go.Proofs.YtboepbencndobaaGreat Fx
attribute [local irreducible] Go.Ck.Sub St Cd Xt Nx DrL LsW
section
variable {S : Res}
set_option maxRecDepth 100000 in
theorem rready_ct {jv pv : Value} {procs : List Proc} (hp : Row S 9 (procR S) pv procs) (hl : procs.length ≤ 1000000) (hw : ∀ (i : Nat) (hi : i < procs.length), (procs[i]).job < 0 → (procs[i]).waits < 0) (hj1 : jv.oneCell' = true) :
  CtN Tryz.prog 74 #[.agg #[jv, pv]] [S] fun u T => T = VR u 3 1 ((rdy procs procs.length).map iC) ∧ u.oneCell' = true := by
 obtain ⟨ap, cp, rfl, _⟩ := id hp
 refine ct_of (n := 27) Tryz.func74 rfl rfl (len rfl) fun hr w0 => ?_
 refine cS (cR (st_bx rfl rfl fun b1 => ?_))
 refine sV (vA rfl) (sN (nK [1, 2] rfl (nT (cS (cR (sV (vA rfl) (sN (nT (cS (cS (cR (sV (vA rfl) (sN (nT (cB (cd_vw (vw_nil 3 1) (cd_lq (σ := Nat × Value) (fun s => [(1, .pointer (some ⟨b1, 0, none⟩)), (3, s.2), (4, .int .i64 (s.1 : Nat))]) (fun s => VR s.2 3 1 ((rdy procs s.1).map iC) :: pt b1 (cl [jv, .slice ap procs.length cp] 27) :: S :: hr) (fun s => s.1 ≤ procs.length ∧ s.2.oneCell' = true) (fun s => procs.length - s.1) (0, .slice none 0 0) ⟨Nat.zero_le _, rfl⟩ ?_)))))))))))))))))
 rintro ⟨k, v⟩ ⟨hk, h1⟩
 simp only at hk h1
 refine cS (cS (cR (sV (vM rfl) (sV (vF rfl fa27_1 rfl) (sV (vY rfl ld25) ?_)))))
 refine sV (v_len rfl Tryz.underlying25) (sV (v_lss rfl rfl) (sN (nK [1, 3, 4, 10] rfl (nT (cC rfl (fun hd => ?_) (fun hd => ?_))))))
 ·skip
  have hlt : k < procs.length := by simpa using hd
  have hlen := rdy_len procs k
  refine cK (xT (cS (cB (cS (cR (sV (v_ldn rfl ld27 rfl rds_pt) ?_))))))
  refine sV (vM rfl) (st_clr rfl rfl en70 rfl (rstate_ct hp hlt (hw k hlt) hj1) ?_)
  refine sV (vA rfl) (sN (nK [1, 3, 4, 5] rfl (nT (cS (cR (sV (vM rfl) (sV (v_eql rfl rfl) (sV (vM rfl) (st_cut (k := 6) (d := 21) (v := .bool ((procs[k]).state == 1 || (procs[k]).state == 2)) (fun hcut => bool_want (b := ((procs[k]).state == 1)) false (fun hg => ?_) (fun hg => ?_)) ?_)))))))))
  ·refine st_sk rfl rfl hg ?_
   refine st_sk rfl rfl hg ?_
   refine sV (vQ (bE rfl hg) rfl) ?_
   exact hcut _ (uH (by first | rfl | (rw [hg]; rfl) | simp_all) (uS rfl (uS rfl (uR))))
  ·skip
   refine sG rfl (bG rfl hg) (vM rfl) (sG rfl (bG rfl hg) (v_eql rfl rfl) (sV (vP (bE rfl hg) rfl) ?_))
   exact hcut _ (uH (by first | rfl | (rw [hg]; rfl) | simp_all) (uS rfl (uS rfl (uR))))
  refine sN (nK [1, 3, 4, 21] rfl (nT (cC rfl (fun hq => ?_) (fun hq => ?_))))
  ·skip
   have hg : (procs[k]).goes = true := hq
   refine cR (sV (vM rfl) (sV (vM rfl) (st_buildSlice (cells := [.int .i64 k]) rfl Tryz.underlying43 inf3 rfl rfl (by kernel_rfl) (ltn rfl) fun b24 => ?_)))
   refine st_app [[.int .i64 k]] rfl rfl Tryz.underlying43 inf3 rfl (by decide) slq (by simp) rfl (fun j u2 hu2 => at_here (rd_cl (by simpa using hu2))) (by simp [Value.oneCell']) (by simp; omega) (by simp; omega) (ltn rfl) fun v' hv' _ => ?_
   refine sV (vA rfl) (sN (nK [1, 3, 4] rfl (nx_xt (xB (xT (cR (sV (vM rfl) (sV (v_add rfl rfl (by unfold I64 at *; omega)) (sV (vA rfl) (sN (nK [1, 3, 4] rfl (nx_xt ?_))))))))))))
   rw [show (rdy procs k).map iC ++ [[.int .i64 (k : Int)]] = (rdy procs (k + 1)).map iC by rw [rdy_yes hlt hg]; simp [iC]]
   refine xt_aq (k + 1, v') ⟨hlt, hv'⟩ (by show _ - _ < _ - _; omega)
  ·skip
   have hg : (procs[k]).goes = false := hq
   refine cK (xB (xT (cR (sV (vM rfl) (sV (v_add rfl rfl (by unfold I64 at *; omega)) (sV (vA rfl) (sN (nK [1, 3, 4] rfl (nx_xt ?_)))))))))
   rw [← rdy_no hlt hg]
   refine xt_aq (k + 1, v) ⟨hlt, h1⟩ (by show _ - _ < _ - _; omega)
 ·skip
  have hkl : k = procs.length := by
   have : ¬ k < procs.length := by simpa using hd
   omega
  subst hkl
  refine cd_exit (xE (xE (xY (xT (cS (cR (sV (vM rfl) (sV (vA rfl) (sN (nK [2] rfl (nT (cT ?_))))))))))))
  exact xt_rt rfl ⟨_, rfl, rfl, h1⟩ sbq
end
end Go.Wt
namespace Go.Wt
open Go Go.Ck Go.Proofs Go.Proofs.YtboepbencndobaaGreat Fx
attribute [local irreducible] Go.Ck.Sub St Cd Xt Nx DrL LsW
def smallG (p : Proc) : Bool := decide (30 < (p.lines.length : Int)) || decide (30 < (p.holds.length : Int)) || (decide (30 < (p.puts.length : Int)) && decide ((p.puts.length : Int) ≤ 400)) || (decide (30 < (p.did.length : Int)) && decide ((p.did.length : Int) ≤ 400)) || decide (410 < (p.puts.length : Int)) || decide (410 < (p.did.length : Int))
def smallP (p : Proc) : Bool := !smallG p && p.lines.all fun l => decide ((l.asks.length : Int) ≤ 30)
def smallE (y : Yard) : Bool := fewE y.jobs && decide ((y.procs.length : Int) ≤ 12) && y.procs.all smallP
theorem small_fit {y : Yard} (h : smallE y = true) : Fit y := by
 unfold smallE at h
 simp only [Bool.and_eq_true, decide_eq_true_eq] at h
 obtain ⟨⟨h1, h2⟩, h3⟩ := h
 refine ⟨few_Fits h1, by omega, fun p hp => ?_⟩
 have h4 := List.all_eq_true.1 h3 p hp
 unfold smallP smallG at h4
 simp only [Bool.and_eq_true, Bool.not_eq_true', Bool.or_eq_false_iff, Bool.and_eq_false_iff, decide_eq_false_iff_not] at h4
 obtain ⟨⟨⟨⟨⟨⟨g1, g2⟩, g3⟩, g4⟩, g5⟩, g6⟩, g7⟩ := h4
 refine ⟨by omega, by omega, by omega, by omega, fun l hl => ?_⟩
 have := List.all_eq_true.1 g7 l hl
 simp only [decide_eq_true_eq] at this
 omega
theorem rd_tail {T0 : Res} {L : SH} : ∀ p u, Rd (Res.star L) p u → Rd (Res.star (T0 :: L)) p u := fun _ _ h w hw => h w hw.2.2
section
variable {S : Res}
set_option maxHeartbeats 1000000 in
set_option maxRecDepth 100000 in
theorem small_ct {ys : List Value} {y : Yard} (hy : yardR S ys y) : Reads Tryz.prog 19 #[.agg ys.toArray] [S] (.bool (smallE y)) := by
 obtain ⟨jv, pv, rfl, hj, hp⟩ := id hy
 obtain ⟨aj, cj, rfl, _⟩ := id hj
 obtain ⟨ap, cp, rfl, _⟩ := id hp
 have hpl := hp.lenle
 unfold maxLen at hpl
 generalize hr0 : smallE y = r0
 unfold smallE at hr0
 refine ct_of (n := 89) Tryz.func19 rfl rfl (len rfl) fun hr w0 => ?_
 refine cS (cR (st_bx rfl rfl fun b1 => ?_))
 refine sV (vA rfl) (sN (nK [1, 2] rfl (nT (cS (cS (cR (sV (vF rfl fa27_0 rfl) (sV (vY rfl ld22) ?_))))))))
 refine st_clr rfl rfl en12 rfl (few_ct hj) ?_
 refine sV (v_not rfl) (sV (vM rfl) (st_cut (k := 10) (d := 15) (v := .bool (!fewE y.jobs || decide (12 < (y.procs.length : Int)))) (fun hcut => bool_want (b := !fewE y.jobs) false (fun hg => ?_) (fun hg => ?_)) ?_))
 ·refine st_sk rfl rfl hg ?_
  iterate 3 refine st_sk rfl rfl hg ?_
  refine sV (vQ (bE rfl hg) rfl) ?_
  exact hcut _ (uH (by first | rfl | (rw [hg]; rfl) | simp_all) (uS rfl (uS rfl (uS rfl (uS rfl (uR))))))
 ·skip
  refine sG rfl (bG rfl hg) (vF rfl fa27_1 rfl) (sG rfl (bG rfl hg) (vY rfl ld25) ?_)
  refine sG rfl (bG rfl hg) (v_len rfl Tryz.underlying25) (sG rfl (bG rfl hg) (v_gtr rfl rfl) (sV (vP (bE rfl hg) rfl) ?_))
  exact hcut _ (uH (by first | rfl | (rw [hg]; rfl) | simp_all) (uS rfl (uS rfl (uS rfl (uS rfl (uR))))))
 refine sN (nK [1, 2, 15] rfl (nT (cC rfl (fun h0 => ?_) (fun h0 => ?_))))
 ·skip
  have hr : r0 = false := by
   rw [← hr0, Bool.and_eq_false_iff, Bool.and_eq_false_iff, decide_eq_false_iff_not]
   simp only [Bool.or_eq_true, Bool.not_eq_true', decide_eq_true_eq] at h0
   rcases h0 with h | h
   ·exact .inl (.inl h)
   ·exact .inl (.inr (by omega))
  subst hr
  refine cS (cR (sV (vA rfl) (sN (nK [2] rfl (nT (cT (xR ?_)))))))
  exact xt_rt rfl ⟨rfl, rfl⟩ sbq
 ·skip
  simp only [Bool.or_eq_false_iff, Bool.not_eq_false', decide_eq_false_iff_not] at h0
  rw [h0.1, decide_eq_true (show (y.procs.length : Int) ≤ 12 by omega), Bool.true_and, Bool.true_and] at hr0
  refine cK (xT (cS (cS (cR (sV (vA rfl) (sN (nK [1, 2, 3] rfl (nT (cB (cd_lq (σ := Nat) (fun i => [(1, .pointer (some ⟨b1, 0, none⟩)), (3, .int .i64 (i : Nat))]) (fun _ => pt b1 (cl [.slice aj y.jobs.length cj, .slice ap y.procs.length cp] 27) :: S :: hr) (fun i => i ≤ y.procs.length ∧ ∀ (j : Nat) (hj : j < y.procs.length), j < i → smallP y.procs[j] = true) (fun i => y.procs.length - i) 0 ⟨Nat.zero_le _, fun j _ hj => by omega⟩ ?_))))))))))
  rintro i ⟨hi, hall⟩
  refine cS (cS (cR (sV (vM rfl) (sV (vF rfl fa27_1 rfl) (sV (vY rfl ld25) ?_)))))
  refine sV (v_len rfl Tryz.underlying25) (sV (v_lss rfl rfl) (sN (nK [1, 3, 20] rfl (nT (cC rfl (fun hd => ?_) (fun hd => ?_))))))
  ·skip
   have hlt : i < y.procs.length := by simpa using hd
   obtain ⟨b, off, cp2, us, hv2, hus, hrd, lv, pv', hv, dv, rfl, hL, hP, hH, hD⟩ := hp.at (List.getElem?_eq_getElem hlt)
   obtain ⟨al, cl', rfl, _⟩ := id hL
   obtain ⟨ap', cp', rfl, _⟩ := id hP
   obtain ⟨ah, ch', rfl, _⟩ := id hH
   obtain ⟨ad, cd', rfl, _⟩ := id hD
   have hll := hL.lenle
   unfold maxLen at hll
   have hbad : smallP y.procs[i] = false → r0 = false := fun h => by rw [← hr0, all_bad (g := smallP) hlt h]
   have hgood : smallP y.procs[i] = true → ∀ (j : Nat) (hj : j < y.procs.length), j < i + 1 → smallP y.procs[j] = true := fun h j hj' hji => by
    by_cases hjk : j = i
    ·subst hjk; exact h
    ·exact hall j hj' (by omega)
   generalize y.procs[i] = p at *
   refine cK (xT (cS (cB (cS (cR (sV (vF rfl fa27_1 rfl) (sV (vY rfl ld25) ?_)))))))
   refine sV (vM rfl) (sV (vI (k := i) (congrArg some hv2) rfl sl25 rfl hlt rfl) (sV (v_ldn rfl ld77 hus hrd) ?_))
   refine st_alc al77 fun b4 => ?_
   refine st_stoW rfl rfl sz77 rfl rfl ?_
   refine sN (nK [1, 3, 4] rfl (nT (cS (cS (cR (sV (vF rfl fa77_0 rfl) (sV (vY rfl ld73) ?_)))))))
   refine sV (v_len rfl Tryz.underlying73) (sV (v_gtr rfl rfl) (sV (vM rfl) (st_cut (k := 10) (d := 37) (v := .bool (decide (30 < (p.lines.length : Int)) || decide (30 < (p.holds.length : Int)))) (fun hcut => bool_want (b := decide (30 < (p.lines.length : Int))) false (fun hg => ?_) (fun hg => ?_)) ?_)))
   ·refine st_sk rfl rfl hg ?_
    iterate 3 refine st_sk rfl rfl hg ?_
    refine sV (vQ (bE rfl hg) rfl) ?_
    exact hcut _ (uH (by first | rfl | (rw [hg]; rfl) | simp_all) (uS rfl (uS rfl (uS rfl (uS rfl (uR))))))
   ·skip
    refine sG rfl (bG rfl hg) (vF rfl fa77_5 rfl) (sG rfl (bG rfl hg) (vY rfl ld75) ?_)
    refine sG rfl (bG rfl hg) (v_len rfl Tryz.underlying75) (sG rfl (bG rfl hg) (v_gtr rfl rfl) (sV (vP (bE rfl hg) rfl) ?_))
    exact hcut _ (uH (by first | rfl | (rw [hg]; rfl) | simp_all) (uS rfl (uS rfl (uS rfl (uS rfl (uR))))))
   refine sV (vM rfl) (st_cut (k := 22) (d := 49) (v := .bool (decide (30 < (p.lines.length : Int)) || decide (30 < (p.holds.length : Int)) || (decide (30 < (p.puts.length : Int)) && decide ((p.puts.length : Int) ≤ 400)))) (fun hcut => bool_want (b := decide (30 < (p.lines.length : Int)) || decide (30 < (p.holds.length : Int))) false (fun hg => ?_) (fun hg => ?_)) ?_)
   ·refine st_sk rfl rfl hg ?_
    iterate 4 refine st_sk rfl rfl hg ?_
    refine st_sku rfl rfl ?_
    refine st_sku rfl rfl ?_
    refine st_sku rfl rfl ?_
    refine st_sku rfl rfl ?_
    refine st_sk rfl rfl hg ?_
    refine sV (vQ (bE rfl hg) rfl) ?_
    exact hcut _ (uH (by first | rfl | (rw [hg]; rfl) | simp_all) (uS rfl (uS rfl (uS rfl (uS rfl (uS rfl (uS rfl (uS rfl (uS rfl (uS rfl (uS rfl (uR))))))))))))
   ·skip
    refine sG rfl (bG rfl hg) (vF rfl fa77_1 rfl) (sG rfl (bG rfl hg) (vY rfl ld74) ?_)
    refine sG rfl (bG rfl hg) (v_len rfl Tryz.underlying74) (sG rfl (bG rfl hg) (v_gtr rfl rfl) (sG rfl (bG rfl hg) (vM rfl) (st_cut (k := 21) (d := 48) (v := .bool (decide (30 < (p.puts.length : Int)) && decide ((p.puts.length : Int) ≤ 400))) (fun hcut => bool_want (b := decide (30 < (p.puts.length : Int))) true (fun hg1 => ?_) (fun hg1 => ?_)) ?_)))
    ·refine st_sk rfl rfl hg1 ?_
     iterate 3 refine st_sk rfl rfl hg1 ?_
     refine sG rfl (bG rfl hg) (vP (bE rfl hg1) rfl) ?_
     exact hcut _ (uH (by first | rfl | (rw [hg1]; rfl) | simp_all) (uS rfl (uS rfl (uS rfl (uS rfl (uR))))))
    ·skip
     refine sG rfl (bG rfl hg1) (vF rfl fa77_1 rfl) (sG rfl (bG rfl hg1) (vY rfl ld74) ?_)
     refine sG rfl (bG rfl hg1) (v_len rfl Tryz.underlying74) (sG rfl (bG rfl hg1) (v_leq rfl rfl) (sG rfl (bG rfl hg) (vQ (bE rfl hg1) rfl) ?_))
     exact hcut _ (uH (by first | rfl | (rw [hg1]; rfl) | simp_all) (uS rfl (uS rfl (uS rfl (uS rfl (uR))))))
    refine sV (vP (bE rfl hg) rfl) ?_
    exact hcut _ (uH (by first | rfl | (rw [hg]; rfl) | simp_all) (by repeat (first | exact uR | refine uS rfl ?_)))
   refine sV (vM rfl) (st_cut (k := 34) (d := 61) (v := .bool (decide (30 < (p.lines.length : Int)) || decide (30 < (p.holds.length : Int)) || (decide (30 < (p.puts.length : Int)) && decide ((p.puts.length : Int) ≤ 400)) || (decide (30 < (p.did.length : Int)) && decide ((p.did.length : Int) ≤ 400)))) (fun hcut => bool_want (b := decide (30 < (p.lines.length : Int)) || decide (30 < (p.holds.length : Int)) || (decide (30 < (p.puts.length : Int)) && decide ((p.puts.length : Int) ≤ 400))) false (fun hg => ?_) (fun hg => ?_)) ?_)
   ·refine st_sk rfl rfl hg ?_
    iterate 4 refine st_sk rfl rfl hg ?_
    refine st_sku rfl rfl ?_
    refine st_sku rfl rfl ?_
    refine st_sku rfl rfl ?_
    refine st_sku rfl rfl ?_
    refine st_sk rfl rfl hg ?_
    refine sV (vQ (bE rfl hg) rfl) ?_
    exact hcut _ (uH (by first | rfl | (rw [hg]; rfl) | simp_all) (uS rfl (uS rfl (uS rfl (uS rfl (uS rfl (uS rfl (uS rfl (uS rfl (uS rfl (uS rfl (uR))))))))))))
   ·skip
    refine sG rfl (bG rfl hg) (vF rfl fa77_8 rfl) (sG rfl (bG rfl hg) (vY rfl ld62) ?_)
    refine sG rfl (bG rfl hg) (v_len rfl Tryz.underlying62) (sG rfl (bG rfl hg) (v_gtr rfl rfl) (sG rfl (bG rfl hg) (vM rfl) (st_cut (k := 33) (d := 60) (v := .bool (decide (30 < (p.did.length : Int)) && decide ((p.did.length : Int) ≤ 400))) (fun hcut => bool_want (b := decide (30 < (p.did.length : Int))) true (fun hg1 => ?_) (fun hg1 => ?_)) ?_)))
    ·refine st_sk rfl rfl hg1 ?_
     iterate 3 refine st_sk rfl rfl hg1 ?_
     refine sG rfl (bG rfl hg) (vP (bE rfl hg1) rfl) ?_
     exact hcut _ (uH (by first | rfl | (rw [hg1]; rfl) | simp_all) (uS rfl (uS rfl (uS rfl (uS rfl (uR))))))
    ·skip
     refine sG rfl (bG rfl hg1) (vF rfl fa77_8 rfl) (sG rfl (bG rfl hg1) (vY rfl ld62) ?_)
     refine sG rfl (bG rfl hg1) (v_len rfl Tryz.underlying62) (sG rfl (bG rfl hg1) (v_leq rfl rfl) (sG rfl (bG rfl hg) (vQ (bE rfl hg1) rfl) ?_))
     exact hcut _ (uH (by first | rfl | (rw [hg1]; rfl) | simp_all) (uS rfl (uS rfl (uS rfl (uS rfl (uR))))))
    refine sV (vP (bE rfl hg) rfl) ?_
    exact hcut _ (uH (by first | rfl | (rw [hg]; rfl) | simp_all) (by repeat (first | exact uR | refine uS rfl ?_)))
   refine sV (vM rfl) (st_cut (k := 40) (d := 67) (v := .bool (decide (30 < (p.lines.length : Int)) || decide (30 < (p.holds.length : Int)) || (decide (30 < (p.puts.length : Int)) && decide ((p.puts.length : Int) ≤ 400)) || (decide (30 < (p.did.length : Int)) && decide ((p.did.length : Int) ≤ 400)) || decide (410 < (p.puts.length : Int)))) (fun hcut => bool_want (b := decide (30 < (p.lines.length : Int)) || decide (30 < (p.holds.length : Int)) || (decide (30 < (p.puts.length : Int)) && decide ((p.puts.length : Int) ≤ 400)) || (decide (30 < (p.did.length : Int)) && decide ((p.did.length : Int) ≤ 400))) false (fun hg => ?_) (fun hg => ?_)) ?_)
   ·refine st_sk rfl rfl hg ?_
    iterate 3 refine st_sk rfl rfl hg ?_
    refine sV (vQ (bE rfl hg) rfl) ?_
    exact hcut _ (uH (by first | rfl | (rw [hg]; rfl) | simp_all) (uS rfl (uS rfl (uS rfl (uS rfl (uR))))))
   ·skip
    refine sG rfl (bG rfl hg) (vF rfl fa77_1 rfl) (sG rfl (bG rfl hg) (vY rfl ld74) ?_)
    refine sG rfl (bG rfl hg) (v_len rfl Tryz.underlying74) (sG rfl (bG rfl hg) (v_gtr rfl rfl) (sV (vP (bE rfl hg) rfl) ?_))
    exact hcut _ (uH (by first | rfl | (rw [hg]; rfl) | simp_all) (uS rfl (uS rfl (uS rfl (uS rfl (uR))))))
   refine sV (vM rfl) (st_cut (k := 46) (d := 73) (v := .bool (decide (30 < (p.lines.length : Int)) || decide (30 < (p.holds.length : Int)) || (decide (30 < (p.puts.length : Int)) && decide ((p.puts.length : Int) ≤ 400)) || (decide (30 < (p.did.length : Int)) && decide ((p.did.length : Int) ≤ 400)) || decide (410 < (p.puts.length : Int)) || decide (410 < (p.did.length : Int)))) (fun hcut => bool_want (b := decide (30 < (p.lines.length : Int)) || decide (30 < (p.holds.length : Int)) || (decide (30 < (p.puts.length : Int)) && decide ((p.puts.length : Int) ≤ 400)) || (decide (30 < (p.did.length : Int)) && decide ((p.did.length : Int) ≤ 400)) || decide (410 < (p.puts.length : Int))) false (fun hg => ?_) (fun hg => ?_)) ?_)
   ·refine st_sk rfl rfl hg ?_
    iterate 3 refine st_sk rfl rfl hg ?_
    refine sV (vQ (bE rfl hg) rfl) ?_
    exact hcut _ (uH (by first | rfl | (rw [hg]; rfl) | simp_all) (uS rfl (uS rfl (uS rfl (uS rfl (uR))))))
   ·skip
    refine sG rfl (bG rfl hg) (vF rfl fa77_8 rfl) (sG rfl (bG rfl hg) (vY rfl ld62) ?_)
    refine sG rfl (bG rfl hg) (v_len rfl Tryz.underlying62) (sG rfl (bG rfl hg) (v_gtr rfl rfl) (sV (vP (bE rfl hg) rfl) ?_))
    exact hcut _ (uH (by first | rfl | (rw [hg]; rfl) | simp_all) (uS rfl (uS rfl (uS rfl (uS rfl (uR))))))
   refine sN (nK [1, 3, 4, 73] rfl (nT (cC rfl (fun hq => ?_) (fun hq => ?_))))
   ·skip
    have hr := hbad (by unfold smallP; rw [show smallG p = true from hq]; rfl)
    subst hr
    refine cS (cR (sV (vA rfl) (sN (nK [2] rfl (nT (cT (xR (xW (xR (xR (xW (xR ?_))))))))))))
    exact xt_rt rfl ⟨rfl, rfl⟩ sbq
   ·skip
    refine cK (xT (cS (cR (sV (vA rfl) (sN (nK [1, 3, 4, 5] rfl (nT (cB (cd_lq (σ := Nat) (fun k => [(1, .pointer (some ⟨b1, 0, none⟩)), (3, .int .i64 (i : Nat)), (4, .pointer (some ⟨b4, 0, none⟩)), (5, .int .i64 (k : Nat))]) (fun _ => pt b4 (cl (pC (.slice al p.lines.length cl') (.slice ap' p.puts.length cp') (.slice ah p.holds.length ch') (.slice ad p.did.length cd') p) 77) :: pt b1 (cl [.slice aj y.jobs.length cj, .slice ap y.procs.length cp] 27) :: S :: hr) (fun k => k ≤ p.lines.length ∧ ∀ (j : Nat) (hj : j < p.lines.length), j < k → decide (((p.lines[j]).asks.length : Int) ≤ 30) = true) (fun k => p.lines.length - k) 0 ⟨Nat.zero_le _, fun j _ hj => by omega⟩ ?_)))))))))
    rintro k ⟨hk, hallk⟩
    refine cS (cS (cR (sV (vM rfl) (sV (vF rfl fa77_0 rfl) (sV (vY rfl ld73) ?_)))))
    refine sV (v_len rfl Tryz.underlying73) (sV (v_lss rfl rfl) (sN (nK [1, 3, 4, 5, 78] rfl (nT (cC rfl (fun hd2 => ?_) (fun hd2 => ?_))))))
    ·skip
     have hkt : k < p.lines.length := by simpa using hd2
     obtain ⟨c1, c2, c3, cus, hcv, hcus, hcrd, av, rfl, hA⟩ := hL.at (List.getElem?_eq_getElem hkt)
     obtain ⟨aa, ac, rfl, _⟩ := id hA
     refine cK (xT (cS (cB (cS (cR (sV (vF rfl fa77_0 rfl) (sV (vY rfl ld73) ?_)))))))
     refine sV (vM rfl) (sV (vI (k := k) (congrArg some hcv) rfl sl73 rfl hkt rfl) (sV (vF rfl fa120_1 rfl) (sV (vY rfl ld118) ?_)))
     refine sV (v_len rfl Tryz.underlying118) (sV (v_gtr rfl rfl) (sN (nK [1, 3, 4, 5, 88] rfl (nT (cC rfl (fun hx => ?_) (fun hx => ?_))))))
     ·skip
      have hr := hbad (by
       unfold smallP
       rw [all_bad (g := fun l : Line => decide ((l.asks.length : Int) ≤ 30)) hkt (by rw [decide_eq_false_iff_not]; simpa using hx), Bool.and_false])
      subst hr
      refine cS (cR (sV (vA rfl) (sN (nK [2] rfl (nT (cT (xW (xR (xR (xW (xW (xR (xR (xW (xR ?_)))))))))))))))
      exact xt_rt rfl ⟨rfl, rfl⟩ sbq
     ·skip
      refine cK (xB (xT (cR (sV (vM rfl) (sV (v_add rfl rfl (by unfold I64 at *; omega)) (sV (vA rfl) (sN (nK [1, 3, 4, 5] rfl (nx_xt (xt_aq (k + 1) ⟨hkt, fun j hj' hji => ?_⟩ (by show _ - _ < _ - _; omega)))))))))))
      by_cases hjk : j = k
      ·subst hjk; simpa using hx
      ·exact hallk j hj' (by omega)
    ·skip
     have hkl : k = p.lines.length := by
      have : ¬ k < p.lines.length := by simpa using hd2
      omega
     refine cd_exit (xE (xE (xY (xB (xT (cR (sV (vM rfl) (sV (v_add rfl rfl (by unfold I64 at *; omega)) (sV (vA rfl) (sN (nK [1, 3] rfl (nx_xt ?_))))))))))))
     refine xt_aq (i + 1) ⟨hlt, hgood (by
      unfold smallP
      rw [show smallG p = false from hq, all_good (g := fun l : Line => decide ((l.asks.length : Int) ≤ 30)) (fun j hj' => hallk j hj' (by omega))]
      rfl)⟩ (by show _ - _ < _ - _; omega)
  ·skip
   have hin : i = y.procs.length := by
    have : ¬ i < y.procs.length := by simpa using hd
    omega
   rw [all_good (g := smallP) (fun j hj' => hall j hj' (by omega))] at hr0
   subst hr0
   refine cd_exit (xE (xE (xY (xT (cS (cR (sV (vA rfl) (sN (nK [2] rfl (nT (cT ?_)))))))))))
   exact xt_rt rfl ⟨rfl, rfl⟩ sbq
end
end Go.Wt
namespace Go.Wt
open Go Go.Ck Go.Proofs Go.Proofs.YtboepbencndobaaGreat Fx
attribute [local irreducible] Go.Ck.Sub St Cd Xt Nx DrL LsW
section
variable {S : Res} {v v' : Value}
def sameE (y z : Yard) : Bool × Int := if firstE [openedE y [], openedE z []] = 0 then (decide (y = z), 0) else (false, firstE [openedE y [], openedE z []])
theorem firstE_two (a b : Int) : firstE [a, b] = if a = 0 then b else a := by
 unfold firstE
 by_cases h : a = 0
 ·subst h
  by_cases h2 : b = 0
  ·subst h2; rfl
  ·simp [h2]
 ·simp [h]
end
end Go.Wt
namespace Go.Ck
open Go Go.RowKit
theorem v_app_nil {P : Program} {e : Env} {h : SH} {t E ty : TypeId} {x y : Operand} {z : Value} {sz bytes : Nat} {a : Addr} {n cp : Nat} (hx : e.ev? x = some (.slice (some a) n cp)) (hy : e.ev? y = some (.slice none 0 0)) (hT : P.underlying t = some (.slice E)) (hE : Inf P E z sz bytes) (hn : n ≤ cp) : Vop P e h (.call { callee := .builtin .append, args := #[x, y], argTypes := #[t, t] }) ty (.slice (some a) n cp) :=
 ⟨by simp, by simp, fun ρ w d pos after g hρ _ => by
  obtain ⟨i, hi, hz, hisz, hiby⟩ := hE.parts
  simp [execOp, resolve, invoke, builtin, hρ x _ hx, hρ y _ hy, Builtin.append_, run_underlying hT, sizeOf, typeInfo, hi, Builtin.lenOf, Builtin.firstCells, loadCells, loadCellsFrom, hn, storeCells]⟩
theorem v_sliceHM {P : Program} {e : Env} {h : SH} {ty : TypeId} {T E : TypeId} {x y z : Operand} {b o n cp hi mx sz : Nat} {i j : Int} {k k' : IntKind} (hx : e.ev? x = some (.slice (some ⟨b, o, none⟩) n cp)) (hy : e.ev? y = some (.int k i)) (hz : e.ev? z = some (.int k' j)) (hT : SlE P T E sz)
  (hi' : i = (hi : Int)) (hj : j = (mx : Int)) (h1 : hi ≤ mx) (h2 : mx ≤ cp) : Vop P e h (.slice T x none (some y) (some z)) ty (.slice (some ⟨b, o, none⟩) hi mx) :=
 ⟨by simp, by simp, fun ρ w d pos after g hρ _ => by
  subst hi' hj
  have hT' : P.underlying T = some (.slice (P.elem T)) := by simp [Program.elem, hT.1]
  have he : P.elem T = E := by simp [Program.elem, hT.1]
  have hr := run_slice_hm (P := P) w T (some ⟨b, o, none⟩) n cp hT' k k' hi mx (by omega) (by omega) (by omega)
  have hs : sliced (some ⟨b, o, none⟩) 0 hi mx sz = .slice (some ⟨b, o, none⟩) hi mx := by
   unfold sliced; by_cases hcl : mx = 0 <;> simp [hcl, Addr.add_lit]
  simp only [he, hT.2 w, Result.andThen_ok, Int.toNat_natCast, hs] at hr
  simp only [execOp, hρ x _ hx, Option.map_some, Option.map_none, hρ y _ hy, hρ z _ hz, Sem.run_bind, run_sliceAt_slice w T _ _ _ _ hT', hr, Result.andThen_ok, Sem.run_pure]⟩
end Go.Ck
namespace Go.Wt
open Go Go.Ck Go.Proofs Go.Proofs.YtboepbencndobaaGreat Fx
attribute [local irreducible] Go.Ck.Sub St Cd Xt Nx DrL LsW
section
variable {c : Cx} {ops : Array Oper} {K : Act → World → Prop} {rest : List Oper} {e : Env} {h h' h'' : SH}
theorem st_cln {α : Type} {X : List Value → α → Prop} {l : List α} {S : Res} {v z : Value} {E t ty : TypeId} {sz bytes b d : Nat} {x y : Operand} {pos : String} {after : Array Edge} (hv : Row S sz X v l)
  (hx : e.ev? x = some (.slice (some ⟨b, 0, none⟩) 0 0)) (hy : e.ev? y = some v) (ht : c.P.underlying t = some (.slice E)) (hE : Inf c.P E z sz bytes) (hzs : z.cells.size = sz) (hsz : 0 < sz)
  (hs : Sel h (VR (.slice (some ⟨b, 0, none⟩) 0 0) E sz []) h') (hS : Sel h' S h'') (h1 : ∀ us x, x ∈ l → X us x → ∀ u ∈ us, u.oneCell' = true) (hb : l.length * bytes ≤ 140737488355328) (h63 : l.length ≤ 9223372036854775807) (hd : d < c.n)
  (hnx : ∀ v' T, Cln E sz X l v' T → St c ops K rest ((d, v') :: e) (T :: h')) :
  St c ops K (⟨some d, .call { callee := .builtin .append, args := #[x, y], argTypes := #[t, t] }, ty, pos, after, none⟩ :: rest) e h := by
 obtain ⟨a, cap, rfl, hlc, hcm, hnone, hel⟩ := id hv
 have hSat : ∀ {p u}, Rd S p u → At (VR (.slice (some ⟨b, 0, none⟩) 0 0) E sz [] :: h') p u := fun hr => ⟨S, _, .there hS, hr⟩
 have key : St c ops K (⟨some d, .call { callee := .builtin .append, args := #[x, y], argTypes := #[t, t] }, ty, pos, after, none⟩ :: rest) e (VR (.slice (some ⟨b, 0, none⟩) 0 0) E sz [] :: h') := by
  cases a with
  | none =>
   have hc0 : cap = 0 := hnone rfl
   have hl0 : l = [] := List.eq_nil_of_length_eq_zero (by omega)
   subst hl0 hc0
   exact st_val (v_app_nil hx hy ht hE (Nat.le_refl _)) hd (hnx _ _ ⟨rfl, [], rfl, rfl, fun i us x h => by simp at h⟩)
  | some a =>
   obtain ⟨rows, r1, r2, r3, r4⟩ := hv.cells
   exact st_appA rows hx hy ht hE hzs hsz .here r2 r1 (fun j u hu => by obtain ⟨b2, o, hb2, hr⟩ := r4 j u hu; cases hb2; rw [Addr.add_lit]; exact hSat hr) (fun u hu => by obtain ⟨us, h2, h3⟩ := List.mem_flatten.1 hu; obtain ⟨i, hi, rfl⟩ := List.mem_iff_getElem.1 h2; exact h1 _ l[i] (List.getElem_mem _) (r3 i _ _ (List.getElem?_eq_getElem hi) (List.getElem?_eq_getElem (by omega))) u h3) (by simpa using hb) (by simpa using h63) hd fun v' hv' _ => hnx v' _ ⟨hv', rows, rfl, r1, r3⟩
 exact St.perm hs.perm key
end
/-! ## hold -/
def hmatch (of : Int) (x : Hold) : Bool := x.1 == of && !x.2.2
def holdI (l : List Hold) (of : Int) : Nat → Int
 | 0 => -1
 | k + 1 => if hmatch of (l.getD k (0, (0, 0), true)) = true then k else holdI l of k
theorem holdI_spec {p : Proc} {of : Int} : ∀ {k : Nat}, k ≤ p.holds.length → (∀ (j : Nat) x, k ≤ j → p.holds[j]? = some x → hmatch of x = false) →
  (holdI p.holds of k = -1 ∧ p.hold of = none) ∨ ∃ j x, p.holds[j]? = some x ∧ holdI p.holds of k = (j : Nat) ∧ p.hold of = some x
 | 0, _, h => .inl ⟨rfl, hold_none fun j x hj => h j x (Nat.zero_le _) hj⟩
 | k + 1, hk, h => by
  have hkl : k < p.holds.length := hk
  have hg : p.holds.getD k (0, (0, 0), true) = p.holds[k] := by rw [List.getD_eq_getElem?_getD, List.getElem?_eq_getElem hkl]; rfl
  unfold holdI
  rw [hg]
  by_cases hm : hmatch of p.holds[k] = true
  ·rw [if_pos hm]
   exact .inr ⟨k, _, List.getElem?_eq_getElem hkl, rfl, hold_some (List.getElem?_eq_getElem hkl) hm fun j y hj hy => h j y hj hy⟩
  ·rw [if_neg hm]
   refine holdI_spec (by omega) fun j x hj hx => ?_
   by_cases hjk : j = k
   ·subst hjk; rw [List.getElem?_eq_getElem hkl] at hx; cases hx; simpa using hm
   ·exact h j x (by omega) hx
theorem holdI_cases (p : Proc) (of : Int) : (holdI p.holds of p.holds.length = -1 ∧ p.hold of = none) ∨ ∃ j x, p.holds[j]? = some x ∧ holdI p.holds of p.holds.length = (j : Nat) ∧ p.hold of = some x :=
 holdI_spec (Nat.le_refl _) fun j x hj hx => by have := (List.getElem?_eq_some_iff.1 hx).1; omega
section
variable {S : Res}
set_option maxRecDepth 100000 in
theorem rhold_ct {us : List Value} {p : Proc} (hp : procR S us p) (hl : p.holds.length ≤ 1000000) (of : Int) : Reads Tryz.prog 157 #[.agg us.toArray, .int .i64 of] [S] (.int .i64 (holdI p.holds of p.holds.length)) := by
 obtain ⟨lv, pv, hv, dv, rfl, hL, hP, hH, hD⟩ := hp
 obtain ⟨ah, ch, rfl, _⟩ := id hH
 generalize hr0 : holdI p.holds of p.holds.length = r0
 refine ct_of (n := 32) Tryz.func157 rfl rfl (len rfl) fun hr w0 => ?_
 refine cS (cR (st_bx rfl rfl fun b2 => ?_))
 refine sV (vA rfl) (sN (nK [1, 2, 4] rfl (nT (cS (cS (cR (sV (vF rfl fa77_5 rfl) (sV (vY rfl ld75) ?_))))))))
 refine sV (v_len rfl Tryz.underlying75) (sV (v_sub rfl rfl (by unfold I64 at *; omega)) (sV (vA rfl) (sN (nK [1, 2, 4, 5] rfl (nT (cB (cd_lq (σ := Nat) (fun k => [(1, .int .i64 of), (2, .pointer (some ⟨b2, 0, none⟩)), (5, .int .i64 ((k : Nat) - 1 : Int))]) (fun _ => pt b2 (cl (pC lv pv (.slice ah p.holds.length ch) dv p) 77) :: S :: hr) (fun k => k ≤ p.holds.length ∧ holdI p.holds of k = r0) (fun k => k) p.holds.length ⟨Nat.le_refl _, hr0⟩ ?_)))))))
 rintro k ⟨hk, hki⟩
 refine cS (cS (cR (sV (vM rfl) (sV (v_geq rfl rfl) (sN (nK [1, 2, 5, 11] rfl (nT ?_)))))))
 cases k with
 | zero =>
  refine cC rfl (fun hd => ?_) (fun hd => ?_)
  ·skip
   exact absurd (of_decide_eq_true hd) (by simp)
  ·skip
   obtain rfl : r0 = -1 := hki.symm
   refine cd_exit (xE (xE (xY (xT (cS (cR (sV (vA rfl) (sN (nK [4] rfl (nT (cT ?_)))))))))))
   exact xt_rt rfl ⟨rfl, rfl⟩ sbq
 | succ k =>
  have hkl : k < p.holds.length := hk
  have hg : p.holds.getD k (0, (0, 0), true) = p.holds[k] := by rw [List.getD_eq_getElem?_getD, List.getElem?_eq_getElem hkl]; rfl
  obtain ⟨c1, c2, c3, cus, hcv, hcus, hcrd, rfl⟩ := hH.at (List.getElem?_eq_getElem hkl)
  unfold holdI at hki
  rw [hg] at hki
  generalize p.holds[k] = x at *
  have hk1 : ((k + 1 : Nat) : Int) - 1 = (k : Nat) := by omega
  rw [hk1]
  refine cC rfl (fun hd => ?_) (fun hd => ?_)
  ·skip
   refine cK (xT (cS (cB (cS (cR (sV (vF rfl fa77_5 rfl) (sV (vY rfl ld75) ?_)))))))
   refine sV (vM rfl) (sV (vI (k := k) (congrArg some hcv) rfl sl75 rfl hkl rfl) (sV (vF rfl fa161_0 rfl) (sV (vY rfl ld3) ?_)))
   refine sV (vM rfl) (sV (v_eql rfl rfl) (sV (vM rfl) (st_cut (k := 17) (d := 30) (v := .bool (x.1 == of && !x.2.2)) (fun hcut => bool_want (b := (x.1 == of)) true (fun hg => ?_) (fun hg => ?_)) ?_)))
   ·refine st_sk rfl rfl hg ?_
    iterate 6 refine st_sk rfl rfl hg ?_
    refine sV (vP (bE rfl hg) rfl) ?_
    exact hcut _ (uH (by first | rfl | (rw [hg]; rfl) | simp_all) (uS rfl (uS rfl (uS rfl (uS rfl (uS rfl (uS rfl (uS rfl (uR)))))))))
   ·skip
    refine sG rfl (bG rfl hg) (vF rfl fa77_5 rfl) (sG rfl (bG rfl hg) (vY rfl ld75) ?_)
    refine sG rfl (bG rfl hg) (vM rfl) (sG rfl (bG rfl hg) (vI (k := k) (congrArg some hcv) rfl sl75 rfl hkl rfl) (sG rfl (bG rfl hg) (vF rfl fa161_2 rfl) (sG rfl (bG rfl hg) (vY rfl ld4) ?_)))
    refine sG rfl (bG rfl hg) (v_not rfl) (sV (vQ (bE rfl hg) rfl) ?_)
    exact hcut _ (uH (by first | rfl | (rw [hg]; rfl) | simp_all) (uS rfl (uS rfl (uS rfl (uS rfl (uS rfl (uS rfl (uS rfl (uR)))))))))
   refine sN (nK [1, 2, 5, 30] rfl (nT (cC rfl (fun hm => ?_) (fun hm => ?_))))
   ·skip
    rw [if_pos (show hmatch of x = true from hm)] at hki
    subst hki
    refine cS (cR (sV (vM rfl) (sV (vA rfl) (sN (nK [4] rfl (nT (cT (xW (xR (xR (xW (xR ?_))))))))))))
    exact xt_rt rfl ⟨rfl, rfl⟩ sbq
   ·skip
    rw [if_neg (by rw [show hmatch of x = false from hm]; decide)] at hki
    refine cK (xB (xT (cR (sV (vM rfl) (sV (v_sub rfl rfl (by unfold I64 at *; omega)) (sV (vA rfl) (sN (nK [1, 2, 5] rfl (nx_xt ?_)))))))))
    refine xt_aq k ⟨by omega, hki⟩ (by show k < k + 1; omega)
  ·skip
   exact absurd (of_decide_eq_false hd) (by simp)
def optI : Option Nat → Int
 | some j => j
 | none => -1
set_option maxRecDepth 100000 in
theorem rqueue_ct {jv pv : Value} {procs : List Proc} {h : Hold} {i : Nat} (hp : Row S 9 (procR S) pv procs) (hi : i < procs.length) (hh : h.1 = (i : Int)) (hl : (procs[i]).lines.length ≤ 1000000) : Reads Tryz.prog 182 #[.agg #[jv, pv], .agg (holdC h).toArray] [S] (.int .i64 (optI ((procs[i]).line h.2.1))) := by
 obtain ⟨sp, hk, ho⟩ := h
 simp only at hh
 subst hh
 obtain ⟨b, off, cp2, us, rfl, hus, hrd, lv, pv', hv, dv, rfl, hL, hP, hH, hD⟩ := hp.at (List.getElem?_eq_getElem hi)
 obtain ⟨al, cl1, hlv, _⟩ := id hL
 generalize procs[i] = p at *
 generalize hr0 : optI (p.line hk) = r0
 refine ct_of (n := 29) Tryz.func182 rfl rfl (len rfl) fun hr w0 => ?_
 refine cS (cR (st_bx rfl rfl fun b2 => ?_))
 refine st_bx rfl rfl fun b3 => ?_
 refine sV (vA rfl) (sN (nK [2, 3, 4] rfl (nT (cS (cR (sV (vF rfl fa27_1 rfl) (sV (vY rfl ld25) ?_)))))))
 refine sV (vF rfl fa161_0 rfl) (sV (vY rfl ld3) ?_)
 refine sV (vI (k := i) rfl rfl sl25 rfl hi rfl) (sV (vF rfl fa77_0 rfl) (sV (vY rfl ld73) ?_))
 refine sV (vA rfl) (sN (nK [3, 4, 5] rfl (nT (cS (cS (cR (sV (vA rfl) (sN (nT (cB (cd_lq (σ := Nat) (fun k => [(3, .pointer (some ⟨b3, 0, none⟩)), (5, lv), (6, .int .i64 (k : Nat))]) (fun _ => pt b3 (cl (holdC ((i : Int), hk, ho)) 161) :: S :: hr) (fun k => k ≤ p.lines.length ∧ ∀ (j : Nat) x, j < k → p.lines[j]? = some x → x.key ≠ hk) (fun k => p.lines.length - k) 0 ⟨Nat.zero_le _, fun j x hj => by omega⟩ ?_)))))))))))
 rintro k ⟨hkl, hne⟩
 refine cS (cS (cR (sV (vM rfl) (sV (vM rfl) (sV (v_len (congrArg some hlv) Tryz.underlying73) (sV (v_lss rfl rfl) (sN (nK [3, 5, 6, 17] rfl (nT (cC rfl (fun hd => ?_) (fun hd => ?_)))))))))))
 ·skip
  have hkt : k < p.lines.length := by simpa using hd
  obtain ⟨c1, c2, c3, cus, hcv, hcus, hcrd, av, rfl, hA⟩ := hL.at (List.getElem?_eq_getElem hkt)
  have hx0 : p.lines[k]? = some p.lines[k] := List.getElem?_eq_getElem hkt
  have hfind : (p.lines[k]).key = hk → p.line hk = some k := fun h => by
   unfold Proc.line
   rw [List.findIdx?_eq_some_iff_getElem]
   exact ⟨hkt, by simpa using h, fun j hj => by simpa using hne j _ hj (List.getElem?_eq_getElem (by omega))⟩
  generalize p.lines[k] = x at *
  refine cK (xT (cS (cB (cS (cd_drawh (ork [(0, 2), (1, 2), (2, 2), (3, 2), (4, 1), (5, 2), (6, 1), (7, 1)] .nil) (fun _ => true) mixed (by kernel_rfl) ?_)))))
  refine dV rfl (vM rfl) (dV rfl (vM rfl) (dV rfl (vI (k := k) (congrArg some hcv) rfl sl73 rfl hkt rfl) (dV rfl (vF rfl fa120_0 rfl) (dr_v rfl (v_ldn (vs := kC x.key) rfl ld79 rfl (rds_sub hcrd rfl)) ?_))))
  refine dV rfl (vF rfl fa161_1 rfl) (dr_v rfl (v_ldn (vs := kC hk) rfl ld79 rfl (rds_sub rds_pt rfl)) ?_)
  refine dr_v rfl (v_eql_T eq79 rfl rfl) (dr_nil (nK [3, 5, 6, 27] rfl (nT (cC rfl (fun hq => ?_) (fun hq => ?_)))))
  ·skip
   rw [hfind (by simpa using hq)] at hr0
   subst hr0
   refine cS (cR (sV (vM rfl) (sV (vA rfl) (sN (nK [4] rfl (nT (cT (xW (xR (xR (xW (xR ?_))))))))))))
   exact xt_rt rfl ⟨rfl, rfl⟩ sbq
  ·skip
   refine cK (xB (xT (cR (sV (vM rfl) (sV (v_add rfl rfl (by unfold I64 at *; omega)) (sV (vA rfl) (sN (nK [3, 5, 6] rfl (nx_xt (xt_aq (k + 1) ⟨hkt, fun j y hj hy => ?_⟩ (by show _ - _ < _ - _; omega)))))))))))
   by_cases hjk : j = k
   ·subst hjk; rw [hx0] at hy; cases hy; simpa using hq
   ·exact hne j y (by omega) hy
 ·skip
  have hkl2 : k = p.lines.length := by
   have : ¬ k < p.lines.length := by simpa using hd
   omega
  have hn : p.line hk = none := by
   unfold Proc.line
   rw [List.findIdx?_eq_none_iff]
   intro x hx
   obtain ⟨j, hj, rfl⟩ := List.getElem_of_mem hx
   simpa using hne j _ (by omega) (List.getElem?_eq_getElem hj)
  rw [hn] at hr0
  subst hr0
  refine cd_exit (xE (xE (xY (xT (cS (cR (sV (vA rfl) (sN (nK [4] rfl (nT (cT ?_)))))))))))
  exact xt_rt rfl ⟨rfl, rfl⟩ sbq
def largeE (y : Yard) : Bool := y.full || !y.procs.all fun p => decide ((p.holds.length : Int) ≤ 20)
end
end Go.Wt
namespace Go.Wt
open Go Go.Ck Go.Proofs Go.Proofs.YtboepbencndobaaGreat Fx
attribute [local irreducible] Go.Ck.Sub St Cd Xt Nx DrL LsW
section
variable {S : Res}
set_option maxHeartbeats 2000000 in
set_option maxRecDepth 100000 in
theorem rcopied_ct {us : List Value} {p : Proc} (hp : procR S us p) (hf : FitP p) : Ct Tryz.prog 155 #[.agg us.toArray] [S] fun u h' => ∃ G, u = .agg (hpC G p).toArray ∧ (∀ x ∈ hpC G p, x.oneCell' = true) ∧ h' = prl G p ++ [S] := by
 obtain ⟨lv, pv, hv, dv, rfl, hL, hP, hH, hD⟩ := hp
 obtain ⟨f1, f2, f3, f4, f5⟩ := hf
 obtain ⟨al, cl1, rfl, _⟩ := id hL
 obtain ⟨ap, cp1, rfl, _⟩ := id hP
 obtain ⟨ah, ch1, rfl, _⟩ := id hH
 obtain ⟨ad, cd1, rfl, _⟩ := id hD
 refine ct_of (n := 45) Tryz.func155 rfl rfl (len rfl) fun hr w0 => ?_
 refine cS (cR (st_bx rfl rfl fun b1 => ?_))
 refine st_alc al77 fun b2 => ?_
 refine sN (nK [1, 2] rfl (nT (cS (cR (sV (vA rfl) (sN (nT (cS (cS (cR (sV (vA rfl) (sN (nT (cB (cd_vw (vw_nil 120 5) (cd_pv (pv_add (triv_star (L := []) (fun r h => by cases h))) ?_))))))))))))))))
 refine cd_lq (σ := Nat × Value × List Value) (fun s => [(1, .pointer (some ⟨b1, 0, none⟩)), (2, .pointer (some ⟨b2, 0, none⟩)), (3, s.2.1), (4, .int .i64 (s.1 : Nat))]) (fun s => VR s.2.1 120 5 (lrows s.2.2 (p.lines.take s.1)) :: Res.star (arows s.2.2 (p.lines.take s.1)) :: pt b1 (cl (pC (.slice al p.lines.length cl1) (.slice ap p.puts.length cp1) (.slice ah p.holds.length ch1) (.slice ad p.did.length cd1) p) 77) :: pt b2 (cl [.slice none 0 0, .slice none 0 0, .int .i64 0, .int .i64 0, .bool false, .slice none 0 0, .int .i64 0, .int .i64 0, .slice none 0 0] 77) :: S :: hr) (fun s => s.1 ≤ p.lines.length ∧ s.2.2.length = s.1 ∧ s.2.1.oneCell' = true) (fun s => p.lines.length - s.1) (0, .slice none 0 0, []) ⟨Nat.zero_le _, rfl, rfl⟩ ?_
 rintro ⟨k, v, avs⟩ ⟨hk, hal, h1⟩
 simp only at hk hal h1
 dsimp only
 refine cS (cS (cR (sV (vM rfl) (sV (vF rfl fa77_0 rfl) (sV (vY rfl ld73) ?_)))))
 refine sV (v_len rfl Tryz.underlying73) (sV (v_lss rfl rfl) (sN (nK [1, 2, 3, 4, 10] rfl (nT (cC rfl (fun hd => ?_) (fun hd => ?_))))))
 ·skip
  have hkt : k < p.lines.length := by simpa using hd
  obtain ⟨c1, c2, c3, cus, hcv, hcus, hcrd, av, rfl, hA⟩ := hL.at (List.getElem?_eq_getElem hkt)
  obtain ⟨aa, ac, rfl, _⟩ := id hA
  have hasl := f5 _ (List.getElem_mem hkt)
  have htk : p.lines.take (k + 1) = p.lines.take k ++ [p.lines[k]] := List.take_succ_eq_append_getElem hkt
  generalize p.lines[k] = l at *
  refine cK (xT (cS (cB (cS (cR (sV (vF rfl fa77_0 rfl) (sV (vY rfl ld73) ?_)))))))
  refine sV (vM rfl) (sV (vI (k := k) (congrArg some hcv) rfl sl73 rfl hkt rfl) (sV (v_ldn rfl ld120 hcus hcrd) ?_))
  refine st_alc al120 fun b5 => ?_
  refine st_stoW rfl rfl sz120 rfl rfl ?_
  refine sN (nK [1, 2, 3, 4, 5] rfl (nT (cS (cR (st_bs0 Tryz.underlying118 inf117 fun b18 => ?_)))))
  refine sV (vF rfl fa120_1 rfl) (sV (vY rfl ld118) ?_)
  refine st_cln hA rfl rfl Tryz.underlying118 inf117 rfl (by decide) slq slq (aC_one _) (by omega) (by omega) (ltn rfl) fun u21 T hT => ?_
  obtain ⟨rfl, hu21⟩ := hT.eqC
  refine st_rowf (v := u21) slq (fun va vc hve _ _ => ?_)
  rw [List.length_map] at hve
  subst hve
  refine sV (vF rfl fa120_1 rfl) (st_sto rfl rfl sz118 ?_)
  refine sN (nK [1, 2, 3, 4, 5] rfl (nT (cR (sV (vM rfl) (sV (v_ldn rfl ld120 rfl rds_pt) ?_)))))
  refine st_buildSlice (cells := lC (.slice va l.asks.length vc) l) rfl Tryz.underlying73 inf120 rfl rfl (by kernel_rfl) (ltn rfl) fun b25 => ?_
  refine st_app [lC (.slice va l.asks.length vc) l] rfl rfl Tryz.underlying73 inf120 rfl (by decide) slq (by simp [lC]) rfl (fun j u2 hu2 => at_here (rd_cl (by simpa using hu2))) (by simp [lC, Value.oneCell']) (by simp [lrows]; omega) (by simp [lrows]; omega) (ltn rfl) fun v' hv' _ => ?_
  refine sV (vA rfl) (sN (nK [1, 2, 3, 4] rfl (nx_xt (xB (xT (cR (sV (vM rfl) (sV (v_add rfl rfl (by unfold I64 at *; omega)) (sV (vA rfl) (sN (nK [1, 2, 3, 4] rfl (nx_xt ?_))))))))))))
  have hlen : avs.length = (p.lines.take k).length := by simp; omega
  rw [lrows_snoc hlen]
  refine xt_pv (pv_snoc (L := arows avs (p.lines.take k)) (r := VR (.slice va l.asks.length vc) 117 2 (l.asks.map aC))) ?_
  have e1 : arows avs (p.lines.take k) ++ [VR (.slice va l.asks.length vc) 117 2 (l.asks.map aC)] = arows (avs ++ [.slice va l.asks.length vc]) (p.lines.take (k + 1)) := by rw [htk]; exact (arows_snoc hlen).symm
  rw [e1, ← htk]
  refine xt_aq (k + 1, v', avs ++ [.slice va l.asks.length vc]) ⟨hkt, by simp [hal], hv'⟩ (by show _ - _ < _ - _; omega)
 ·skip
  have hkl : k = p.lines.length := by
   have : ¬ k < p.lines.length := by simpa using hd
   omega
  subst hkl
  rw [List.take_length]
  refine cd_rowf (v := v) slq (fun va vc hve _ _ => ?_)
  generalize (lrows avs p.lines).length = vn at hve
  subst hve
  refine cd_exit (xE (xE (xY (xT (cS (cR (sV (vM rfl) (sV (vF rfl fa77_0 rfl) (st_sto rfl rfl sz73 ?_)))))))))
  refine sN (nK [1, 2] rfl (nT (cS (cR (st_bs0 Tryz.underlying74 inf79 fun b29 => ?_)))))
  refine sV (vF rfl fa77_1 rfl) (sV (vY rfl ld74) ?_)
  refine st_cln hP rfl rfl Tryz.underlying74 inf79 rfl (by decide) slq slq (kC_one _) (by omega) (by omega) (ltn rfl) fun u1 T1 hT1 => ?_
  obtain ⟨rfl, hu1⟩ := hT1.eqC
  refine sV (vF rfl fa77_1 rfl) (st_sto rfl rfl sz74 ?_)
  refine sN (nK [1, 2] rfl (nT (cS (cR (st_bs0 Tryz.underlying75 inf161 fun b34 => ?_)))))
  refine sV (vF rfl fa77_5 rfl) (sV (vY rfl ld75) ?_)
  refine st_cln hH rfl rfl Tryz.underlying75 inf161 rfl (by decide) slq slq (hC_one _) (by omega) (by omega) (ltn rfl) fun u2 T2 hT2 => ?_
  obtain ⟨rfl, hu2⟩ := hT2.eqC
  refine sV (vF rfl fa77_5 rfl) (st_sto rfl rfl sz75 ?_)
  refine sN (nK [1, 2] rfl (nT (cS (cR (st_bs0 Tryz.underlying62 inf81 fun b39 => ?_)))))
  refine sV (vF rfl fa77_8 rfl) (sV (vY rfl ld62) ?_)
  refine st_cln hD rfl rfl Tryz.underlying62 inf81 rfl (by decide) slq slq (dC_one _) (by omega) (by omega) (ltn rfl) fun u3 T3 hT3 => ?_
  obtain ⟨rfl, hu3⟩ := hT3.eqC
  refine sV (vF rfl fa77_8 rfl) (st_sto rfl rfl sz62 ?_)
  refine sN (nK [1, 2] rfl (nT (cS (cR (sV (v_ldn rfl ld77 rfl rds_pt) ?_)))))
  have hone : ∀ x ∈ hpC ⟨.slice va vn vc, u1, u2, u3, avs⟩ p, x.oneCell' = true := by
   intro x hx
   simp only [hpC, pC, List.mem_cons, List.mem_nil_iff, or_false] at hx
   rcases hx with rfl | rfl | rfl | rfl | rfl | rfl | rfl | rfl | rfl <;> first | rfl | assumption
  refine st_stoW rfl rfl sz77 rfl (List.all_eq_true.2 fun x hx => hone x hx) ?_
  refine sN (nK [2] rfl (nT (cT (xt_pv (pv_add (triv_pure (φ := avs.length = p.lines.length) hal)) ?_))))
  exact xt_retV (.cellN rfl ld77 rfl slq .nil) ⟨⟨.slice va vn vc, u1, u2, u3, avs⟩, rfl, hone, rfl⟩ sbr
set_option maxHeartbeats 2000000 in
set_option maxRecDepth 100000 in
theorem rcopy_ct {jv pv : Value} {y : Yard} (hy : yardR S [jv, pv] y) (hf : Fit y) : Ct Tryz.prog 127 #[.agg #[jv, pv]] [S] fun u h' => ∃ pv' H, u = .agg #[jv, pv'] ∧ h' = YO pv' y.procs.length H y.pr ++ [S] := by
 obtain ⟨jv0, pv0, he, hj, hp⟩ := id hy
 simp only [List.cons.injEq, and_true] at he
 obtain ⟨rfl, rfl⟩ := he
 obtain ⟨aj, cj, rfl, _⟩ := id hj
 obtain ⟨ap, cp, rfl, _⟩ := id hp
 obtain ⟨_, hnp, hfpp⟩ := id hf
 refine ct_of (n := 25) Tryz.func127 rfl rfl (len rfl) fun hr w0 => ?_
 refine cS (cR (st_bx rfl rfl fun b1 => ?_))
 refine st_alc al27 fun b2 => ?_
 refine sN (nK [1, 2] rfl (nT (cS (cR (sV (vA rfl) (sN (nT (cS (cS (cR (sV (vA rfl) (sN (nT (cB (cd_vw (vw_nil 77 9) (cd_pv (pv_add (triv_star (L := []) (fun r h => by cases h))) ?_))))))))))))))))
 refine cd_lq (σ := Nat × Value × (Nat → PH)) (fun s => [(1, .pointer (some ⟨b1, 0, none⟩)), (2, .pointer (some ⟨b2, 0, none⟩)), (3, s.2.1), (4, .int .i64 (s.1 : Nat))]) (fun s => VR s.2.1 77 9 ((List.range s.1).map fun k => hpC (s.2.2 k) (y.pr k)) :: Res.star ((List.range s.1).map fun k => PR (s.2.2 k) (y.pr k)) :: pt b1 (cl [.slice aj y.jobs.length cj, .slice ap y.procs.length cp] 27) :: pt b2 (cl [.slice none 0 0, .slice none 0 0] 27) :: S :: hr) (fun s => s.1 ≤ y.procs.length ∧ s.2.1.oneCell' = true) (fun s => y.procs.length - s.1) (0, .slice none 0 0, fun _ => PH.nil) ⟨Nat.zero_le _, rfl⟩ ?_
 rintro ⟨i, v, H⟩ ⟨hi, h1⟩
 simp only at hi h1
 dsimp only
 refine cS (cS (cR (sV (vM rfl) (sV (vF rfl fa27_1 rfl) (sV (vY rfl ld25) ?_)))))
 refine sV (v_len rfl Tryz.underlying25) (sV (v_lss rfl rfl) (sN (nK [1, 2, 3, 4, 9] rfl (nT (cC rfl (fun hd => ?_) (fun hd => ?_))))))
 ·skip
  have hlt : i < y.procs.length := by simpa using hd
  obtain ⟨b, off, cp2, us, hv2, hus, hrd, hX⟩ := hp.at (List.getElem?_eq_getElem hlt)
  have hfp := hfpp _ (List.getElem_mem hlt)
  have hpr : y.pr i = y.procs[i] := pr_get hlt
  refine cK (xT (cS (cB (cR (sV (vM rfl) (sV (vF rfl fa27_1 rfl) (sV (vY rfl ld25) ?_)))))))
  refine sV (vM rfl) (sV (vI (k := i) (congrArg some hv2) rfl sl25 rfl hlt rfl) (sV (v_ldn rfl ld77 hus hrd) ?_))
  refine st_cl rfl rfl en155 rfl (rcopied_ct hX hfp) ?_
  rintro u h' ⟨G, rfl, hone, rfl⟩
  rw [← hpr] at hone ⊢
  refine st_buildSlice (cells := hpC G (y.pr i)) rfl Tryz.underlying25 inf77 rfl rfl (by kernel_rfl) (ltn rfl) fun b19 => ?_
  refine st_app [hpC G (y.pr i)] rfl rfl Tryz.underlying25 inf77 rfl (by decide) slq (by simp [hpC, pC]) rfl (fun j u2 hu2 => at_here (rd_cl (by simpa using hu2))) (fun x hx => hone x (by simpa using hx)) (by simp; omega) (by simp; omega) (ltn rfl) fun v' hv' _ => ?_
  refine sV (vA rfl) (sN (nK [1, 2, 3, 4] rfl (nx_xt (xB (xT (cR (sV (vM rfl) (sV (v_add rfl rfl (by unfold I64 at *; omega)) (sV (vA rfl) (sN (nK [1, 2, 3, 4] rfl (nx_xt (xt_pv (pv_pack (L := prl G (y.pr i))) ?_)))))))))))))
  refine xt_pv (pv_snoc (L := (List.range i).map fun k => PR (H k) (y.pr k)) (r := PR G (y.pr i))) ?_
  have e3 : ((List.range i).map fun k => hpC (H k) (y.pr k)) ++ [hpC G (y.pr i)] = (List.range (i + 1)).map fun k => hpC (upd H i G k) (y.pr k) := by
   rw [List.range_succ, List.map_append]
   congr 1
   ·exact List.map_congr_left fun j hj => by rw [upd_ne _ _ (by have := List.mem_range.1 hj; omega)]
   ·rw [List.map_singleton, upd_same]
  have e4 : ((List.range i).map fun k => PR (H k) (y.pr k)) ++ [PR G (y.pr i)] = (List.range (i + 1)).map fun k => PR (upd H i G k) (y.pr k) := by
   rw [List.range_succ, List.map_append]
   congr 1
   ·exact List.map_congr_left fun j hj => by rw [upd_ne _ _ (by have := List.mem_range.1 hj; omega)]
   ·rw [List.map_singleton, upd_same]
  rw [e3, e4]
  refine xt_aq (i + 1, v', upd H i G) ⟨hlt, hv'⟩ (by show _ - _ < _ - _; omega)
 ·skip
  have hin : i = y.procs.length := by
   have : ¬ i < y.procs.length := by simpa using hd
   omega
  subst hin
  refine cd_rowf (v := v) slq (fun va vc hve _ _ => ?_)
  generalize ((List.range y.procs.length).map fun k => hpC (H k) (y.pr k)).length = vn at hve
  subst hve
  refine cd_exit (xE (xE (xY (xT (cS (cR (sV (vF rfl fa27_0 rfl) (sV (vY rfl ld22) ?_))))))))
  refine sV (vM rfl) (sV (v_build (cells := [.slice aj y.jobs.length cj, .slice va vn vc]) rfl (fun _ => by kernel_rfl)) ?_)
  refine st_stoW rfl rfl sz27 rfl rfl ?_
  refine sN (nK [2] rfl (nT (cT ?_)))
  exact xt_retV (.cellN rfl ld27 rfl slq .nil) ⟨.slice va vn vc, H, rfl, rfl⟩ sbr
end
end Go.Wt
namespace Go.Ck
open Go
theorem vw_cap {b o n cp cp' : Nat} {E : TypeId} {sz : Nat} {rows : List (List Value)} {h : SH} (h1 : rows.length ≤ cp') (h2 : cp' ≤ cp) : Vw (VR (.slice (some ⟨b, o, none⟩) n cp) E sz rows :: h) (VR (.slice (some ⟨b, o, none⟩) n cp') E sz rows :: h) := fun w hh => by
 obtain ⟨⟨g1, g2⟩, g3, g4⟩ := hh
 refine ⟨⟨g1, ?_⟩, fun c ⟨_, _, _, hv⟩ => by cases hv; exact g3 _ ⟨_, _, _, rfl⟩, g4⟩
 rcases g2 with ⟨h3, _⟩ | ⟨b', o', c', pre, j, h3, hb, hp, hc1, hc2, hc3⟩
 ·cases h3
 ·cases h3
  exact .inr ⟨_, _, cp', pre, j, rfl, hb, hp, h1, by omega, Nat.le_trans (Nat.mul_le_mul_right _ h2) hc3⟩
end Go.Ck
namespace Go.Wt
open Go Go.Ck Go.Proofs Go.Proofs.YtboepbencndobaaGreat Fx
attribute [local irreducible] Go.Ck.Sub St Cd Xt Nx DrL LsW
section
set_option maxRecDepth 100000 in
theorem rqueueO_ct {pb po pc n B i : Nat} {jv : Value} {H : Nat → PH} {y : Yard} {h : Hold} (hy : YBd n B y) (hB : B ≤ 1000000) (hi : i < n) (hh : h.1 = (i : Int)) :
  Reads Tryz.prog 182 #[.agg #[jv, .slice (some ⟨pb, po, none⟩) n pc], .agg (holdC h).toArray] (YO (.slice (some ⟨pb, po, none⟩) n pc) n H y.pr) (.int .i64 (optI ((y.pr i).line h.2.1))) := by
 refine reads_YO (x := []) fun hok => ?_
 have hr := YO_row (S := Res.star (YO (.slice (some ⟨pb, po, none⟩) n pc) n H y.pr)) hok fun r hr a u h => rd_mem hr a u h
 have hl : i < ((List.range n).map y.pr).length := by simpa using hi
 have hg : ((List.range n).map y.pr)[i] = y.pr i := by simp
 have := rqueue_ct (jv := jv) (h := h) hr hl hh (by rw [hg]; have := (hy.pb i hi).lines; omega)
 rw [hg] at this
 exact this
def Proc.putl (p : Proc) (l : Line) : Proc := { p with lines := p.lines ++ [l], puts := p.puts ++ [l.key] }
set_option maxHeartbeats 1000000 in
set_option maxRecDepth 100000 in
theorem rputs_ct {pb po pc n B j : Nat} {jv asv : Value} {H : Nat → PH} {y : Yard} {l : Line} (hy : YBd n B y) (hB : B ≤ 1000000) (hj : j < n) (hj1 : jv.oneCell' = true) :
  Ct Tryz.prog 158 #[.agg #[jv, .slice (some ⟨pb, po, none⟩) n pc], .int .i64 j, .agg (lC asv l).toArray] (VR asv 117 2 (l.asks.map aC) :: YO (.slice (some ⟨pb, po, none⟩) n pc) n H y.pr) fun u h' => u = .tuple #[] ∧ ∃ H', h' = YO (.slice (some ⟨pb, po, none⟩) n pc) n H' (y.put j ((y.pr j).putl l)).pr := by
 have hlen := hy.len
 refine ct_of (n := 35) Tryz.func158 rfl rfl (len rfl) fun hr w0 => ?_
 simp only [List.cons_append]
 refine cS (cR (st_bx rfl rfl fun b3 => ?_))
 refine st_bx rfl rfl fun b5 => ?_
 refine sN (nK [1, 3, 5] rfl (nT (cS (cd_rowf (v := asv) slq fun aa ac hav _ _ => ?_))))
 rw [List.length_map] at hav
 subst hav
 refine cd_pv (pv_focus hj) ?_
 have hpj := hy.pb j hj
 generalize hG : H j = G
 generalize hp : y.pr j = q at hpj ⊢
 obtain ⟨q1, q2, _, _, _, _, _, _⟩ := hpj
 refine cd_ok (r := pureR (G.av.length = q.lines.length)) slq fun hpu => ?_
 have hal := pureR_ok hpu
 refine cd_draw (ork [(0, 2), (1, 1), (2, 2), (3, 2), (4, 1), (5, 2), (6, 2), (7, 2), (8, 1), (9, 1), (10, 0), (11, 0), (12, 2), (13, 2), (14, 0)] .nil) (fun i => !(Nat.beq i 14)) [pt b3 (cl [jv, .slice (some ⟨pb, po, none⟩) n pc] 27), FP (.slice (some ⟨pb, po, none⟩) n pc) n j H y.pr (hpC G q), pt b5 (cl (lC (.slice aa l.asks.length ac) l) 120)] mixed (by kernel_rfl) ?_
 refine dV rfl (vF rfl fa27_1 rfl) (dr_v rfl (vY rfl ld25) ?_)
 refine dV rfl (vM rfl) (dV rfl (vF rfl fa27_1 rfl) (dr_v rfl (vY rfl ld25) ?_))
 refine dV rfl (vM rfl) (dV rfl (vI (k := j) rfl rfl sl25 rfl hj rfl) (dV rfl (vF rfl fa77_0 rfl) (dr_v rfl (vY rfl ld73) ?_)))
 refine dr_v rfl (v_ldn rfl ld120 rfl rds_pt) ?_
 refine dr_eff rfl (st_buildSlice (cells := lC (.slice aa l.asks.length ac) l) rfl Tryz.underlying73 inf120 rfl rfl (by kernel_rfl) (ltn rfl) fun b16 => dr_nx ?_)
 refine dr_eff rfl (st_app (v := G.lv) [lC (.slice aa l.asks.length ac) l] rfl rfl Tryz.underlying73 inf120 rfl (by decide) slq (by simp [lC]) rfl (fun j u2 hu2 => at_here (rd_cl (by simpa using hu2))) (by simp [lC, Value.oneCell']) (by simp [lrows]; omega) (by simp [lrows]; omega) (ltn rfl) fun v' hv' _ => dr_nx ?_)
 refine dV rfl (vI (k := j) rfl rfl sl25 rfl hj rfl) (dV rfl (vF rfl fa77_0 rfl) (dr_eff rfl (st_fp (k := 0) (cells' := hpC { G with lv := v' } q) rfl rfl sz73 hv' hj (by decide) rfl slq (dr_nx ?_))))
 refine dr_nil (nK [1, 3, 5] rfl (nT (cd_draw (ork [(0, 2), (1, 1), (2, 2), (3, 2), (4, 1), (5, 2), (6, 2), (7, 2), (8, 1), (9, 2), (10, 1), (11, 0), (12, 0), (13, 2), (14, 2), (15, 0)] .nil) (fun i => !(Nat.beq i 15)) [pt b3 (cl [jv, .slice (some ⟨pb, po, none⟩) n pc] 27), FP (.slice (some ⟨pb, po, none⟩) n pc) n j H y.pr (hpC { G with lv := v' } q), pt b5 (cl (lC (.slice aa l.asks.length ac) l) 120)] mixed (by kernel_rfl) ?_)))
 refine dV rfl (vF rfl fa27_1 rfl) (dr_v rfl (vY rfl ld25) ?_)
 refine dV rfl (vM rfl) (dV rfl (vF rfl fa27_1 rfl) (dr_v rfl (vY rfl ld25) ?_))
 refine dV rfl (vM rfl) (dV rfl (vI (k := j) rfl rfl sl25 rfl hj rfl) (dV rfl (vF rfl fa77_1 rfl) (dr_v rfl (vY rfl ld74) ?_)))
 refine dV rfl (vF rfl fa120_0 rfl) (dr_v rfl (v_ldn (vs := kC l.key) rfl ld79 rfl (rds_sub rds_pt rfl)) ?_)
 refine dr_eff rfl (st_buildSlice (cells := kC l.key) rfl Tryz.underlying74 inf79 rfl rfl (by kernel_rfl) (ltn rfl) fun b31 => dr_nx ?_)
 refine dr_eff rfl (st_app (v := G.pv) [kC l.key] rfl rfl Tryz.underlying74 inf79 rfl (by decide) slq (by simp [kC]) rfl (fun j u2 hu2 => at_here (rd_cl (by simpa using hu2))) (by simp [kC, Value.oneCell']) (by simp; omega) (by simp; omega) (ltn rfl) fun v2 hv2 _ => dr_nx ?_)
 refine dV rfl (vI (k := j) rfl rfl sl25 rfl hj rfl) (dV rfl (vF rfl fa77_1 rfl) (dr_eff rfl (st_fp (k := 1) (cells' := hpC { G with lv := v', pv := v2 } q) rfl rfl sz74 hv2 hj (by decide) rfl slq (dr_nx ?_))))
 refine dr_nil (nK [] rfl (nx_xt ?_))
 rw [lrows_snoc hal, map_snoc]
 refine xt_pv (pv_snoc (L := arows G.av q.lines) (r := VR (.slice aa l.asks.length ac) 117 2 (l.asks.map aC))) ?_
 have e1 : arows G.av q.lines ++ [VR (.slice aa l.asks.length ac) 117 2 (l.asks.map aC)] = arows (G.av ++ [.slice aa l.asks.length ac]) (q.lines ++ [l]) := (arows_snoc (l := l) hal).symm
 rw [e1]
 refine xt_pv (pv_add (triv_pure (φ := (G.av ++ [(.slice aa l.asks.length ac : Value)]).length = (q.lines ++ [l]).length) (by simp [hal]))) ?_
 refine xt_pv (pv_unfocus (G := ⟨v', v2, G.hv, G.dv, G.av ++ [.slice aa l.asks.length ac]⟩) (p := q.putl l) hlen hj) ?_
 exact xt_en rfl ⟨rfl, _, rfl⟩ sbq
end
end Go.Wt
namespace Go.Wt
open Go Go.Ck Go.Proofs Go.Proofs.YtboepbencndobaaGreat Fx
attribute [local irreducible] Go.Ck.Sub St Cd Xt Nx DrL LsW
section
set_option maxHeartbeats 2000000 in
set_option maxRecDepth 100000 in
theorem rleave_ct {pb po pc n B i : Nat} {jv : Value} {H : Nat → PH} {y : Yard} (hy : YBd n B y) (hB : B ≤ 1000000) (hi : i < n) (hne : (y.pr i).holds ≠ []) (hj1 : jv.oneCell' = true) :
  Ct Tryz.prog 159 #[.agg #[jv, .slice (some ⟨pb, po, none⟩) n pc], .int .i64 i] (YO (.slice (some ⟨pb, po, none⟩) n pc) n H y.pr) fun u h' => u = .tuple #[] ∧ ∃ H', h' = YO (.slice (some ⟨pb, po, none⟩) n pc) n H' (y.leave i).pr := by
 have hlen := hy.len
 have hpi := hy.pb i hi
 refine ct_of (n := 57) Tryz.func159 rfl rfl (len rfl) fun hr w0 => ?_
 refine cS (cR (st_bx rfl rfl fun b2 => ?_))
 refine sN (nK [1, 2] rfl (nT (cS (cd_pv (pv_focus hi) ?_))))
 have hleave : y.leave i = match (y.pr i).holds.getLast? with
  | none => y
  | some h => (y.put i { y.pr i with holds := (y.pr i).holds.dropLast }).close h := rfl
 generalize hG : H i = G
 generalize hp : y.pr i = p at hpi hleave hne ⊢
 obtain ⟨lines, puts, job, at_, waited, holds, waits, made, did⟩ := p
 rcases List.eq_nil_or_concat holds with hh | ⟨ho, ⟨hsp, hky, hown⟩, hh⟩
 ·exact absurd hh hne
 ·skip
  rw [List.concat_eq_append] at hh
  subst hh
  have hl : y.leave i = (y.put i ⟨lines, puts, job, at_, waited, ho, waits, made, did⟩).close (hsp, hky, hown) := by
   rw [hleave]; simp
  rw [hl]
  have hhl : ho.length + 1 ≤ B := by have := hpi.holds; simpa using this
  have hy1 : YBd n B (y.put i ⟨lines, puts, job, at_, waited, ho, waits, made, did⟩) := hy.put (hpi.holds_le (l := ho) (by omega) fun x hx => hpi.hs x (by simp [hx]))
  have hsp1 := hpi.hs (hsp, hky, hown) (by simp)
  simp only at hsp1
  obtain ⟨sp, rfl⟩ := Int.eq_ofNat_of_zero_le hsp1.1
  have hsp2 : sp < n := by omega
  refine cd_row (v := G.hv) slq (fun _ h0 => by simp at h0) (fun hb ho2 hc hve hcl _ => ?_)
  simp only [List.length_map, List.length_append, List.length_singleton] at hve hcl
  have hrow : ((ho ++ [((sp : Int), hky, hown)]).map holdC)[ho.length]? = some (holdC ((sp : Int), hky, hown)) := by simp
  obtain ⟨lv, pv, hv, dv, av⟩ := G
  simp only at hve
  subst hve
  refine cR (sV (vF rfl fa27_1 rfl) (sV (vY rfl ld25) ?_))
  refine sV (vM rfl) (sV (vI (k := i) rfl rfl sl25 rfl hi rfl) (sV (vF rfl fa77_5 rfl) (sV (vY rfl ld75) ?_)))
  refine sV (v_len (congrArg some rfl) Tryz.underlying75) (sV (vA rfl) (sN (nK [1, 2, 4] rfl (nT (cS (cR (sV (vF rfl fa27_1 rfl) (sV (vY rfl ld25) ?_))))))))
  refine sV (vM rfl) (sV (vI (k := i) rfl rfl sl25 rfl hi rfl) (sV (vF rfl fa77_5 rfl) (sV (vY rfl ld75) ?_)))
  refine sV (vM rfl) (sV (v_sub rfl rfl (by unfold I64 at *; omega)) (sV (vI (k := ho.length) rfl rfl sl75 (by push_cast; omega) (by omega) rfl) ?_))
  refine sV (v_ldn rfl ld161 rfl (rds_vr hrow)) ?_
  refine st_alc al161 fun b5 => ?_
  refine st_stoW rfl rfl sz161 rfl rfl ?_
  refine sN (nK [1, 2, 4, 5] rfl (nT (cS (cd_drawh (ork [(0, 2), (1, 1), (2, 2), (3, 2), (4, 1), (5, 2), (6, 2), (7, 2), (8, 1), (9, 2), (10, 2), (11, 2), (12, 2), (13, 1), (14, 2), (15, 2), (16, 0)] .nil) (fun i => !(Nat.beq i 16)) mixed (by kernel_rfl) ?_))))
  refine dV rfl (vF rfl fa27_1 rfl) (dr_v rfl (vY rfl ld25) ?_)
  refine dV rfl (vM rfl) (dV rfl (vF rfl fa27_1 rfl) (dr_v rfl (vY rfl ld25) ?_))
  refine dV rfl (vM rfl) (dV rfl (vI (k := i) rfl rfl sl25 rfl hi rfl) (dV rfl (vF rfl fa77_5 rfl) (dr_v rfl (vY rfl ld75) ?_)))
  refine dV rfl (vM rfl) (dV rfl (v_sub rfl rfl (by unfold I64 at *; omega)) (dV rfl (vM rfl) (dV rfl (v_sub rfl rfl (by unfold I64 at *; omega)) (dr_v rfl (v_sliceHM (hi := ho.length) (mx := ho.length) rfl rfl rfl sl75 (by push_cast; omega) (by push_cast; omega) (Nat.le_refl _) (by omega)) ?_))))
  refine dV rfl (vI (k := i) rfl rfl sl25 rfl hi rfl) (dV rfl (vF rfl fa77_5 rfl) (dr_eff rfl (st_fp (k := 5) (cells' := pC lv pv (.slice (some ⟨hb, ho2, none⟩) ho.length ho.length) dv ⟨lines, puts, job, at_, waited, ho, waits, made, did⟩) rfl rfl sz75 rfl hi (by decide) rfl slq (dr_nx ?_))))
  refine dr_nil (nK [2, 5] rfl (nT (cS (cS ?_))))
  refine cd_pv (k := [VR (.slice (some ⟨hb, ho2, none⟩) (ho.length + 1) hc) 161 4 ((ho ++ [((sp : Int), hky, hown)]).map holdC)]) (k' := [VR (.slice (some ⟨hb, ho2, none⟩) ho.length ho.length) 161 4 (ho.map holdC)]) (fun t => by
   have h1 := vw_take (E := 161) (sz := 4) (b := hb) (o := ho2) (n := ho.length + 1) (cp := hc) (h := t) (rows := (ho ++ [((sp : Int), hky, hown)]).map holdC) (m := ho.length) (by simp)
   rw [List.map_append, List.take_left' (by simp)] at h1
   rw [List.map_append]
   exact fun w hw => vw_cap (by simp) (by omega) w (h1 w hw)) ?_
  refine cd_pv (pv_unfocus (y := y) (G := ⟨lv, pv, .slice (some ⟨hb, ho2, none⟩) ho.length ho.length, dv, av⟩) (p := ⟨lines, puts, job, at_, waited, ho, waits, made, did⟩) hlen hi) ?_
  generalize y.put i ⟨lines, puts, job, at_, waited, ho, waits, made, did⟩ = y1 at hy1 ⊢
  generalize upd H i ⟨lv, pv, .slice (some ⟨hb, ho2, none⟩) ho.length ho.length, dv, av⟩ = H1
  have hc1 : y1.close ((sp : Int), hky, hown) = if hown = true then y1 else match (y1.pr sp).line hky with
   | none => y1
   | some j => y1.put sp ((y1.pr sp).setl j { (y1.pr sp).lines.getD j Line.none with closed := true }) := rfl
  refine cR (sV (vF rfl fa161_2 rfl) (sV (vY rfl ld4) ?_))
  refine sN (nK [2, 5, 41] rfl (nT (cC rfl (fun ho3 => ?_) (fun ho3 => ?_))))
  ·skip
   rw [if_pos ho3] at hc1
   rw [hc1]
   refine cT (xR ?_)
   exact xt_rt rfl ⟨rfl, _, rfl⟩ sbq
  ·skip
   rw [if_neg (by rw [show hown = false from ho3]; decide)] at hc1
   refine cK (xT (cS (cR (sV (v_ldn rfl ld27 rfl rds_pt) ?_))))
   refine sV (v_ldn rfl ld161 rfl rds_pt) ?_
   refine st_clr rfl rfl en182 rfl (rqueueO_ct (h := ((sp : Int), hky, hown)) hy1 hB hsp2 rfl) ?_
   refine sV (vA rfl) (sN (nK [2, 5, 6] rfl (nT (cS (cR (sV (vM rfl) (sV (v_geq rfl rfl) (sN (nK [2, 5, 6, 46] rfl (nT ?_))))))))))
   cases hln : (y1.pr sp).line hky with
   | none =>
    rw [hln] at hc1
    simp only at hc1
    rw [hc1]
    refine cC rfl (fun hq => ?_) (fun hq => ?_)
    ·skip
     exact absurd (of_decide_eq_true hq) (by decide)
    ·skip
     refine cK ?_
     exact xt_en rfl ⟨rfl, _, rfl⟩ sbq
   | some j =>
    rw [hln] at hc1
    simp only at hc1
    rw [hc1]
    have hjl : j < (y1.pr sp).lines.length := by
     unfold Proc.line at hln
     exact (List.findIdx?_eq_some_iff_getElem.1 hln).1
    have hp1 := hy1.pb sp hsp2
    refine cC rfl (fun hq => ?_) (fun hq => ?_)
    ·skip
     refine cd_pv (pv_focus hsp2) ?_
     generalize hG1 : H1 sp = G1
     generalize hq1 : y1.pr sp = q at hjl hp1 ⊢
     obtain ⟨lv1, pv1, hv1, dv1, av1⟩ := G1
     refine cd_ok (r := pureR (av1.length = q.lines.length)) slq fun hpu => ?_
     have hal := pureR_ok hpu
     have hlr : (lrows av1 q.lines).length = q.lines.length := by simp [lrows, hal]
     refine cd_row (v := lv1) slq (fun _ h0 => by rw [h0] at hlr; simp at hlr; omega) (fun lb lo lc hve _ _ => ?_)
     rw [hlr] at hve
     subst hve
     have hlj : q.lines[j]? = some q.lines[j] := List.getElem?_eq_getElem hjl
     have haj : av1[j]? = some av1[j] := List.getElem?_eq_getElem (by omega)
     have hgd : q.lines.getD j Line.none = q.lines[j] := by rw [List.getD_eq_getElem?_getD, hlj]; rfl
     rw [hgd]
     generalize q.lines[j] = l at *
     refine cR (sV (vF rfl fa27_1 rfl) (sV (vY rfl ld25) ?_))
     refine sV (vF rfl fa161_0 rfl) (sV (vY rfl ld3) ?_)
     refine sV (vI (k := sp) rfl rfl sl25 rfl hsp2 rfl) (sV (vF rfl fa77_0 rfl) (sV (vY rfl ld73) ?_))
     refine sV (vM rfl) (sV (vI (k := j) rfl rfl sl73 rfl hjl rfl) (sV (vF rfl fa120_2 rfl) (st_vr (sz := 5) (m := j) (k := 3) rfl rfl sz4 rfl (lrows_at haj hlj) (by decide) (show _ = lrows av1 (q.lines.set j { l with closed := true }) from (lrows_setl (l := { l with closed := true }) hjl hal).trans (by rw [set_self haj])) slq ?_)))
     refine sN (nK [] rfl (nx_xt ?_))
     rw [← arows_same (avs := av1) (l' := { l with closed := true }) hlj rfl]
     refine xt_pv (pv_add (triv_pure (φ := av1.length = (q.lines.set j { l with closed := true }).length) (by simp [hal]))) ?_
     refine xt_pv (pv_unfocus (y := y1) (G := ⟨.slice (some ⟨lb, lo, none⟩) q.lines.length lc, pv1, hv1, dv1, av1⟩) (p := q.setl j { l with closed := true }) hy1.len hsp2) ?_
     exact xt_en rfl ⟨rfl, _, rfl⟩ sbq
    ·skip
     exact absurd (of_decide_eq_false hq) (by unfold optI; simp)
end
end Go.Wt
