/-
  FlatConflicts,as a tied card: for every input the law answers true,and the input reads as it did. No condition beyond the tied variables.
-/
import Derived.Test.YtknmacdbffgjgaaGreatDoorRows
import Derived.Test.YtknmacdbffgjgaaGreatDoorM28
import Derived.Test.YtknmacdbffgjgaaGreatDoorM30
import Derived.SizedLaws
set_option linter.unusedVariables false
set_option linter.unusedSimpArgs false
set_option maxRecDepth 100000
set_option maxHeartbeats 16000000
namespace Go.Proofs.YtknmacdbffgjgaaGreatDoor
open Go Go.RowKit Go.ChangeShapes Go.WideShapes Go.Ck Go.Fl Go.Hr
theorem q8 (os:Os) (started:os.Started) (H:Type) (enc:TypeId×Value→H) :
  ReturnsInHanded {} Tryz.checked os 3 .any (fun w args=>(Rows.flatConflictsSpec.pre enc Tryz.prog Tryz.f3 Rows.flatConflictsRow.domain false w args∧laidMetH Tryz.prog GQ w)∧sizedMet enc Tryz.prog Tryz.f3 (OpenSpec.ofChange Rows.flatConflictsSpec) false w args) (Rows.flatConflictsSpec.post enc Tryz.prog Tryz.f3 false true false false):=by
 refine returnsInHanded_of_change_and (C:=Tryz.checked) (X:=fun w _=>laidMetH Tryz.prog GQ w) (fun _ _ _ hh h=>h.of_heap hh) (show ownKnob Tryz.prog.godebug=none by kernel_rfl) started (by kernel_rfl) Tryz.func3
  (ChangeSpec.witness_shaped (enc:=enc) (C:=Tryz.checked) (os:=os) (X:=fun w _=>laidMetH Tryz.prog GQ w) false (World.doorLaid Tryz.prog 33 os) #[.slice none 0 0,.agg #[.int .i64 0,.string ⟨#[]⟩,.string ⟨#[]⟩,.string ⟨#[]⟩,.string ⟨#[]⟩,.string ⟨#[]⟩,.string ⟨#[]⟩,.string ⟨#[]⟩]] 8 rfl (World.shaped_of_RefB (by kernel_rfl) (by kernel_rfl)) (by kernel_rfl) (by kernel_rfl) (by kernel_rfl) (Om os _)) ?_
 intro W base args ds gs before hval0 hW _ hsz hL _
 have hval:∀ (j:Nat) t v,Tryz.f3.params[j]? = some t→args[j]? = some v→Value.okWide Tryz.prog W .any base t v:=hval0
 have hW':=hW
 obtain ⟨p,q,hA0,hV,rfl,hfz,hnd⟩:=hW
 have hA:DataW.TrodAll enc Tryz.prog W 0 (fun _=>true) true Tryz.f3.params.toList args.toList ds p:=hA0
 rw [Tryz.params3] at hA hval
 obtain ⟨v0,vs0,d0,ds0,p0,q0,hargs,rfl,rfl,h0,r0⟩:=trodAll_cons hA
 obtain ⟨v1,vs1,d1,ds1,p1,q1,rfl,rfl,rfl,h1,r1⟩:=trodAll_cons r0
 obtain ⟨rfl,rfl,rfl⟩:=trodAll_nil r1
 obtain rfl:args = #[v0,v1]:=by cases args; simp_all
 obtain ⟨rfl,rfl⟩:=trodVars_none hV
 have hz0:∀ n∈d0.weights Tryz.prog 22,n≤reachBytes:=fun n hn=>by
  have:=List.all_eq_true.1 hsz n (DataW.weights_mem_each (j:=0) (t:=22) (by rw [Tryz.params3]; rfl) rfl n hn)
  exact of_decide_eq_true this
 obtain ⟨n0,m0⟩:=gd_of h0 (cells_one (Hd (by kernel_rfl) (hval 0 22 v0 rfl rfl))) hz0
 have hz1:∀ n∈d1.weights Tryz.prog 26,n≤reachBytes:=fun n hn=>by
  have:=List.all_eq_true.1 hsz n (DataW.weights_mem_each (j:=1) (t:=26) (by rw [Tryz.params3]; rfl) rfl n hn)
  exact of_decide_eq_true this
 have g1:=He (Tryz.underlying26) (hval 1 26 v1 rfl rfl)
 obtain ⟨n1,m1⟩:=gd_of h1 rfl hz1
 clear hval
 obtain ⟨l0,s0,c0⟩:=L9 m0
 obtain ⟨x1,u1⟩:=Jd m1
 have c1:v1 = .agg (v1.cells.toList).toArray:=by rw [Array.toArray_toList]; exact g1
 rw [u1] at c1
 clear g1 m1 u1
 subst c1
 refine (Ma (xL (GR hL) s0 c0 x1)).mono fun e W' ⟨he,hk⟩=>⟨_,he,?_⟩
 exact Mc (tys:=[.slice (.any 7 partF),.any 8 partF]) hW' Z (by kernel_rfl) Tryz.underlying4 (by rw [Tryz.params3]; kernel_rfl) Z hk
end Go.Proofs.YtknmacdbffgjgaaGreatDoor
