/-
  FlatTurned,as a tied card: for every input the law answers true,and the input reads as it did. No condition beyond the tied variables.
-/
import Derived.Test.YtknmacdbffgjgaaGreatDoorRows
import Derived.Test.YtknmacdbffgjgaaGreatDoorP13
import Derived.SizedLaws
set_option linter.unusedVariables false
set_option linter.unusedSimpArgs false
set_option maxRecDepth 100000
set_option maxHeartbeats 16000000
namespace Go.Proofs.YtknmacdbffgjgaaGreatDoor
open Go Go.RowKit Go.ChangeShapes Go.WideShapes Go.Ck Go.Fl Go.Hr
theorem wF (os:Os) (started:os.Started) (H:Type) (enc:TypeId×Value->H) :
  ReturnsInHanded {} Tryz.checked os 7 .any (λw args=>(Rows.flatTurnedSpec.pre enc Tryz.prog Tryz.f7 Rows.flatTurnedRow.domain false w args/\laidMetH Tryz.prog IC w)/\sizedMet enc Tryz.prog Tryz.f7 (OpenSpec.ofChange Rows.flatTurnedSpec) false w args) (Rows.flatTurnedSpec.post enc Tryz.prog Tryz.f7 false true false false):=by
 refine returnsInHanded_of_change_and (C:=Tryz.checked) (X:=λw _=>laidMetH Tryz.prog IC w) (λ_ _ _ hh h=>h.of_heap hh) (show ownKnob Tryz.prog.godebug=none by kernel_rfl) started Zz Tryz.func7
  (ChangeSpec.witness_shaped (enc:=enc) (C:=Tryz.checked) (os:=os) (X:=λw _=>laidMetH Tryz.prog IC w) false (World.doorLaid Tryz.prog 33 os) #[.slice none 0 0] 8 rfl (World.shaped_of_RefB Zz Zz) Zz Zz Zz (Ph os _)) ?_
 intro W base args ds gs before hval0 hW _ hsz hL _
 have hval:∀ (j:Nat) t v,Tryz.f7.params[j]? = some t->args[j]? = some v->Value.okWide Tryz.prog W .any base t v:=hval0
 have hW':=hW
 obtain ⟨p,q,hA0,hV,rfl,hfz,hnd⟩:=hW
 have hA:DataW.TrodAll enc Tryz.prog W 0 (λ_=>true) true Tryz.f7.params.toList args.toList ds p:=hA0
 rw [Tryz.params7] at hA hval
 obtain ⟨v0,vs0,d0,ds0,p0,q0,hargs,rfl,rfl,h0,r0⟩:=trodAll_cons hA
 obtain ⟨rfl,rfl,rfl⟩:=trodAll_nil r0
 obtain rfl:args = #[v0]:=by cases args; simp_all
 obtain ⟨rfl,rfl⟩:=trodVars_none hV
 have hz0:∀ n∈d0.weights Tryz.prog 22,n<=reachBytes:=λn hn=>by
  have:=List.all_eq_true.1 hsz n<|DataW.weights_mem_each (j:=0) (t:=22) (by rw [Tryz.params7]; rfl) rfl n hn
  exact of_decide_eq_true this
 obtain ⟨n0,m0⟩:=gd_of h0 (cells_one<|IU Zz<|hval 0 22 v0 rfl rfl) hz0
 clear hval
 obtain ⟨l0,s0,c0⟩:=M3 m0
 refine (M4<|Cr (IE hL) s0 c0).mono λe W' ⟨he,hk⟩=>⟨_,he,?_⟩
 exact M5 (tys:=[.slice (.any 7 partF)]) hW' Z Zz Tryz.underlying4 (by rw [Tryz.params7]; kernel_rfl) Z hk
end Go.Proofs.YtknmacdbffgjgaaGreatDoor
