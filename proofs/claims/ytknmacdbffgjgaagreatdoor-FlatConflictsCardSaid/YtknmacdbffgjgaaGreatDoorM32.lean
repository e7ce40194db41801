/-
  FlatConflicts. No condition beyond the tied variables.
-/
import Derived.Test.YtknmacdbffgjgaaGreatDoorM31
import Derived.JoinedOf
set_option linter.unusedVariables false
set_option linter.unusedSimpArgs false
set_option maxRecDepth 100000
set_option maxHeartbeats 16000000
namespace Go.Proofs.YtknmacdbffgjgaaGreatDoor
open Go Go.RowKit Go.ChangeShapes Go.WideShapes Go.Ck Go.Fl Go.Hr
theorem dh {a b:Bool} (ha:a=true) (hb:b=true):(a && b)=true:=by rw [ha,hb]; rfl
theorem xM:(Rows.flatConflictsRow.wf (OpenSpec.ofChange Rows.flatConflictsSpec))=true:=by kernel_rfl
theorem xN:(laidOutB Tryz.pinned.checked.prog)=true:=by kernel_rfl
theorem xO:(mapsRowed Tryz.pinned.checked.prog)=true:=by kernel_rfl
theorem xP:(Tryz.f3.params.all (Tryz.pinned.checked.prog.readableRec ·))=true:=by kernel_rfl
theorem xQ:(namedTie Tryz.pinned.checked.prog Rows.flatConflictsRow.named Rows.flatConflictsSpec.vars)=true:=by kernel_rfl
theorem xS:((Rows.flatConflictsRow.stops == []))=true:=by kernel_rfl
theorem xU:((Tryz.pinned.checked.prog.stops == []))=true:=by kernel_rfl
theorem xV:((Rows.flatConflictsRow.knobs == []))=true:=by kernel_rfl
theorem xX:((Tryz.pinned.checked.prog.stopKnobs == []))=true:=by kernel_rfl
theorem xZ:((Rows.flatConflictsRow.inPlace == Tryz.pinned.checked.prog.inPlace 3))=true:=by kernel_rfl
theorem vT:((Rows.flatConflictsRow.unfollowed == Tryz.pinned.checked.prog.unfollowed 3))=true:=by kernel_rfl
theorem vU:((Rows.flatConflictsRow.recurses == Tryz.pinned.checked.prog.recurses 3))=true:=by kernel_rfl
theorem vV:((Rows.flatConflictsRow.named == Tryz.pinned.checked.prog.varsNamed 3))=true:=by kernel_rfl
theorem vW:((Rows.flatConflictsRow.maps == (Tryz.f3.params.toList++Rows.flatConflictsSpec.plain.varTypes Tryz.pinned.checked.prog).any (Tryz.pinned.checked.prog.mapsRec ·)))=true:=by kernel_rfl
theorem vX:((Rows.flatConflictsRow.ifaces == (Tryz.f3.params.toList++Rows.flatConflictsSpec.plain.varTypes Tryz.pinned.checked.prog).any (Tryz.pinned.checked.prog.ifacesRec ·)))=true:=by kernel_rfl
theorem vZ:((Rows.flatConflictsRow.mapsOut == Tryz.pinned.checked.prog.mapsAmong Tryz.f3.resultTypes.toList))=true:=by kernel_rfl
theorem wh:((Rows.flatConflictsRow.loops == (Tryz.f3.params.toList++Rows.flatConflictsSpec.plain.varTypes Tryz.pinned.checked.prog).any (Tryz.pinned.checked.prog.loopsFrom ·)))=true:=by kernel_rfl
theorem wm:((Rows.flatConflictsRow.wideKeys == (Tryz.f3.params.toList++Rows.flatConflictsSpec.plain.varTypes Tryz.pinned.checked.prog++Tryz.f3.resultTypes.toList).any (Tryz.pinned.checked.prog.wideKeysFrom ·)))=true:=by kernel_rfl
theorem wo:(Rows.flatConflictsSpec.vars.all (Tryz.pinned.checked.prog.varReadable ·))=true:=by kernel_rfl
theorem wu:(Tryz.f3.resultTypes.all (fun t=>Tryz.pinned.checked.prog.readableRec t && decide (t<Tryz.pinned.checked.prog.types.size)))=true:=by kernel_rfl
theorem ww:((Rows.flatConflictsRow.ifacesOut == Tryz.f3.resultTypes.toList.any (Tryz.pinned.checked.prog.ifacesRec ·)))=true:=by kernel_rfl
theorem wy:((Rows.flatConflictsRow.loopsOut == Tryz.f3.resultTypes.toList.any (Tryz.pinned.checked.prog.loopsFrom ·)))=true:=by kernel_rfl
theorem wz:((Rows.flatConflictsRow.plainKeys == Tryz.pinned.checked.prog.plainKeys))=true:=by kernel_rfl
theorem wB:(Rows.flatConflictsRow.shortTexts.isNone)=true:=by kernel_rfl
theorem wC:(Tryz.pinned.checked.prog.stopsHeard)=true:=by kernel_rfl
theorem wD:(Tryz.pinned.checked.prog.mayEnter)=true:=by kernel_rfl
theorem wE:((Rows.flatConflictsRow.lifted == Tryz.pinned.checked.prog.liftsFinal))=true:=by kernel_rfl
theorem wF:((Tryz.pinned.checked.prog.make == some Rows.flatConflictsRow.make))=true:=by kernel_rfl
theorem wG:((Rows.flatConflictsRow.kinds == (if Rows.flatConflictsRow.domain.isEmpty then [] else Tryz.f3.params.toList.map fun t=>match Tryz.pinned.checked.prog.underlying t with | some (.int k)=>some k | _=>none)))=true:=by kernel_rfl
theorem wH:((Rows.flatConflictsRow.pinned == Rows.flatConflictsRow.pinnedBy))=true:=by kernel_rfl
theorem wI:((Rows.flatConflictsRow.veiled == (Tryz.f3.params.toList++Rows.flatConflictsSpec.plain.varTypes Tryz.pinned.checked.prog++Tryz.f3.resultTypes.toList).any (Tryz.pinned.checked.prog.veiledRec ·)))=true:=by kernel_rfl
theorem wJ:(Rows.flatConflictsRow.veiledFits Tryz.pinned.checked.prog Tryz.f3.params.toList (Tryz.f3.params.toList++Rows.flatConflictsSpec.plain.varTypes Tryz.pinned.checked.prog++Tryz.f3.resultTypes.toList))=true:=by kernel_rfl
theorem q9:joinedFacts Tryz.pinned.checked.prog 3 Tryz.f3 Rows.flatConflictsSpec Rows.flatConflictsRow=true:=by
 unfold joinedFacts
 exact (dh (dh (dh (dh (dh (dh (dh (dh (dh (dh (dh (dh (dh (dh (dh (dh (dh (dh (dh (dh (dh (dh (dh (dh (dh (dh (dh (dh (dh (dh (dh xM xN) xO) xP) xQ) xS) xU) xV) xX) xZ) vT) vU) vV) vW) vX) vZ) wh) wm) wo) wu) ww) wy) wz) wB) wC) wD) wE) wF) wG) wH) wI) wJ)
theorem kF:Tryz.pinned.checked.prog.funcNamed Rows.flatConflictsRow.func=some 3:=by kernel_rfl
theorem ui:Rows.FlatConflictsSaid :=
 OpenClaim.holds_of_wide 3 Tryz.f3 rfl rfl rfl rfl rfl rfl rfl ⟨rfl,rfl,rfl,rfl,rfl⟩ rfl rfl rfl rfl rfl kF Tryz.func3 q9
  (of_decide_eq_true (by kernel_rfl)) (by unfold Func.isWrapper; first | (rw [if_pos (by decide +kernel)]; kernel_rfl) | (rw [if_neg (by decide +kernel)]; exact ⟨rfl,rfl⟩))
  (fun os started H enc _=>q8 os started H enc)
end Go.Proofs.YtknmacdbffgjgaaGreatDoor
