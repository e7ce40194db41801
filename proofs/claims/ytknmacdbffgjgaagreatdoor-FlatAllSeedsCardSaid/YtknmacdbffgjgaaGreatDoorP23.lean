/-
  FlatAllSeeds. No condition beyond the tied variables.
-/
import Derived.Test.YtknmacdbffgjgaaGreatDoorP22
import Derived.JoinedOf
set_option linter.unusedVariables false
set_option linter.unusedSimpArgs false
set_option maxRecDepth 100000
set_option maxHeartbeats 16000000
namespace Go.Proofs.YtknmacdbffgjgaaGreatDoor
open Go Go.RowKit Go.ChangeShapes Go.WideShapes Go.Ck Go.Fl Go.Hr
theorem dn {a b:Bool} (ha:a=true) (hb:b=true):(a && b)=true:=by rw [ha,hb]; rfl
theorem yK:(Rows.flatAllSeedsRow.wf (OpenSpec.ofChange Rows.flatAllSeedsSpec))=true:=Zz
theorem yL:(laidOutB Tryz.pinned.checked.prog)=true:=Zz
theorem yM:(mapsRowed Tryz.pinned.checked.prog)=true:=Zz
theorem yN:(Tryz.f8.params.all (Tryz.pinned.checked.prog.readableRec ·))=true:=Zz
theorem yO:(namedTie Tryz.pinned.checked.prog Rows.flatAllSeedsRow.named Rows.flatAllSeedsSpec.vars)=true:=Zz
theorem yP:((Rows.flatAllSeedsRow.stops == []))=true:=Zz
theorem yQ:((Tryz.pinned.checked.prog.stops == []))=true:=Zz
theorem yR:((Rows.flatAllSeedsRow.knobs == []))=true:=Zz
theorem yS:((Tryz.pinned.checked.prog.stopKnobs == []))=true:=Zz
theorem yT:((Rows.flatAllSeedsRow.inPlace == Tryz.pinned.checked.prog.inPlace 8))=true:=Zz
theorem wX:((Rows.flatAllSeedsRow.unfollowed == Tryz.pinned.checked.prog.unfollowed 8))=true:=Zz
theorem wY:((Rows.flatAllSeedsRow.recurses == Tryz.pinned.checked.prog.recurses 8))=true:=Zz
theorem wZ:((Rows.flatAllSeedsRow.named == Tryz.pinned.checked.prog.varsNamed 8))=true:=Zz
theorem w9:((Rows.flatAllSeedsRow.maps == (Tryz.f8.params.toList++Rows.flatAllSeedsSpec.plain.varTypes Tryz.pinned.checked.prog).any (Tryz.pinned.checked.prog.mapsRec ·)))=true:=Zz
theorem xe:((Rows.flatAllSeedsRow.ifaces == (Tryz.f8.params.toList++Rows.flatAllSeedsSpec.plain.varTypes Tryz.pinned.checked.prog).any (Tryz.pinned.checked.prog.ifacesRec ·)))=true:=Zz
theorem xg:((Rows.flatAllSeedsRow.mapsOut == Tryz.pinned.checked.prog.mapsAmong Tryz.f8.resultTypes.toList))=true:=Zz
theorem xh:((Rows.flatAllSeedsRow.loops == (Tryz.f8.params.toList++Rows.flatAllSeedsSpec.plain.varTypes Tryz.pinned.checked.prog).any (Tryz.pinned.checked.prog.loopsFrom ·)))=true:=Zz
theorem xk:((Rows.flatAllSeedsRow.wideKeys == (Tryz.f8.params.toList++Rows.flatAllSeedsSpec.plain.varTypes Tryz.pinned.checked.prog++Tryz.f8.resultTypes.toList).any (Tryz.pinned.checked.prog.wideKeysFrom ·)))=true:=Zz
theorem xn:(Rows.flatAllSeedsSpec.vars.all (Tryz.pinned.checked.prog.varReadable ·))=true:=Zz
theorem xq:(Tryz.f8.resultTypes.all (λt=>Tryz.pinned.checked.prog.readableRec t && decide (t<Tryz.pinned.checked.prog.types.size)))=true:=Zz
theorem xu:((Rows.flatAllSeedsRow.ifacesOut == Tryz.f8.resultTypes.toList.any (Tryz.pinned.checked.prog.ifacesRec ·)))=true:=Zz
theorem xw:((Rows.flatAllSeedsRow.loopsOut == Tryz.f8.resultTypes.toList.any (Tryz.pinned.checked.prog.loopsFrom ·)))=true:=Zz
theorem xx:((Rows.flatAllSeedsRow.plainKeys == Tryz.pinned.checked.prog.plainKeys))=true:=Zz
theorem xz:(Rows.flatAllSeedsRow.shortTexts.isNone)=true:=Zz
theorem xA:(Tryz.pinned.checked.prog.stopsHeard)=true:=Zz
theorem xC:(Tryz.pinned.checked.prog.mayEnter)=true:=Zz
theorem xD:((Rows.flatAllSeedsRow.lifted == Tryz.pinned.checked.prog.liftsFinal))=true:=Zz
theorem xG:((Tryz.pinned.checked.prog.make == some Rows.flatAllSeedsRow.make))=true:=Zz
theorem xH:((Rows.flatAllSeedsRow.kinds == (if Rows.flatAllSeedsRow.domain.isEmpty then [] else Tryz.f8.params.toList.map λt=>match Tryz.pinned.checked.prog.underlying t with | some (.int k)=>some k | _=>none)))=true:=Zz
theorem xI:((Rows.flatAllSeedsRow.pinned == Rows.flatAllSeedsRow.pinnedBy))=true:=Zz
theorem xJ:((Rows.flatAllSeedsRow.veiled == (Tryz.f8.params.toList++Rows.flatAllSeedsSpec.plain.varTypes Tryz.pinned.checked.prog++Tryz.f8.resultTypes.toList).any (Tryz.pinned.checked.prog.veiledRec ·)))=true:=Zz
theorem xK:(Rows.flatAllSeedsRow.veiledFits Tryz.pinned.checked.prog Tryz.f8.params.toList (Tryz.f8.params.toList++Rows.flatAllSeedsSpec.plain.varTypes Tryz.pinned.checked.prog++Tryz.f8.resultTypes.toList))=true:=Zz
theorem rW:joinedFacts Tryz.pinned.checked.prog 8 Tryz.f8 Rows.flatAllSeedsSpec Rows.flatAllSeedsRow=true:=by
 unfold joinedFacts
 exact (dn (dn (dn (dn (dn (dn (dn (dn (dn (dn (dn (dn (dn (dn (dn (dn (dn (dn (dn (dn (dn (dn (dn (dn (dn (dn (dn (dn (dn (dn (dn yK yL) yM) yN) yO) yP) yQ) yR) yS) yT) wX) wY) wZ) w9) xe) xg) xh) xk) xn) xq) xu) xw) xx) xz) xA) xC) xD) xG) xH) xI) xJ) xK)
theorem lX:Tryz.pinned.checked.prog.funcNamed Rows.flatAllSeedsRow.func=some 8:=Zz
theorem vS:Rows.FlatAllSeedsSaid :=
 OpenClaim.holds_of_wide 8 Tryz.f8 rfl rfl rfl rfl rfl rfl rfl ⟨rfl,rfl,rfl,rfl,rfl⟩ rfl rfl rfl rfl rfl lX Tryz.func8 rW
  (of_decide_eq_true Zz) (by unfold Func.isWrapper; first | (rw [if_pos (by decide +kernel)]; kernel_rfl) | (rw [if_neg (by decide +kernel)]; exact ⟨rfl,rfl⟩))
  (λos started H enc _=>rV os started H enc)
end Go.Proofs.YtknmacdbffgjgaaGreatDoor
