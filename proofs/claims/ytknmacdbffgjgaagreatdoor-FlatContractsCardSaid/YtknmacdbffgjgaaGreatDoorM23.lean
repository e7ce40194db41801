/-
  FlatContracts. No condition beyond the tied variables.
-/
import Derived.Test.YtknmacdbffgjgaaGreatDoorM22
import Derived.JoinedOf
set_option linter.unusedVariables false
set_option linter.unusedSimpArgs false
set_option maxRecDepth 100000
set_option maxHeartbeats 16000000
namespace Go.Proofs.YtknmacdbffgjgaaGreatDoor
open Go Go.RowKit Go.ChangeShapes Go.WideShapes Go.Ck Go.Fl Go.Hr
theorem dn {a b:Bool} (ha:a=true) (hb:b=true):(a && b)=true:=by rw [ha,hb]; rfl
theorem xU:(Rows.flatContractsRow.wf (OpenSpec.ofChange Rows.flatContractsSpec))=true:=Zz
theorem xV:(laidOutB Tryz.pinned.checked.prog)=true:=Zz
theorem xX:(mapsRowed Tryz.pinned.checked.prog)=true:=Zz
theorem xZ:(Tryz.f6.params.all (Tryz.pinned.checked.prog.readableRec ·))=true:=Zz
theorem yf:(namedTie Tryz.pinned.checked.prog Rows.flatContractsRow.named Rows.flatContractsSpec.vars)=true:=Zz
theorem yg:((Rows.flatContractsRow.stops == []))=true:=Zz
theorem yh:((Tryz.pinned.checked.prog.stops == []))=true:=Zz
theorem yj:((Rows.flatContractsRow.knobs == []))=true:=Zz
theorem ym:((Tryz.pinned.checked.prog.stopKnobs == []))=true:=Zz
theorem yn:((Rows.flatContractsRow.inPlace == Tryz.pinned.checked.prog.inPlace 6))=true:=Zz
theorem wm:((Rows.flatContractsRow.unfollowed == Tryz.pinned.checked.prog.unfollowed 6))=true:=Zz
theorem wo:((Rows.flatContractsRow.recurses == Tryz.pinned.checked.prog.recurses 6))=true:=Zz
theorem wu:((Rows.flatContractsRow.named == Tryz.pinned.checked.prog.varsNamed 6))=true:=Zz
theorem ww:((Rows.flatContractsRow.maps == (Tryz.f6.params.toList++Rows.flatContractsSpec.plain.varTypes Tryz.pinned.checked.prog).any (Tryz.pinned.checked.prog.mapsRec ·)))=true:=Zz
theorem wy:((Rows.flatContractsRow.ifaces == (Tryz.f6.params.toList++Rows.flatContractsSpec.plain.varTypes Tryz.pinned.checked.prog).any (Tryz.pinned.checked.prog.ifacesRec ·)))=true:=Zz
theorem wz:((Rows.flatContractsRow.mapsOut == Tryz.pinned.checked.prog.mapsAmong Tryz.f6.resultTypes.toList))=true:=Zz
theorem wB:((Rows.flatContractsRow.loops == (Tryz.f6.params.toList++Rows.flatContractsSpec.plain.varTypes Tryz.pinned.checked.prog).any (Tryz.pinned.checked.prog.loopsFrom ·)))=true:=Zz
theorem wC:((Rows.flatContractsRow.wideKeys == (Tryz.f6.params.toList++Rows.flatContractsSpec.plain.varTypes Tryz.pinned.checked.prog++Tryz.f6.resultTypes.toList).any (Tryz.pinned.checked.prog.wideKeysFrom ·)))=true:=Zz
theorem wD:(Rows.flatContractsSpec.vars.all (Tryz.pinned.checked.prog.varReadable ·))=true:=Zz
theorem wE:(Tryz.f6.resultTypes.all (λt=>Tryz.pinned.checked.prog.readableRec t && decide (t<Tryz.pinned.checked.prog.types.size)))=true:=Zz
theorem wF:((Rows.flatContractsRow.ifacesOut == Tryz.f6.resultTypes.toList.any (Tryz.pinned.checked.prog.ifacesRec ·)))=true:=Zz
theorem wG:((Rows.flatContractsRow.loopsOut == Tryz.f6.resultTypes.toList.any (Tryz.pinned.checked.prog.loopsFrom ·)))=true:=Zz
theorem wH:((Rows.flatContractsRow.plainKeys == Tryz.pinned.checked.prog.plainKeys))=true:=Zz
theorem wI:(Rows.flatContractsRow.shortTexts.isNone)=true:=Zz
theorem wJ:(Tryz.pinned.checked.prog.stopsHeard)=true:=Zz
theorem wL:(Tryz.pinned.checked.prog.mayEnter)=true:=Zz
theorem wM:((Rows.flatContractsRow.lifted == Tryz.pinned.checked.prog.liftsFinal))=true:=Zz
theorem wN:((Tryz.pinned.checked.prog.make == some Rows.flatContractsRow.make))=true:=Zz
theorem wO:((Rows.flatContractsRow.kinds == (if Rows.flatContractsRow.domain.isEmpty then [] else Tryz.f6.params.toList.map λt=>match Tryz.pinned.checked.prog.underlying t with | some (.int k)=>some k | _=>none)))=true:=Zz
theorem wP:((Rows.flatContractsRow.pinned == Rows.flatContractsRow.pinnedBy))=true:=Zz
theorem wQ:((Rows.flatContractsRow.veiled == (Tryz.f6.params.toList++Rows.flatContractsSpec.plain.varTypes Tryz.pinned.checked.prog++Tryz.f6.resultTypes.toList).any (Tryz.pinned.checked.prog.veiledRec ·)))=true:=Zz
theorem wR:(Rows.flatContractsRow.veiledFits Tryz.pinned.checked.prog Tryz.f6.params.toList (Tryz.f6.params.toList++Rows.flatContractsSpec.plain.varTypes Tryz.pinned.checked.prog++Tryz.f6.resultTypes.toList))=true:=Zz
theorem rH:joinedFacts Tryz.pinned.checked.prog 6 Tryz.f6 Rows.flatContractsSpec Rows.flatContractsRow=true:=by
 unfold joinedFacts
 exact (dn (dn (dn (dn (dn (dn (dn (dn (dn (dn (dn (dn (dn (dn (dn (dn (dn (dn (dn (dn (dn (dn (dn (dn (dn (dn (dn (dn (dn (dn (dn xU xV) xX) xZ) yf) yg) yh) yj) ym) yn) wm) wo) wu) ww) wy) wz) wB) wC) wD) wE) wF) wG) wH) wI) wJ) wL) wM) wN) wO) wP) wQ) wR)
theorem kJ:Tryz.pinned.checked.prog.funcNamed Rows.flatContractsRow.func=some 6:=Zz
theorem uE:Rows.FlatContractsSaid :=
 OpenClaim.holds_of_wide 6 Tryz.f6 rfl rfl rfl rfl rfl rfl rfl ⟨rfl,rfl,rfl,rfl,rfl⟩ rfl rfl rfl rfl rfl kJ Tryz.func6 rH
  (of_decide_eq_true Zz) (by unfold Func.isWrapper; first | (rw [if_pos (by decide +kernel)]; kernel_rfl) | (rw [if_neg (by decide +kernel)]; exact ⟨rfl,rfl⟩))
  (λos started H enc _=>rG os started H enc)
end Go.Proofs.YtknmacdbffgjgaaGreatDoor
