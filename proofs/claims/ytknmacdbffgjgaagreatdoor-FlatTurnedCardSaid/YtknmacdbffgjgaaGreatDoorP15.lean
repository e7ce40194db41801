/-
  FlatTurned. No condition beyond the tied variables.
-/
import Derived.Test.YtknmacdbffgjgaaGreatDoorP14
import Derived.JoinedOf
set_option linter.unusedVariables false
set_option linter.unusedSimpArgs false
set_option maxRecDepth 100000
set_option maxHeartbeats 16000000
namespace Go.Proofs.YtknmacdbffgjgaaGreatDoor
open Go Go.RowKit Go.ChangeShapes Go.WideShapes Go.Ck Go.Fl Go.Hr
theorem dH {a b:Bool} (ha:a=true) (hb:b=true):(a && b)=true:=by rw [ha,hb]; rfl
theorem Cs:(Rows.flatTurnedRow.wf (OpenSpec.ofChange Rows.flatTurnedSpec))=true:=Zz
theorem Cu:(laidOutB Tryz.pinned.checked.prog)=true:=Zz
theorem Cv:(mapsRowed Tryz.pinned.checked.prog)=true:=Zz
theorem Cw:(Tryz.f7.params.all (Tryz.pinned.checked.prog.readableRec ·))=true:=Zz
theorem Cy:(namedTie Tryz.pinned.checked.prog Rows.flatTurnedRow.named Rows.flatTurnedSpec.vars)=true:=Zz
theorem Cz:((Rows.flatTurnedRow.stops == []))=true:=Zz
theorem CB:((Tryz.pinned.checked.prog.stops == []))=true:=Zz
theorem CE:((Rows.flatTurnedRow.knobs == []))=true:=Zz
theorem CF:((Tryz.pinned.checked.prog.stopKnobs == []))=true:=Zz
theorem CG:((Rows.flatTurnedRow.inPlace == Tryz.pinned.checked.prog.inPlace 7))=true:=Zz
theorem Bu:((Rows.flatTurnedRow.unfollowed == Tryz.pinned.checked.prog.unfollowed 7))=true:=Zz
theorem Bv:((Rows.flatTurnedRow.recurses == Tryz.pinned.checked.prog.recurses 7))=true:=Zz
theorem Bw:((Rows.flatTurnedRow.named == Tryz.pinned.checked.prog.varsNamed 7))=true:=Zz
theorem Bz:((Rows.flatTurnedRow.maps == (Tryz.f7.params.toList++Rows.flatTurnedSpec.plain.varTypes Tryz.pinned.checked.prog).any (Tryz.pinned.checked.prog.mapsRec ·)))=true:=Zz
theorem BA:((Rows.flatTurnedRow.ifaces == (Tryz.f7.params.toList++Rows.flatTurnedSpec.plain.varTypes Tryz.pinned.checked.prog).any (Tryz.pinned.checked.prog.ifacesRec ·)))=true:=Zz
theorem BB:((Rows.flatTurnedRow.mapsOut == Tryz.pinned.checked.prog.mapsAmong Tryz.f7.resultTypes.toList))=true:=Zz
theorem BC:((Rows.flatTurnedRow.loops == (Tryz.f7.params.toList++Rows.flatTurnedSpec.plain.varTypes Tryz.pinned.checked.prog).any (Tryz.pinned.checked.prog.loopsFrom ·)))=true:=Zz
theorem BD:((Rows.flatTurnedRow.wideKeys == (Tryz.f7.params.toList++Rows.flatTurnedSpec.plain.varTypes Tryz.pinned.checked.prog++Tryz.f7.resultTypes.toList).any (Tryz.pinned.checked.prog.wideKeysFrom ·)))=true:=Zz
theorem BF:(Rows.flatTurnedSpec.vars.all (Tryz.pinned.checked.prog.varReadable ·))=true:=Zz
theorem BG:(Tryz.f7.resultTypes.all (λt=>Tryz.pinned.checked.prog.readableRec t && decide (t<Tryz.pinned.checked.prog.types.size)))=true:=Zz
theorem BH:((Rows.flatTurnedRow.ifacesOut == Tryz.f7.resultTypes.toList.any (Tryz.pinned.checked.prog.ifacesRec ·)))=true:=Zz
theorem BI:((Rows.flatTurnedRow.loopsOut == Tryz.f7.resultTypes.toList.any (Tryz.pinned.checked.prog.loopsFrom ·)))=true:=Zz
theorem BJ:((Rows.flatTurnedRow.plainKeys == Tryz.pinned.checked.prog.plainKeys))=true:=Zz
theorem BK:(Rows.flatTurnedRow.shortTexts.isNone)=true:=Zz
theorem BL:(Tryz.pinned.checked.prog.stopsHeard)=true:=Zz
theorem BM:(Tryz.pinned.checked.prog.mayEnter)=true:=Zz
theorem BP:((Rows.flatTurnedRow.lifted == Tryz.pinned.checked.prog.liftsFinal))=true:=Zz
theorem BQ:((Tryz.pinned.checked.prog.make == some Rows.flatTurnedRow.make))=true:=Zz
theorem BR:((Rows.flatTurnedRow.kinds == (if Rows.flatTurnedRow.domain.isEmpty then [] else Tryz.f7.params.toList.map λt=>match Tryz.pinned.checked.prog.underlying t with | some (.int k)=>some k | _=>none)))=true:=Zz
theorem BS:((Rows.flatTurnedRow.pinned == Rows.flatTurnedRow.pinnedBy))=true:=Zz
theorem BU:((Rows.flatTurnedRow.veiled == (Tryz.f7.params.toList++Rows.flatTurnedSpec.plain.varTypes Tryz.pinned.checked.prog++Tryz.f7.resultTypes.toList).any (Tryz.pinned.checked.prog.veiledRec ·)))=true:=Zz
theorem BV:(Rows.flatTurnedRow.veiledFits Tryz.pinned.checked.prog Tryz.f7.params.toList (Tryz.f7.params.toList++Rows.flatTurnedSpec.plain.varTypes Tryz.pinned.checked.prog++Tryz.f7.resultTypes.toList))=true:=Zz
theorem wG:joinedFacts Tryz.pinned.checked.prog 7 Tryz.f7 Rows.flatTurnedSpec Rows.flatTurnedRow=true:=by
 unfold joinedFacts
 exact (dH (dH (dH (dH (dH (dH (dH (dH (dH (dH (dH (dH (dH (dH (dH (dH (dH (dH (dH (dH (dH (dH (dH (dH (dH (dH (dH (dH (dH (dH (dH Cs Cu) Cv) Cw) Cy) Cz) CB) CE) CF) CG) Bu) Bv) Bw) Bz) BA) BB) BC) BD) BF) BG) BH) BI) BJ) BK) BL) BM) BP) BQ) BR) BS) BU) BV)
theorem pG:Tryz.pinned.checked.prog.funcNamed Rows.flatTurnedRow.func=some 7:=Zz
theorem yQ:Rows.FlatTurnedSaid :=
 OpenClaim.holds_of_wide 7 Tryz.f7 rfl rfl rfl rfl rfl rfl rfl ⟨rfl,rfl,rfl,rfl,rfl⟩ rfl rfl rfl rfl rfl pG Tryz.func7 wG
  (of_decide_eq_true Zz) (by unfold Func.isWrapper; first | (rw [if_pos (by decide +kernel)]; kernel_rfl) | (rw [if_neg (by decide +kernel)]; exact ⟨rfl,rfl⟩))
  (λos started H enc _=>wF os started H enc)
end Go.Proofs.YtknmacdbffgjgaaGreatDoor
