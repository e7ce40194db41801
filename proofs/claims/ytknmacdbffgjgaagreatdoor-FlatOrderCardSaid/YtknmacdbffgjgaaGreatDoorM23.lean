/-
  FlatOrder. No condition beyond the tied variables.
-/
import Derived.Test.YtknmacdbffgjgaaGreatDoorM22
import Derived.JoinedOf
set_option linter.unusedVariables false
set_option linter.unusedSimpArgs false
set_option maxRecDepth 100000
set_option maxHeartbeats 16000000
namespace Go.Proofs.YtknmacdbffgjgaaGreatDoor
open Go Go.RowKit Go.ChangeShapes Go.WideShapes Go.Ck Go.Fl Go.Hr
theorem dA {a b:Bool} (ha:a=true) (hb:b=true):(a && b)=true:=by rw [ha,hb]; rfl
theorem EN:(Rows.flatOrderRow.wf (OpenSpec.ofChange Rows.flatOrderSpec))=true:=Zz
theorem EO:(laidOutB Tryz.pinned.checked.prog)=true:=Zz
theorem EP:(mapsRowed Tryz.pinned.checked.prog)=true:=Zz
theorem EQ:(Tryz.f4.params.all (Tryz.pinned.checked.prog.readableRec ·))=true:=Zz
theorem ER:(namedTie Tryz.pinned.checked.prog Rows.flatOrderRow.named Rows.flatOrderSpec.vars)=true:=Zz
theorem ES:((Rows.flatOrderRow.stops == []))=true:=Zz
theorem ET:((Tryz.pinned.checked.prog.stops == []))=true:=Zz
theorem EU:((Rows.flatOrderRow.knobs == []))=true:=Zz
theorem EW:((Tryz.pinned.checked.prog.stopKnobs == []))=true:=Zz
theorem EX:((Rows.flatOrderRow.inPlace == Tryz.pinned.checked.prog.inPlace 4))=true:=Zz
theorem Bq:((Rows.flatOrderRow.unfollowed == Tryz.pinned.checked.prog.unfollowed 4))=true:=Zz
theorem Br:((Rows.flatOrderRow.recurses == Tryz.pinned.checked.prog.recurses 4))=true:=Zz
theorem Bt:((Rows.flatOrderRow.named == Tryz.pinned.checked.prog.varsNamed 4))=true:=Zz
theorem Bu:((Rows.flatOrderRow.maps == (Tryz.f4.params.toList++Rows.flatOrderSpec.plain.varTypes Tryz.pinned.checked.prog).any (Tryz.pinned.checked.prog.mapsRec ·)))=true:=Zz
theorem Bv:((Rows.flatOrderRow.ifaces == (Tryz.f4.params.toList++Rows.flatOrderSpec.plain.varTypes Tryz.pinned.checked.prog).any (Tryz.pinned.checked.prog.ifacesRec ·)))=true:=Zz
theorem Bw:((Rows.flatOrderRow.mapsOut == Tryz.pinned.checked.prog.mapsAmong Tryz.f4.resultTypes.toList))=true:=Zz
theorem Bz:((Rows.flatOrderRow.loops == (Tryz.f4.params.toList++Rows.flatOrderSpec.plain.varTypes Tryz.pinned.checked.prog).any (Tryz.pinned.checked.prog.loopsFrom ·)))=true:=Zz
theorem BA:((Rows.flatOrderRow.wideKeys == (Tryz.f4.params.toList++Rows.flatOrderSpec.plain.varTypes Tryz.pinned.checked.prog++Tryz.f4.resultTypes.toList).any (Tryz.pinned.checked.prog.wideKeysFrom ·)))=true:=Zz
theorem BB:(Rows.flatOrderSpec.vars.all (Tryz.pinned.checked.prog.varReadable ·))=true:=Zz
theorem BC:(Tryz.f4.resultTypes.all (λt=>Tryz.pinned.checked.prog.readableRec t && decide (t<Tryz.pinned.checked.prog.types.size)))=true:=Zz
theorem BD:((Rows.flatOrderRow.ifacesOut == Tryz.f4.resultTypes.toList.any (Tryz.pinned.checked.prog.ifacesRec ·)))=true:=Zz
theorem BF:((Rows.flatOrderRow.loopsOut == Tryz.f4.resultTypes.toList.any (Tryz.pinned.checked.prog.loopsFrom ·)))=true:=Zz
theorem BG:((Rows.flatOrderRow.plainKeys == Tryz.pinned.checked.prog.plainKeys))=true:=Zz
theorem BH:(Rows.flatOrderRow.shortTexts.isNone)=true:=Zz
theorem BI:(Tryz.pinned.checked.prog.stopsHeard)=true:=Zz
theorem BJ:(Tryz.pinned.checked.prog.mayEnter)=true:=Zz
theorem BK:((Rows.flatOrderRow.lifted == Tryz.pinned.checked.prog.liftsFinal))=true:=Zz
theorem BL:((Tryz.pinned.checked.prog.make == some Rows.flatOrderRow.make))=true:=Zz
theorem BM:((Rows.flatOrderRow.kinds == (if Rows.flatOrderRow.domain.isEmpty then [] else Tryz.f4.params.toList.map λt=>match Tryz.pinned.checked.prog.underlying t with | some (.int k)=>some k | _=>none)))=true:=Zz
theorem BP:((Rows.flatOrderRow.pinned == Rows.flatOrderRow.pinnedBy))=true:=Zz
theorem BQ:((Rows.flatOrderRow.veiled == (Tryz.f4.params.toList++Rows.flatOrderSpec.plain.varTypes Tryz.pinned.checked.prog++Tryz.f4.resultTypes.toList).any (Tryz.pinned.checked.prog.veiledRec ·)))=true:=Zz
theorem BR:(Rows.flatOrderRow.veiledFits Tryz.pinned.checked.prog Tryz.f4.params.toList (Tryz.f4.params.toList++Rows.flatOrderSpec.plain.varTypes Tryz.pinned.checked.prog++Tryz.f4.resultTypes.toList))=true:=Zz
theorem xz:joinedFacts Tryz.pinned.checked.prog 4 Tryz.f4 Rows.flatOrderSpec Rows.flatOrderRow=true:=by
 unfold joinedFacts
 exact (dA (dA (dA (dA (dA (dA (dA (dA (dA (dA (dA (dA (dA (dA (dA (dA (dA (dA (dA (dA (dA (dA (dA (dA (dA (dA (dA (dA (dA (dA (dA EN EO) EP) EQ) ER) ES) ET) EU) EW) EX) Bq) Br) Bt) Bu) Bv) Bw) Bz) BA) BB) BC) BD) BF) BG) BH) BI) BJ) BK) BL) BM) BP) BQ) BR)
theorem qw:Tryz.pinned.checked.prog.funcNamed Rows.flatOrderRow.func=some 4:=Zz
theorem A8:Rows.FlatOrderSaid :=
 OpenClaim.holds_of_wide 4 Tryz.f4 rfl rfl rfl rfl rfl rfl rfl ⟨rfl,rfl,rfl,rfl,rfl⟩ rfl rfl rfl rfl rfl qw Tryz.func4 xz
  (of_decide_eq_true Zz) (by unfold Func.isWrapper; first | (rw [if_pos (by decide +kernel)]; kernel_rfl) | (rw [if_neg (by decide +kernel)]; exact ⟨rfl,rfl⟩))
  (λos started H enc _=>xx os started H enc)
end Go.Proofs.YtknmacdbffgjgaaGreatDoor
