/-
  FlatProof. No condition beyond the tied variables.
-/
import Derived.Test.YtknmacdbffgjgaaGreatDoorM31
import Derived.JoinedOf
set_option linter.unusedVariables false
set_option linter.unusedSimpArgs false
set_option maxRecDepth 100000
set_option maxHeartbeats 16000000
namespace Go.Proofs.YtknmacdbffgjgaaGreatDoor
open Go Go.RowKit Go.ChangeShapes Go.WideShapes Go.Ck Go.Fl Go.Hr
theorem dx {a b:Bool} (ha:a=true) (hb:b=true):(a && b)=true:=by rw [ha,hb]; rfl
theorem EE:(Rows.flatProofRow.wf (OpenSpec.ofChange Rows.flatProofSpec))=true:=Zz
theorem EF:(laidOutB Tryz.pinned.checked.prog)=true:=Zz
theorem EG:(mapsRowed Tryz.pinned.checked.prog)=true:=Zz
theorem EH:(Tryz.f9.params.all (Tryz.pinned.checked.prog.readableRec ·))=true:=Zz
theorem EI:(namedTie Tryz.pinned.checked.prog Rows.flatProofRow.named Rows.flatProofSpec.vars)=true:=Zz
theorem EJ:((Rows.flatProofRow.stops == []))=true:=Zz
theorem EK:((Tryz.pinned.checked.prog.stops == []))=true:=Zz
theorem EL:((Rows.flatProofRow.knobs == []))=true:=Zz
theorem EM:((Tryz.pinned.checked.prog.stopKnobs == []))=true:=Zz
theorem EN:((Rows.flatProofRow.inPlace == Tryz.pinned.checked.prog.inPlace 9))=true:=Zz
theorem Bj:((Rows.flatProofRow.unfollowed == Tryz.pinned.checked.prog.unfollowed 9))=true:=Zz
theorem Bl:((Rows.flatProofRow.recurses == Tryz.pinned.checked.prog.recurses 9))=true:=Zz
theorem Bn:((Rows.flatProofRow.named == Tryz.pinned.checked.prog.varsNamed 9))=true:=Zz
theorem Bo:((Rows.flatProofRow.maps == (Tryz.f9.params.toList++Rows.flatProofSpec.plain.varTypes Tryz.pinned.checked.prog).any (Tryz.pinned.checked.prog.mapsRec ·)))=true:=Zz
theorem Bp:((Rows.flatProofRow.ifaces == (Tryz.f9.params.toList++Rows.flatProofSpec.plain.varTypes Tryz.pinned.checked.prog).any (Tryz.pinned.checked.prog.ifacesRec ·)))=true:=Zz
theorem Bq:((Rows.flatProofRow.mapsOut == Tryz.pinned.checked.prog.mapsAmong Tryz.f9.resultTypes.toList))=true:=Zz
theorem Br:((Rows.flatProofRow.loops == (Tryz.f9.params.toList++Rows.flatProofSpec.plain.varTypes Tryz.pinned.checked.prog).any (Tryz.pinned.checked.prog.loopsFrom ·)))=true:=Zz
theorem Bt:((Rows.flatProofRow.wideKeys == (Tryz.f9.params.toList++Rows.flatProofSpec.plain.varTypes Tryz.pinned.checked.prog++Tryz.f9.resultTypes.toList).any (Tryz.pinned.checked.prog.wideKeysFrom ·)))=true:=Zz
theorem Bu:(Rows.flatProofSpec.vars.all (Tryz.pinned.checked.prog.varReadable ·))=true:=Zz
theorem Bv:(Tryz.f9.resultTypes.all (λt=>Tryz.pinned.checked.prog.readableRec t && decide (t<Tryz.pinned.checked.prog.types.size)))=true:=Zz
theorem Bw:((Rows.flatProofRow.ifacesOut == Tryz.f9.resultTypes.toList.any (Tryz.pinned.checked.prog.ifacesRec ·)))=true:=Zz
theorem Bz:((Rows.flatProofRow.loopsOut == Tryz.f9.resultTypes.toList.any (Tryz.pinned.checked.prog.loopsFrom ·)))=true:=Zz
theorem BA:((Rows.flatProofRow.plainKeys == Tryz.pinned.checked.prog.plainKeys))=true:=Zz
theorem BB:(Rows.flatProofRow.shortTexts.isNone)=true:=Zz
theorem BC:(Tryz.pinned.checked.prog.stopsHeard)=true:=Zz
theorem BD:(Tryz.pinned.checked.prog.mayEnter)=true:=Zz
theorem BF:((Rows.flatProofRow.lifted == Tryz.pinned.checked.prog.liftsFinal))=true:=Zz
theorem BG:((Tryz.pinned.checked.prog.make == some Rows.flatProofRow.make))=true:=Zz
theorem BH:((Rows.flatProofRow.kinds == (if Rows.flatProofRow.domain.isEmpty then [] else Tryz.f9.params.toList.map λt=>match Tryz.pinned.checked.prog.underlying t with | some (.int k)=>some k | _=>none)))=true:=Zz
theorem BI:((Rows.flatProofRow.pinned == Rows.flatProofRow.pinnedBy))=true:=Zz
theorem BJ:((Rows.flatProofRow.veiled == (Tryz.f9.params.toList++Rows.flatProofSpec.plain.varTypes Tryz.pinned.checked.prog++Tryz.f9.resultTypes.toList).any (Tryz.pinned.checked.prog.veiledRec ·)))=true:=Zz
theorem BK:(Rows.flatProofRow.veiledFits Tryz.pinned.checked.prog Tryz.f9.params.toList (Tryz.f9.params.toList++Rows.flatProofSpec.plain.varTypes Tryz.pinned.checked.prog++Tryz.f9.resultTypes.toList))=true:=Zz
theorem xA:joinedFacts Tryz.pinned.checked.prog 9 Tryz.f9 Rows.flatProofSpec Rows.flatProofRow=true:=by
 unfold joinedFacts
 exact (dx (dx (dx (dx (dx (dx (dx (dx (dx (dx (dx (dx (dx (dx (dx (dx (dx (dx (dx (dx (dx (dx (dx (dx (dx (dx (dx (dx (dx (dx (dx EE EF) EG) EH) EI) EJ) EK) EL) EM) EN) Bj) Bl) Bn) Bo) Bp) Bq) Br) Bt) Bu) Bv) Bw) Bz) BA) BB) BC) BD) BF) BG) BH) BI) BJ) BK)
theorem qz:Tryz.pinned.checked.prog.funcNamed Rows.flatProofRow.func=some 9:=Zz
theorem AR:Rows.FlatProofSaid :=
 OpenClaim.holds_of_wide 9 Tryz.f9 rfl rfl rfl rfl rfl rfl rfl ⟨rfl,rfl,rfl,rfl,rfl⟩ rfl rfl rfl rfl rfl qz Tryz.func9 xA
  (of_decide_eq_true Zz) (by unfold Func.isWrapper; first | (rw [if_pos (by decide +kernel)]; kernel_rfl) | (rw [if_neg (by decide +kernel)]; exact ⟨rfl,rfl⟩))
  (λos started H enc _=>xz os started H enc)
end Go.Proofs.YtknmacdbffgjgaaGreatDoor
