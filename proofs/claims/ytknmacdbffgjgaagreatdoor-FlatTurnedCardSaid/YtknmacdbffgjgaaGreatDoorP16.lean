/-
  FlatTurned. No condition beyond the tied variables.
-/
import Derived.Test.YtknmacdbffgjgaaGreatDoorCards
import Derived.Test.YtknmacdbffgjgaaGreatDoorTie
import Derived.Test.YtknmacdbffgjgaaGreatDoorP15
import Derived.SevenTiedAt
set_option linter.unusedVariables false
set_option linter.unusedSimpArgs false
set_option maxRecDepth 100000
set_option maxHeartbeats 16000000
namespace Go.Proofs.YtknmacdbffgjgaaGreatDoor
open Go Go.RowKit Go.ChangeShapes Go.WideShapes Go.Ck Go.Fl Go.Hr
theorem CJ:Rows.flatTurnedRow.wfByText (OpenSpec.ofChange Rows.flatTurnedSpec)=true:=Zz
theorem yR : Tryz.pinned.checked.prog.mainIs = some ((true, "b3c11169216a9a39c8124190423c0826cbc5ba8a3212fe890d39a78fb2ff4d0c").1, (true, "b3c11169216a9a39c8124190423c0826cbc5ba8a3212fe890d39a78fb2ff4d0c").2.toList) := Zz
theorem xL:false=Tryz.pinned.checked.prog.looks []:=Zz
theorem xM:([22].all λu => !Tryz.prog.wantsStandIn u)=true:=Zz
theorem yS:false=Rows.flatTurnedRow.goesBy Tryz.pinned.checked.prog:=Zz
theorem flatTurned_holds : Rows.FlatTurnedCardSaid :=
 Claim7.holds_tied_plain_at .later [] [.listed, .data] true (true, "b3c11169216a9a39c8124190423c0826cbc5ba8a3212fe890d39a78fb2ff4d0c") false
  yQ (λ_ h=>by cases h) CJ (λ_ h=>by cases h) flatTurned_row_tie rfl ⟨rfl,rfl⟩ yR rfl
  (λf fn hf hfn=>by
   obtain rfl:f=7:=Option.some.inj (pG.symm.trans hf) |>.symm
   obtain rfl:fn=Tryz.f7:=(Option.some.inj<|Tryz.func7.symm.trans hfn).symm
   exact ⟨xL,λj t ht=>by
    rw [Tryz.params7] at ht
    have hm:t∈[22]:=by simpa using Array.mem_of_getElem? ht
    exact (show Tryz.prog.wantsStandIn t=false by simpa using List.all_eq_true.1 xM t hm)⟩)
  yS
end Go.Proofs.YtknmacdbffgjgaaGreatDoor
