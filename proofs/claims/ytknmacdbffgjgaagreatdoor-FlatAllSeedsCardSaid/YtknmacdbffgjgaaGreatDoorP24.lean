/-
  FlatAllSeeds. No condition beyond the tied variables.
-/
import Derived.Test.YtknmacdbffgjgaaGreatDoorCards
import Derived.Test.YtknmacdbffgjgaaGreatDoorTie
import Derived.Test.YtknmacdbffgjgaaGreatDoorP23
import Derived.SevenTiedAt
set_option linter.unusedVariables false
set_option linter.unusedSimpArgs false
set_option maxRecDepth 100000
set_option maxHeartbeats 16000000
namespace Go.Proofs.YtknmacdbffgjgaaGreatDoor
open Go Go.RowKit Go.ChangeShapes Go.WideShapes Go.Ck Go.Fl Go.Hr
theorem yU:Rows.flatAllSeedsRow.wfByText (OpenSpec.ofChange Rows.flatAllSeedsSpec)=true:=Zz
theorem vT : Tryz.pinned.checked.prog.mainIs = some ((true, "b3c11169216a9a39c8124190423c0826cbc5ba8a3212fe890d39a78fb2ff4d0c").1, (true, "b3c11169216a9a39c8124190423c0826cbc5ba8a3212fe890d39a78fb2ff4d0c").2.toList) := Zz
theorem um:false=Tryz.pinned.checked.prog.looks []:=Zz
theorem uq:([22,9,9,9,9].all λu => !Tryz.prog.wantsStandIn u)=true:=Zz
theorem vU:false=Rows.flatAllSeedsRow.goesBy Tryz.pinned.checked.prog:=Zz
theorem flatAllSeeds_holds : Rows.FlatAllSeedsCardSaid :=
 Claim7.holds_tied_plain_at .later [] [.listed, .data] true (true, "b3c11169216a9a39c8124190423c0826cbc5ba8a3212fe890d39a78fb2ff4d0c") false
  vS (λ_ h=>by cases h) yU (λ_ h=>by cases h) flatAllSeeds_row_tie rfl ⟨rfl,rfl⟩ vT rfl
  (λf fn hf hfn=>by
   obtain rfl:f=8:=Option.some.inj (lX.symm.trans hf) |>.symm
   obtain rfl:fn=Tryz.f8:=(Option.some.inj<|Tryz.func8.symm.trans hfn).symm
   exact ⟨um,λj t ht=>by
    rw [Tryz.params8] at ht
    have hm:t∈[22,9,9,9,9]:=by simpa using Array.mem_of_getElem? ht
    exact (show Tryz.prog.wantsStandIn t=false by simpa using List.all_eq_true.1 uq t hm)⟩)
  vU
end Go.Proofs.YtknmacdbffgjgaaGreatDoor
