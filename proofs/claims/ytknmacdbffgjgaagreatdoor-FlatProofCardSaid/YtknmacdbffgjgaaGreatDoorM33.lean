/-
  FlatProof. No condition beyond the tied variables.
-/
import Derived.Test.YtknmacdbffgjgaaGreatDoorCards
import Derived.Test.YtknmacdbffgjgaaGreatDoorTie
import Derived.Test.YtknmacdbffgjgaaGreatDoorM32
import Derived.SevenTiedAt
set_option linter.unusedVariables false
set_option linter.unusedSimpArgs false
set_option maxRecDepth 100000
set_option maxHeartbeats 16000000
namespace Go.Proofs.YtknmacdbffgjgaaGreatDoor
open Go Go.RowKit Go.ChangeShapes Go.WideShapes Go.Ck Go.Fl Go.Hr
theorem EO:Rows.flatProofRow.wfByText (OpenSpec.ofChange Rows.flatProofSpec)=true:=Zz
theorem AU : Tryz.pinned.checked.prog.mainIs = some ((true, "b3c11169216a9a39c8124190423c0826cbc5ba8a3212fe890d39a78fb2ff4d0c").1, (true, "b3c11169216a9a39c8124190423c0826cbc5ba8a3212fe890d39a78fb2ff4d0c").2.toList) := Zz
theorem yC:false=Tryz.pinned.checked.prog.looks []:=Zz
theorem yD:([22,32].all λu => !Tryz.prog.wantsStandIn u)=true:=Zz
theorem AV:false=Rows.flatProofRow.goesBy Tryz.pinned.checked.prog:=Zz
theorem flatProof_holds : Rows.FlatProofCardSaid :=
 Claim7.holds_tied_plain_at .later [] [.listed, .data] true (true, "b3c11169216a9a39c8124190423c0826cbc5ba8a3212fe890d39a78fb2ff4d0c") false
  AR (λ_ h=>by cases h) EO (λ_ h=>by cases h) flatProof_row_tie rfl ⟨rfl,rfl⟩ AU rfl
  (λf fn hf hfn=>by
   obtain rfl:f=9:=Option.some.inj (qz.symm.trans hf) |>.symm
   obtain rfl:fn=Tryz.f9:=(Option.some.inj<|Tryz.func9.symm.trans hfn).symm
   exact ⟨yC,λj t ht=>by
    rw [Tryz.params9] at ht
    have hm:t∈[22,32]:=by simpa using Array.mem_of_getElem? ht
    exact (show Tryz.prog.wantsStandIn t=false by simpa using List.all_eq_true.1 yD t hm)⟩)
  AV
end Go.Proofs.YtknmacdbffgjgaaGreatDoor
