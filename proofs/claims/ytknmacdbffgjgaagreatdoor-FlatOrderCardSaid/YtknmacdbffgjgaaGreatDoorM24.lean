/-
  FlatOrder. No condition beyond the tied variables.
-/
import Derived.Test.YtknmacdbffgjgaaGreatDoorCards
import Derived.Test.YtknmacdbffgjgaaGreatDoorTie
import Derived.Test.YtknmacdbffgjgaaGreatDoorM23
import Derived.SevenTiedAt
set_option linter.unusedVariables false
set_option linter.unusedSimpArgs false
set_option maxRecDepth 100000
set_option maxHeartbeats 16000000
namespace Go.Proofs.YtknmacdbffgjgaaGreatDoor
open Go Go.RowKit Go.ChangeShapes Go.WideShapes Go.Ck Go.Fl Go.Hr
theorem EY:Rows.flatOrderRow.wfByText (OpenSpec.ofChange Rows.flatOrderSpec)=true:=Zz
theorem A9 : Tryz.pinned.checked.prog.mainIs = some ((true, "b3c11169216a9a39c8124190423c0826cbc5ba8a3212fe890d39a78fb2ff4d0c").1, (true, "b3c11169216a9a39c8124190423c0826cbc5ba8a3212fe890d39a78fb2ff4d0c").2.toList) := Zz
theorem yD:false=Tryz.pinned.checked.prog.looks []:=Zz
theorem yE:([22,37,44].all λu => !Tryz.prog.wantsStandIn u)=true:=Zz
theorem Ba:false=Rows.flatOrderRow.goesBy Tryz.pinned.checked.prog:=Zz
theorem flatOrder_holds : Rows.FlatOrderCardSaid :=
 Claim7.holds_tied_plain_at .later [] [.listed, .data] true (true, "b3c11169216a9a39c8124190423c0826cbc5ba8a3212fe890d39a78fb2ff4d0c") false
  A8 (λ_ h=>by cases h) EY (λ_ h=>by cases h) flatOrder_row_tie rfl ⟨rfl,rfl⟩ A9 rfl
  (λf fn hf hfn=>by
   obtain rfl:f=4:=Option.some.inj (qw.symm.trans hf) |>.symm
   obtain rfl:fn=Tryz.f4:=(Option.some.inj<|Tryz.func4.symm.trans hfn).symm
   exact ⟨yD,λj t ht=>by
    rw [Tryz.params4] at ht
    have hm:t∈[22,37,44]:=by simpa using Array.mem_of_getElem? ht
    exact (show Tryz.prog.wantsStandIn t=false by simpa using List.all_eq_true.1 yE t hm)⟩)
  Ba
end Go.Proofs.YtknmacdbffgjgaaGreatDoor
