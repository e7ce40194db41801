/-
  FlatContracts. No condition beyond the tied variables.
-/
import Derived.Test.YtknmacdbffgjgaaGreatDoorCards
import Derived.Test.YtknmacdbffgjgaaGreatDoorTie
import Derived.Test.YtknmacdbffgjgaaGreatDoorM23
import Derived.SevenTiedAt
set_option linter.unusedVariables false
set_option linter.unusedSimpArgs false
set_option maxRecDepth 100000
set_option maxHeartbeats 16000000
namespace Go.Proofs.YtknmacdbffgjgaaGreatDoor
open Go Go.RowKit Go.ChangeShapes Go.WideShapes Go.Ck Go.Fl Go.Hr
theorem yt:Rows.flatContractsRow.wfByText (OpenSpec.ofChange Rows.flatContractsSpec)=true:=Zz
theorem uF : Tryz.pinned.checked.prog.mainIs = some ((true, "b3c11169216a9a39c8124190423c0826cbc5ba8a3212fe890d39a78fb2ff4d0c").1, (true, "b3c11169216a9a39c8124190423c0826cbc5ba8a3212fe890d39a78fb2ff4d0c").2.toList) := Zz
theorem su:false=Tryz.pinned.checked.prog.looks []:=Zz
theorem sw:([22].all λu => !Tryz.prog.wantsStandIn u)=true:=Zz
theorem uI:false=Rows.flatContractsRow.goesBy Tryz.pinned.checked.prog:=Zz
theorem flatContracts_holds : Rows.FlatContractsCardSaid :=
 Claim7.holds_tied_plain_at .later [] [.listed, .data] true (true, "b3c11169216a9a39c8124190423c0826cbc5ba8a3212fe890d39a78fb2ff4d0c") false
  uE (λ_ h=>by cases h) yt (λ_ h=>by cases h) flatContracts_row_tie rfl ⟨rfl,rfl⟩ uF rfl
  (λf fn hf hfn=>by
   obtain rfl:f=6:=Option.some.inj (kJ.symm.trans hf) |>.symm
   obtain rfl:fn=Tryz.f6:=(Option.some.inj<|Tryz.func6.symm.trans hfn).symm
   exact ⟨su,λj t ht=>by
    rw [Tryz.params6] at ht
    have hm:t∈[22]:=by simpa using Array.mem_of_getElem? ht
    exact (show Tryz.prog.wantsStandIn t=false by simpa using List.all_eq_true.1 sw t hm)⟩)
  uI
end Go.Proofs.YtknmacdbffgjgaaGreatDoor
