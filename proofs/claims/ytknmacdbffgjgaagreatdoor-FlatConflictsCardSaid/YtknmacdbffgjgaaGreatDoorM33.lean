/-
  FlatConflicts. No condition beyond the tied variables.
-/
import Derived.Test.YtknmacdbffgjgaaGreatDoorCards
import Derived.Test.YtknmacdbffgjgaaGreatDoorTie
import Derived.Test.YtknmacdbffgjgaaGreatDoorM32
import Derived.SevenTiedAt
set_option linter.unusedVariables false
set_option linter.unusedSimpArgs false
set_option maxRecDepth 100000
set_option maxHeartbeats 16000000
namespace Go.Proofs.YtknmacdbffgjgaaGreatDoor
open Go Go.RowKit Go.ChangeShapes Go.WideShapes Go.Ck Go.Fl Go.Hr
theorem yf:Rows.flatConflictsRow.wfByText (OpenSpec.ofChange Rows.flatConflictsSpec)=true:=by kernel_rfl
theorem uj : Tryz.pinned.checked.prog.mainIs = some ((true, "b3c11169216a9a39c8124190423c0826cbc5ba8a3212fe890d39a78fb2ff4d0c").1, (true, "b3c11169216a9a39c8124190423c0826cbc5ba8a3212fe890d39a78fb2ff4d0c").2.toList) := by kernel_rfl
theorem rP:false=Tryz.pinned.checked.prog.looks []:=by kernel_rfl
theorem rQ:([22,26].all fun u => !Tryz.prog.wantsStandIn u)=true:=by kernel_rfl
theorem ul:false=Rows.flatConflictsRow.goesBy Tryz.pinned.checked.prog:=by kernel_rfl
theorem flatConflicts_holds : Rows.FlatConflictsCardSaid :=
 Claim7.holds_tied_plain_at .later [] [.listed, .data] true (true, "b3c11169216a9a39c8124190423c0826cbc5ba8a3212fe890d39a78fb2ff4d0c") false
  ui (fun _ h=>by cases h) yf (fun _ h=>by cases h) flatConflicts_row_tie rfl ⟨rfl,rfl⟩ uj rfl
  (fun f fn hf hfn=>by
   obtain rfl:f=3:=Option.some.inj (kF.symm.trans hf) |>.symm
   obtain rfl:fn=Tryz.f3:=(Option.some.inj (Tryz.func3.symm.trans hfn)).symm
   exact ⟨rP,fun j t ht=>by
    rw [Tryz.params3] at ht
    have hm:t∈[22,26]:=by simpa using Array.mem_of_getElem? ht
    exact (show Tryz.prog.wantsStandIn t=false by simpa using List.all_eq_true.1 rQ t hm)⟩)
  ul
end Go.Proofs.YtknmacdbffgjgaaGreatDoor
