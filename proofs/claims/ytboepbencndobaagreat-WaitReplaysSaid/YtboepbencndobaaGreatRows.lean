/-
  No cell of these rows narrows 'for every input' (looked for: loops, veiled, ifaces, maps, wideKeys, modest, calm, conditions, laid).
  DERIVED. THE GIVEN ROWS OF THIS SEAT. 9 by the template 'for every input the law returns true; each argument reads behind the call as it read before'; 0 by the template 'total and deterministic' (their statements: YtboepbencndobaaGreatTotals.lean).
  GIVEN WITH THE SEED: the statements are not yours to turn. If you find one false, say at which input.
  Laid BY PROGRAM, IN A SANDBOX (cutbox-rows.mjs): the forced cells as the released guide's own fill.sh prints them over the translation 5daca598bfa0cc2a… (all of the seat's roots in one cut). By AI agents, Wed Nov 11 2026. No macro, syntax, notation, axiom, sorry.
-/
import Derived.Test.YtboepbencndobaaGreatChecked
import GoSem.Claim
import GoSem.ClaimJoined
import GoSem.ClaimMapViews
import Derived.JoinedTies
import Derived.KernelRfl
namespace Go.Proofs.YtboepbencndobaaGreat
/- THE CELL 'sum', in the pinned program and in every row, IS THE sha256 OF THE DUMP (.gsa) THAT YtboepbencndobaaGreatProg.lean LOADS. Nothing in Lean hashes anything: it is a label: what it is worth is what the hold of that sum in a sandbox is worth. -/
noncomputable def Tryz.pinned : Pinned := { name := "ytboepbencndobaagreat", sum := "5daca598bfa0cc2a545402572229c7604fdde37bfd994d0931eb7f120f1c6593", checked := Tryz.checked }
namespace Rows
def none {H : Type} : Left H := { results := [], args := [] }

/-- 'cosignerlaw10.WaitChecks': WHATEVER THE INPUT: true; the input reads as it did. -/
def waitChecksSpec : ChangeSpec := { name := "waitChecks", fn := fun _ => fun
  | [d1, d2] => { results := [.lit (.bool true)], args := [d1, d2] }
  | _ => none }
def waitChecksRow : OpenClaim := { program := "ytboepbencndobaagreat", sum := "5daca598bfa0cc2a545402572229c7604fdde37bfd994d0931eb7f120f1c6593", func := "cosigner/cosignerlaw10.WaitChecks", spec := "waitChecks", unfollowed := true, recurses := true, apart := false }
def WaitChecksSaid : Prop := waitChecksRow.holds Tryz.pinned (OpenSpec.ofChange waitChecksSpec)

/-- ITS FALSE NEIGHBOUR: 'it returns false'. Refute it at one input. -/
def waitChecksWrong : ChangeSpec := { name := "waitChecks", fn := fun _ => fun
  | [d1, d2] => { results := [.lit (.bool false)], args := [d1, d2] }
  | _ => none }
def WaitChecksWrongFalsely : Prop := waitChecksRow.holds Tryz.pinned (OpenSpec.ofChange waitChecksWrong)

/-- 'cosignerlaw10.WaitStates': WHATEVER THE INPUT: true; the input reads as it did. -/
def waitStatesSpec : ChangeSpec := { name := "waitStates", fn := fun _ => fun
  | [d1, d2] => { results := [.lit (.bool true)], args := [d1, d2] }
  | _ => none }
def waitStatesRow : OpenClaim := { program := "ytboepbencndobaagreat", sum := "5daca598bfa0cc2a545402572229c7604fdde37bfd994d0931eb7f120f1c6593", func := "cosigner/cosignerlaw10.WaitStates", spec := "waitStates", unfollowed := true, recurses := true, apart := false }
def WaitStatesSaid : Prop := waitStatesRow.holds Tryz.pinned (OpenSpec.ofChange waitStatesSpec)

/-- ITS FALSE NEIGHBOUR: 'it returns false'. Refute it at one input. -/
def waitStatesWrong : ChangeSpec := { name := "waitStates", fn := fun _ => fun
  | [d1, d2] => { results := [.lit (.bool false)], args := [d1, d2] }
  | _ => none }
def WaitStatesWrongFalsely : Prop := waitStatesRow.holds Tryz.pinned (OpenSpec.ofChange waitStatesWrong)

/-- 'cosignerlaw10.WaitNoRing': WHATEVER THE INPUT: true; the input reads as it did. -/
def waitNoRingSpec : ChangeSpec := { name := "waitNoRing", fn := fun _ => fun
  | [d1, d2, d3] => { results := [.lit (.bool true)], args := [d1, d2, d3] }
  | _ => none }
def waitNoRingRow : OpenClaim := { program := "ytboepbencndobaagreat", sum := "5daca598bfa0cc2a545402572229c7604fdde37bfd994d0931eb7f120f1c6593", func := "cosigner/cosignerlaw10.WaitNoRing", spec := "waitNoRing", unfollowed := true, recurses := true, apart := false }
def WaitNoRingSaid : Prop := waitNoRingRow.holds Tryz.pinned (OpenSpec.ofChange waitNoRingSpec)

/-- ITS FALSE NEIGHBOUR: 'it returns false'. Refute it at one input. -/
def waitNoRingWrong : ChangeSpec := { name := "waitNoRing", fn := fun _ => fun
  | [d1, d2, d3] => { results := [.lit (.bool false)], args := [d1, d2, d3] }
  | _ => none }
def WaitNoRingWrongFalsely : Prop := waitNoRingRow.holds Tryz.pinned (OpenSpec.ofChange waitNoRingWrong)

/-- 'cosignerlaw10.WaitSwaps': WHATEVER THE INPUT: true; the input reads as it did. -/
def waitSwapsSpec : ChangeSpec := { name := "waitSwaps", fn := fun _ => fun
  | [d1, d2, d3, d4, d5] => { results := [.lit (.bool true)], args := [d1, d2, d3, d4, d5] }
  | _ => none }
def waitSwapsRow : OpenClaim := { program := "ytboepbencndobaagreat", sum := "5daca598bfa0cc2a545402572229c7604fdde37bfd994d0931eb7f120f1c6593", func := "cosigner/cosignerlaw10.WaitSwaps", spec := "waitSwaps", unfollowed := true, recurses := true, apart := false }
def WaitSwapsSaid : Prop := waitSwapsRow.holds Tryz.pinned (OpenSpec.ofChange waitSwapsSpec)

/-- ITS FALSE NEIGHBOUR: 'it returns false'. Refute it at one input. -/
def waitSwapsWrong : ChangeSpec := { name := "waitSwaps", fn := fun _ => fun
  | [d1, d2, d3, d4, d5] => { results := [.lit (.bool false)], args := [d1, d2, d3, d4, d5] }
  | _ => none }
def WaitSwapsWrongFalsely : Prop := waitSwapsRow.holds Tryz.pinned (OpenSpec.ofChange waitSwapsWrong)

/-- 'cosignerlaw10.WaitInOrder': WHATEVER THE INPUT: true; the input reads as it did. -/
def waitInOrderSpec : ChangeSpec := { name := "waitInOrder", fn := fun _ => fun
  | [d1, d2, d3] => { results := [.lit (.bool true)], args := [d1, d2, d3] }
  | _ => none }
def waitInOrderRow : OpenClaim := { program := "ytboepbencndobaagreat", sum := "5daca598bfa0cc2a545402572229c7604fdde37bfd994d0931eb7f120f1c6593", func := "cosigner/cosignerlaw10.WaitInOrder", spec := "waitInOrder", unfollowed := true, recurses := true, apart := false }
def WaitInOrderSaid : Prop := waitInOrderRow.holds Tryz.pinned (OpenSpec.ofChange waitInOrderSpec)

/-- ITS FALSE NEIGHBOUR: 'it returns false'. Refute it at one input. -/
def waitInOrderWrong : ChangeSpec := { name := "waitInOrder", fn := fun _ => fun
  | [d1, d2, d3] => { results := [.lit (.bool false)], args := [d1, d2, d3] }
  | _ => none }
def WaitInOrderWrongFalsely : Prop := waitInOrderRow.holds Tryz.pinned (OpenSpec.ofChange waitInOrderWrong)

/-- 'cosignerlaw10.WaitStuck': WHATEVER THE INPUT: true; the input reads as it did. -/
def waitStuckSpec : ChangeSpec := { name := "waitStuck", fn := fun _ => fun
  | [d1, d2, d3, d4] => { results := [.lit (.bool true)], args := [d1, d2, d3, d4] }
  | _ => none }
def waitStuckRow : OpenClaim := { program := "ytboepbencndobaagreat", sum := "5daca598bfa0cc2a545402572229c7604fdde37bfd994d0931eb7f120f1c6593", func := "cosigner/cosignerlaw10.WaitStuck", spec := "waitStuck", unfollowed := true, recurses := true, apart := false }
def WaitStuckSaid : Prop := waitStuckRow.holds Tryz.pinned (OpenSpec.ofChange waitStuckSpec)

/-- ITS FALSE NEIGHBOUR: 'it returns false'. Refute it at one input. -/
def waitStuckWrong : ChangeSpec := { name := "waitStuck", fn := fun _ => fun
  | [d1, d2, d3, d4] => { results := [.lit (.bool false)], args := [d1, d2, d3, d4] }
  | _ => none }
def WaitStuckWrongFalsely : Prop := waitStuckRow.holds Tryz.pinned (OpenSpec.ofChange waitStuckWrong)

/-- 'cosignerlaw10.WaitReplays': WHATEVER THE INPUT: true; the input reads as it did. -/
def waitReplaysSpec : ChangeSpec := { name := "waitReplays", fn := fun _ => fun
  | [d1, d2, d3, d4] => { results := [.lit (.bool true)], args := [d1, d2, d3, d4] }
  | _ => none }
def waitReplaysRow : OpenClaim := { program := "ytboepbencndobaagreat", sum := "5daca598bfa0cc2a545402572229c7604fdde37bfd994d0931eb7f120f1c6593", func := "cosigner/cosignerlaw10.WaitReplays", spec := "waitReplays", unfollowed := true, recurses := true, apart := false }
def WaitReplaysSaid : Prop := waitReplaysRow.holds Tryz.pinned (OpenSpec.ofChange waitReplaysSpec)

/-- ITS FALSE NEIGHBOUR: 'it returns false'. Refute it at one input. -/
def waitReplaysWrong : ChangeSpec := { name := "waitReplays", fn := fun _ => fun
  | [d1, d2, d3, d4] => { results := [.lit (.bool false)], args := [d1, d2, d3, d4] }
  | _ => none }
def WaitReplaysWrongFalsely : Prop := waitReplaysRow.holds Tryz.pinned (OpenSpec.ofChange waitReplaysWrong)

/-- 'cosignerlaw10.WaitOrderDecides': WHATEVER THE INPUT: true; the input reads as it did. -/
def waitOrderDecidesSpec : ChangeSpec := { name := "waitOrderDecides", fn := fun _ => fun
  | [d1, d2, d3, d4] => { results := [.lit (.bool true)], args := [d1, d2, d3, d4] }
  | _ => none }
def waitOrderDecidesRow : OpenClaim := { program := "ytboepbencndobaagreat", sum := "5daca598bfa0cc2a545402572229c7604fdde37bfd994d0931eb7f120f1c6593", func := "cosigner/cosignerlaw10.WaitOrderDecides", spec := "waitOrderDecides", unfollowed := true, recurses := true, apart := false }
def WaitOrderDecidesSaid : Prop := waitOrderDecidesRow.holds Tryz.pinned (OpenSpec.ofChange waitOrderDecidesSpec)

/-- ITS FALSE NEIGHBOUR: 'it returns false'. Refute it at one input. -/
def waitOrderDecidesWrong : ChangeSpec := { name := "waitOrderDecides", fn := fun _ => fun
  | [d1, d2, d3, d4] => { results := [.lit (.bool false)], args := [d1, d2, d3, d4] }
  | _ => none }
def WaitOrderDecidesWrongFalsely : Prop := waitOrderDecidesRow.holds Tryz.pinned (OpenSpec.ofChange waitOrderDecidesWrong)

/-- 'cosignerlaw10.WaitRings': WHATEVER THE INPUT: true; the input reads as it did. -/
def waitRingsSpec : ChangeSpec := { name := "waitRings", fn := fun _ => fun
  | [d1, d2, d3] => { results := [.lit (.bool true)], args := [d1, d2, d3] }
  | _ => none }
def waitRingsRow : OpenClaim := { program := "ytboepbencndobaagreat", sum := "5daca598bfa0cc2a545402572229c7604fdde37bfd994d0931eb7f120f1c6593", func := "cosigner/cosignerlaw10.WaitRings", spec := "waitRings", unfollowed := true, recurses := true, apart := false }
def WaitRingsSaid : Prop := waitRingsRow.holds Tryz.pinned (OpenSpec.ofChange waitRingsSpec)

/-- ITS FALSE NEIGHBOUR: 'it returns false'. Refute it at one input. -/
def waitRingsWrong : ChangeSpec := { name := "waitRings", fn := fun _ => fun
  | [d1, d2, d3] => { results := [.lit (.bool false)], args := [d1, d2, d3] }
  | _ => none }
def WaitRingsWrongFalsely : Prop := waitRingsRow.holds Tryz.pinned (OpenSpec.ofChange waitRingsWrong)

/- THE SECOND FORM. 'bulk': how many values and letters a reading holds, each counted each time it is reached (what is shared counts as often as it is met; a slice's spare places count too). A statement '..UptoSaid' is the law's where the arguments, and the package variables that the reading takes, are together of bulk at most 1048576: NARROWER than '..Said'. Prove '..Said' where nothing that the law and all that it calls make is longer than what came in: it says more and counts as full. Else prove '..UptoSaid'. A law counts once. -/
mutual
def uptoBulk {H : Type} : DataW H → Nat
  | .lit (.string bytes) => bytes.length + 1
  | .lit _ => 1
  | .nil => 1
  | .ptr d => uptoBulk d + 1
  | .slice elems spare => uptoBulkAll elems + uptoBulkAll spare + 1
  | .agg parts => uptoBulkAll parts + 1
  | .iface _ d => uptoBulk d + 1
  | .map entries => uptoBulkEntries entries + 1
  | .held _ => 1
def uptoBulkAll {H : Type} : List (DataW H) → Nat
  | [] => 0
  | d :: r => uptoBulk d + uptoBulkAll r
def uptoBulkEntries {H : Type} : List (Lit × DataW H) → Nat
  | [] => 0
  | x :: r => uptoBulkEntry x + uptoBulkEntries r
def uptoBulkEntry {H : Type} : Lit × DataW H → Nat
  | (.string bytes, d) => bytes.length + uptoBulk d + 1
  | (_, d) => uptoBulk d + 1
 end
def uptoSmall : (H : Type) → List (DataW H) → Bool := fun _ ds => decide (uptoBulkAll ds ≤ 1048576)
def OpenSpec.upto (s : _root_.Go.ChangeSpec) : _root_.Go.OpenSpec := { _root_.Go.OpenSpec.ofChange s with cond := some uptoSmall }

/-- 'cosignerlaw10.WaitChecks', WHERE WHAT IT READS IS OF BULK AT MOST 1048576: true; the input reads as it did. -/
def waitChecksUptoRow : OpenClaim := { program := "ytboepbencndobaagreat", sum := "5daca598bfa0cc2a545402572229c7604fdde37bfd994d0931eb7f120f1c6593", func := "cosigner/cosignerlaw10.WaitChecks", spec := "waitChecks", unfollowed := true, recurses := true, apart := false, narrowed := true }
def WaitChecksUptoSaid : Prop := waitChecksUptoRow.holds Tryz.pinned (OpenSpec.upto waitChecksSpec)

/-- 'cosignerlaw10.WaitStates', WHERE WHAT IT READS IS OF BULK AT MOST 1048576: true; the input reads as it did. -/
def waitStatesUptoRow : OpenClaim := { program := "ytboepbencndobaagreat", sum := "5daca598bfa0cc2a545402572229c7604fdde37bfd994d0931eb7f120f1c6593", func := "cosigner/cosignerlaw10.WaitStates", spec := "waitStates", unfollowed := true, recurses := true, apart := false, narrowed := true }
def WaitStatesUptoSaid : Prop := waitStatesUptoRow.holds Tryz.pinned (OpenSpec.upto waitStatesSpec)

/-- 'cosignerlaw10.WaitNoRing', WHERE WHAT IT READS IS OF BULK AT MOST 1048576: true; the input reads as it did. -/
def waitNoRingUptoRow : OpenClaim := { program := "ytboepbencndobaagreat", sum := "5daca598bfa0cc2a545402572229c7604fdde37bfd994d0931eb7f120f1c6593", func := "cosigner/cosignerlaw10.WaitNoRing", spec := "waitNoRing", unfollowed := true, recurses := true, apart := false, narrowed := true }
def WaitNoRingUptoSaid : Prop := waitNoRingUptoRow.holds Tryz.pinned (OpenSpec.upto waitNoRingSpec)

/-- 'cosignerlaw10.WaitSwaps', WHERE WHAT IT READS IS OF BULK AT MOST 1048576: true; the input reads as it did. -/
def waitSwapsUptoRow : OpenClaim := { program := "ytboepbencndobaagreat", sum := "5daca598bfa0cc2a545402572229c7604fdde37bfd994d0931eb7f120f1c6593", func := "cosigner/cosignerlaw10.WaitSwaps", spec := "waitSwaps", unfollowed := true, recurses := true, apart := false, narrowed := true }
def WaitSwapsUptoSaid : Prop := waitSwapsUptoRow.holds Tryz.pinned (OpenSpec.upto waitSwapsSpec)

/-- 'cosignerlaw10.WaitInOrder', WHERE WHAT IT READS IS OF BULK AT MOST 1048576: true; the input reads as it did. -/
def waitInOrderUptoRow : OpenClaim := { program := "ytboepbencndobaagreat", sum := "5daca598bfa0cc2a545402572229c7604fdde37bfd994d0931eb7f120f1c6593", func := "cosigner/cosignerlaw10.WaitInOrder", spec := "waitInOrder", unfollowed := true, recurses := true, apart := false, narrowed := true }
def WaitInOrderUptoSaid : Prop := waitInOrderUptoRow.holds Tryz.pinned (OpenSpec.upto waitInOrderSpec)

/-- 'cosignerlaw10.WaitStuck', WHERE WHAT IT READS IS OF BULK AT MOST 1048576: true; the input reads as it did. -/
def waitStuckUptoRow : OpenClaim := { program := "ytboepbencndobaagreat", sum := "5daca598bfa0cc2a545402572229c7604fdde37bfd994d0931eb7f120f1c6593", func := "cosigner/cosignerlaw10.WaitStuck", spec := "waitStuck", unfollowed := true, recurses := true, apart := false, narrowed := true }
def WaitStuckUptoSaid : Prop := waitStuckUptoRow.holds Tryz.pinned (OpenSpec.upto waitStuckSpec)

/-- 'cosignerlaw10.WaitReplays', WHERE WHAT IT READS IS OF BULK AT MOST 1048576: true; the input reads as it did. -/
def waitReplaysUptoRow : OpenClaim := { program := "ytboepbencndobaagreat", sum := "5daca598bfa0cc2a545402572229c7604fdde37bfd994d0931eb7f120f1c6593", func := "cosigner/cosignerlaw10.WaitReplays", spec := "waitReplays", unfollowed := true, recurses := true, apart := false, narrowed := true }
def WaitReplaysUptoSaid : Prop := waitReplaysUptoRow.holds Tryz.pinned (OpenSpec.upto waitReplaysSpec)

/-- 'cosignerlaw10.WaitOrderDecides', WHERE WHAT IT READS IS OF BULK AT MOST 1048576: true; the input reads as it did. -/
def waitOrderDecidesUptoRow : OpenClaim := { program := "ytboepbencndobaagreat", sum := "5daca598bfa0cc2a545402572229c7604fdde37bfd994d0931eb7f120f1c6593", func := "cosigner/cosignerlaw10.WaitOrderDecides", spec := "waitOrderDecides", unfollowed := true, recurses := true, apart := false, narrowed := true }
def WaitOrderDecidesUptoSaid : Prop := waitOrderDecidesUptoRow.holds Tryz.pinned (OpenSpec.upto waitOrderDecidesSpec)

/-- 'cosignerlaw10.WaitRings', WHERE WHAT IT READS IS OF BULK AT MOST 1048576: true; the input reads as it did. -/
def waitRingsUptoRow : OpenClaim := { program := "ytboepbencndobaagreat", sum := "5daca598bfa0cc2a545402572229c7604fdde37bfd994d0931eb7f120f1c6593", func := "cosigner/cosignerlaw10.WaitRings", spec := "waitRings", unfollowed := true, recurses := true, apart := false, narrowed := true }
def WaitRingsUptoSaid : Prop := waitRingsUptoRow.holds Tryz.pinned (OpenSpec.upto waitRingsSpec)

end Rows
end Go.Proofs.YtboepbencndobaaGreat
