/-
  NARROWER THAN 'FOR EVERY INPUT', by the rows' own cells (each row's printed sentence says how): KindChecks: loops · KindAncestors: loops · KindOrder: loops · KindPlaced: loops · KindFormals: loops · KindConforms: loops · KindReasons: loops.
  DERIVED. THE GIVEN ROWS OF THIS SEAT. 7 by the template 'for every input the law returns true; each argument reads behind the call as it read before'; 0 by the template 'total and deterministic' (their statements: YtaohbfnepjjdgaaGreatTotals.lean).
  GIVEN WITH THE SEED: the statements are not yours to turn. If you find one false, say at which input.
  Laid BY PROGRAM, IN A SANDBOX (cutbox-rows.mjs): the forced cells as the released guide's own fill.sh prints them over the translation ccd63425f626668f… (all of the seat's roots in one cut). By AI agents, Wed Nov 11 2026. No macro, syntax, notation, axiom, sorry.
-/
import Derived.Test.YtaohbfnepjjdgaaGreatChecked
import GoSem.Claim
import GoSem.ClaimJoined
import GoSem.ClaimMapViews
import Derived.JoinedTies
import Derived.KernelRfl
namespace Go.Proofs.YtaohbfnepjjdgaaGreat
/- THE CELL 'sum', in the pinned program and in every row, IS THE sha256 OF THE DUMP (.gsa) THAT YtaohbfnepjjdgaaGreatProg.lean LOADS. Nothing in Lean hashes anything: it is a label: what it is worth is what the hold of that sum in a sandbox is worth. -/
noncomputable def Tryz.pinned : Pinned := { name := "ytaohbfnepjjdgaagreat", sum := "ccd63425f626668f7385d8db829435800578f83a5003899a7317974953ebdf0d", checked := Tryz.checked }
namespace Rows
def none {H : Type} : Left H := { results := [], args := [] }

/-- 'cosignerlaw05.KindChecks': WHATEVER THE INPUT: true; the input reads as it did. -/
def kindChecksSpec : ChangeSpec := { name := "kindChecks", fn := fun _ => fun
  | [d1, d2, d3, d4] => { results := [.lit (.bool true)], args := [d1, d2, d3, d4] }
  | _ => none }
def kindChecksRow : OpenClaim := { program := "ytaohbfnepjjdgaagreat", sum := "ccd63425f626668f7385d8db829435800578f83a5003899a7317974953ebdf0d", func := "cosigner/cosignerlaw05.KindChecks", spec := "kindChecks", unfollowed := true, recurses := true, loops := true, apart := false }
def KindChecksSaid : Prop := kindChecksRow.holds Tryz.pinned (OpenSpec.ofChange kindChecksSpec)

/-- ITS FALSE NEIGHBOUR: 'it returns false'. Refute it at one input. -/
def kindChecksWrong : ChangeSpec := { name := "kindChecks", fn := fun _ => fun
  | [d1, d2, d3, d4] => { results := [.lit (.bool false)], args := [d1, d2, d3, d4] }
  | _ => none }
def KindChecksWrongFalsely : Prop := kindChecksRow.holds Tryz.pinned (OpenSpec.ofChange kindChecksWrong)

/-- 'cosignerlaw05.KindAncestors': WHATEVER THE INPUT: true; the input reads as it did. -/
def kindAncestorsSpec : ChangeSpec := { name := "kindAncestors", fn := fun _ => fun
  | [d1, d2, d3, d4, d5] => { results := [.lit (.bool true)], args := [d1, d2, d3, d4, d5] }
  | _ => none }
def kindAncestorsRow : OpenClaim := { program := "ytaohbfnepjjdgaagreat", sum := "ccd63425f626668f7385d8db829435800578f83a5003899a7317974953ebdf0d", func := "cosigner/cosignerlaw05.KindAncestors", spec := "kindAncestors", unfollowed := true, recurses := true, loops := true, apart := false }
def KindAncestorsSaid : Prop := kindAncestorsRow.holds Tryz.pinned (OpenSpec.ofChange kindAncestorsSpec)

/-- ITS FALSE NEIGHBOUR: 'it returns false'. Refute it at one input. -/
def kindAncestorsWrong : ChangeSpec := { name := "kindAncestors", fn := fun _ => fun
  | [d1, d2, d3, d4, d5] => { results := [.lit (.bool false)], args := [d1, d2, d3, d4, d5] }
  | _ => none }
def KindAncestorsWrongFalsely : Prop := kindAncestorsRow.holds Tryz.pinned (OpenSpec.ofChange kindAncestorsWrong)

/-- 'cosignerlaw05.KindOrder': WHATEVER THE INPUT: true; the input reads as it did. -/
def kindOrderSpec : ChangeSpec := { name := "kindOrder", fn := fun _ => fun
  | [d1, d2, d3, d4, d5] => { results := [.lit (.bool true)], args := [d1, d2, d3, d4, d5] }
  | _ => none }
def kindOrderRow : OpenClaim := { program := "ytaohbfnepjjdgaagreat", sum := "ccd63425f626668f7385d8db829435800578f83a5003899a7317974953ebdf0d", func := "cosigner/cosignerlaw05.KindOrder", spec := "kindOrder", unfollowed := true, recurses := true, loops := true, apart := false }
def KindOrderSaid : Prop := kindOrderRow.holds Tryz.pinned (OpenSpec.ofChange kindOrderSpec)

/-- ITS FALSE NEIGHBOUR: 'it returns false'. Refute it at one input. -/
def kindOrderWrong : ChangeSpec := { name := "kindOrder", fn := fun _ => fun
  | [d1, d2, d3, d4, d5] => { results := [.lit (.bool false)], args := [d1, d2, d3, d4, d5] }
  | _ => none }
def KindOrderWrongFalsely : Prop := kindOrderRow.holds Tryz.pinned (OpenSpec.ofChange kindOrderWrong)

/-- 'cosignerlaw05.KindPlaced': WHATEVER THE INPUT: true; the input reads as it did. -/
def kindPlacedSpec : ChangeSpec := { name := "kindPlaced", fn := fun _ => fun
  | [d1, d2, d3, d4, d5, d6] => { results := [.lit (.bool true)], args := [d1, d2, d3, d4, d5, d6] }
  | _ => none }
def kindPlacedRow : OpenClaim := { program := "ytaohbfnepjjdgaagreat", sum := "ccd63425f626668f7385d8db829435800578f83a5003899a7317974953ebdf0d", func := "cosigner/cosignerlaw05.KindPlaced", spec := "kindPlaced", unfollowed := true, recurses := true, loops := true, apart := false }
def KindPlacedSaid : Prop := kindPlacedRow.holds Tryz.pinned (OpenSpec.ofChange kindPlacedSpec)

/-- ITS FALSE NEIGHBOUR: 'it returns false'. Refute it at one input. -/
def kindPlacedWrong : ChangeSpec := { name := "kindPlaced", fn := fun _ => fun
  | [d1, d2, d3, d4, d5, d6] => { results := [.lit (.bool false)], args := [d1, d2, d3, d4, d5, d6] }
  | _ => none }
def KindPlacedWrongFalsely : Prop := kindPlacedRow.holds Tryz.pinned (OpenSpec.ofChange kindPlacedWrong)

/-- 'cosignerlaw05.KindFormals': WHATEVER THE INPUT: true; the input reads as it did. -/
def kindFormalsSpec : ChangeSpec := { name := "kindFormals", fn := fun _ => fun
  | [d1, d2, d3, d4, d5, d6] => { results := [.lit (.bool true)], args := [d1, d2, d3, d4, d5, d6] }
  | _ => none }
def kindFormalsRow : OpenClaim := { program := "ytaohbfnepjjdgaagreat", sum := "ccd63425f626668f7385d8db829435800578f83a5003899a7317974953ebdf0d", func := "cosigner/cosignerlaw05.KindFormals", spec := "kindFormals", unfollowed := true, recurses := true, loops := true, apart := false }
def KindFormalsSaid : Prop := kindFormalsRow.holds Tryz.pinned (OpenSpec.ofChange kindFormalsSpec)

/-- ITS FALSE NEIGHBOUR: 'it returns false'. Refute it at one input. -/
def kindFormalsWrong : ChangeSpec := { name := "kindFormals", fn := fun _ => fun
  | [d1, d2, d3, d4, d5, d6] => { results := [.lit (.bool false)], args := [d1, d2, d3, d4, d5, d6] }
  | _ => none }
def KindFormalsWrongFalsely : Prop := kindFormalsRow.holds Tryz.pinned (OpenSpec.ofChange kindFormalsWrong)

/-- 'cosignerlaw05.KindConforms': WHATEVER THE INPUT: true; the input reads as it did. -/
def kindConformsSpec : ChangeSpec := { name := "kindConforms", fn := fun _ => fun
  | [d1, d2, d3, d4, d5] => { results := [.lit (.bool true)], args := [d1, d2, d3, d4, d5] }
  | _ => none }
def kindConformsRow : OpenClaim := { program := "ytaohbfnepjjdgaagreat", sum := "ccd63425f626668f7385d8db829435800578f83a5003899a7317974953ebdf0d", func := "cosigner/cosignerlaw05.KindConforms", spec := "kindConforms", unfollowed := true, recurses := true, loops := true, apart := false }
def KindConformsSaid : Prop := kindConformsRow.holds Tryz.pinned (OpenSpec.ofChange kindConformsSpec)

/-- ITS FALSE NEIGHBOUR: 'it returns false'. Refute it at one input. -/
def kindConformsWrong : ChangeSpec := { name := "kindConforms", fn := fun _ => fun
  | [d1, d2, d3, d4, d5] => { results := [.lit (.bool false)], args := [d1, d2, d3, d4, d5] }
  | _ => none }
def KindConformsWrongFalsely : Prop := kindConformsRow.holds Tryz.pinned (OpenSpec.ofChange kindConformsWrong)

/-- 'cosignerlaw05.KindReasons': WHATEVER THE INPUT: true; the input reads as it did. -/
def kindReasonsSpec : ChangeSpec := { name := "kindReasons", fn := fun _ => fun
  | [d1, d2, d3, d4, d5] => { results := [.lit (.bool true)], args := [d1, d2, d3, d4, d5] }
  | _ => none }
def kindReasonsRow : OpenClaim := { program := "ytaohbfnepjjdgaagreat", sum := "ccd63425f626668f7385d8db829435800578f83a5003899a7317974953ebdf0d", func := "cosigner/cosignerlaw05.KindReasons", spec := "kindReasons", unfollowed := true, recurses := true, loops := true, apart := false }
def KindReasonsSaid : Prop := kindReasonsRow.holds Tryz.pinned (OpenSpec.ofChange kindReasonsSpec)

/-- ITS FALSE NEIGHBOUR: 'it returns false'. Refute it at one input. -/
def kindReasonsWrong : ChangeSpec := { name := "kindReasons", fn := fun _ => fun
  | [d1, d2, d3, d4, d5] => { results := [.lit (.bool false)], args := [d1, d2, d3, d4, d5] }
  | _ => none }
def KindReasonsWrongFalsely : Prop := kindReasonsRow.holds Tryz.pinned (OpenSpec.ofChange kindReasonsWrong)

/- THE SECOND FORM. 'bulk': how many values and letters a reading holds, each counted each time it is reached (what is shared counts as often as it is met; a slice's spare places count too). A statement '..UptoSaid' is the law's where the arguments, and the package variables that the reading takes, are together of bulk at most 1048576: NARROWER than '..Said'. Prove '..Said' where nothing that the law and all that it calls make is longer than what came in: it says more and counts as full. Else prove '..UptoSaid'. A law counts once. -/
mutual
def uptoBulk {H : Type} : DataW H → Nat
  | .lit (.string bytes) => bytes.length + 1
  | .lit _ => 1
  | .nil => 1
  | .ptr d => uptoBulk d + 1
  | .slice elems spare => uptoBulkAll elems + uptoBulkAll spare + 1
  | .agg parts => uptoBulkAll parts + 1
  | .iface _ d => uptoBulk d + 1
  | .map entries => uptoBulkEntries entries + 1
  | .held _ => 1
def uptoBulkAll {H : Type} : List (DataW H) → Nat
  | [] => 0
  | d :: r => uptoBulk d + uptoBulkAll r
def uptoBulkEntries {H : Type} : List (Lit × DataW H) → Nat
  | [] => 0
  | x :: r => uptoBulkEntry x + uptoBulkEntries r
def uptoBulkEntry {H : Type} : Lit × DataW H → Nat
  | (.string bytes, d) => bytes.length + uptoBulk d + 1
  | (_, d) => uptoBulk d + 1
 end
def uptoSmall : (H : Type) → List (DataW H) → Bool := fun _ ds => decide (uptoBulkAll ds ≤ 1048576)
def OpenSpec.upto (s : _root_.Go.ChangeSpec) : _root_.Go.OpenSpec := { _root_.Go.OpenSpec.ofChange s with cond := some uptoSmall }

/-- 'cosignerlaw05.KindChecks', WHERE WHAT IT READS IS OF BULK AT MOST 1048576: true; the input reads as it did. -/
def kindChecksUptoRow : OpenClaim := { program := "ytaohbfnepjjdgaagreat", sum := "ccd63425f626668f7385d8db829435800578f83a5003899a7317974953ebdf0d", func := "cosigner/cosignerlaw05.KindChecks", spec := "kindChecks", unfollowed := true, recurses := true, loops := true, apart := false, narrowed := true }
def KindChecksUptoSaid : Prop := kindChecksUptoRow.holds Tryz.pinned (OpenSpec.upto kindChecksSpec)

/-- 'cosignerlaw05.KindAncestors', WHERE WHAT IT READS IS OF BULK AT MOST 1048576: true; the input reads as it did. -/
def kindAncestorsUptoRow : OpenClaim := { program := "ytaohbfnepjjdgaagreat", sum := "ccd63425f626668f7385d8db829435800578f83a5003899a7317974953ebdf0d", func := "cosigner/cosignerlaw05.KindAncestors", spec := "kindAncestors", unfollowed := true, recurses := true, loops := true, apart := false, narrowed := true }
def KindAncestorsUptoSaid : Prop := kindAncestorsUptoRow.holds Tryz.pinned (OpenSpec.upto kindAncestorsSpec)

/-- 'cosignerlaw05.KindOrder', WHERE WHAT IT READS IS OF BULK AT MOST 1048576: true; the input reads as it did. -/
def kindOrderUptoRow : OpenClaim := { program := "ytaohbfnepjjdgaagreat", sum := "ccd63425f626668f7385d8db829435800578f83a5003899a7317974953ebdf0d", func := "cosigner/cosignerlaw05.KindOrder", spec := "kindOrder", unfollowed := true, recurses := true, loops := true, apart := false, narrowed := true }
def KindOrderUptoSaid : Prop := kindOrderUptoRow.holds Tryz.pinned (OpenSpec.upto kindOrderSpec)

/-- 'cosignerlaw05.KindPlaced', WHERE WHAT IT READS IS OF BULK AT MOST 1048576: true; the input reads as it did. -/
def kindPlacedUptoRow : OpenClaim := { program := "ytaohbfnepjjdgaagreat", sum := "ccd63425f626668f7385d8db829435800578f83a5003899a7317974953ebdf0d", func := "cosigner/cosignerlaw05.KindPlaced", spec := "kindPlaced", unfollowed := true, recurses := true, loops := true, apart := false, narrowed := true }
def KindPlacedUptoSaid : Prop := kindPlacedUptoRow.holds Tryz.pinned (OpenSpec.upto kindPlacedSpec)

/-- 'cosignerlaw05.KindFormals', WHERE WHAT IT READS IS OF BULK AT MOST 1048576: true; the input reads as it did. -/
def kindFormalsUptoRow : OpenClaim := { program := "ytaohbfnepjjdgaagreat", sum := "ccd63425f626668f7385d8db829435800578f83a5003899a7317974953ebdf0d", func := "cosigner/cosignerlaw05.KindFormals", spec := "kindFormals", unfollowed := true, recurses := true, loops := true, apart := false, narrowed := true }
def KindFormalsUptoSaid : Prop := kindFormalsUptoRow.holds Tryz.pinned (OpenSpec.upto kindFormalsSpec)

/-- 'cosignerlaw05.KindConforms', WHERE WHAT IT READS IS OF BULK AT MOST 1048576: true; the input reads as it did. -/
def kindConformsUptoRow : OpenClaim := { program := "ytaohbfnepjjdgaagreat", sum := "ccd63425f626668f7385d8db829435800578f83a5003899a7317974953ebdf0d", func := "cosigner/cosignerlaw05.KindConforms", spec := "kindConforms", unfollowed := true, recurses := true, loops := true, apart := false, narrowed := true }
def KindConformsUptoSaid : Prop := kindConformsUptoRow.holds Tryz.pinned (OpenSpec.upto kindConformsSpec)

/-- 'cosignerlaw05.KindReasons', WHERE WHAT IT READS IS OF BULK AT MOST 1048576: true; the input reads as it did. -/
def kindReasonsUptoRow : OpenClaim := { program := "ytaohbfnepjjdgaagreat", sum := "ccd63425f626668f7385d8db829435800578f83a5003899a7317974953ebdf0d", func := "cosigner/cosignerlaw05.KindReasons", spec := "kindReasons", unfollowed := true, recurses := true, loops := true, apart := false, narrowed := true }
def KindReasonsUptoSaid : Prop := kindReasonsUptoRow.holds Tryz.pinned (OpenSpec.upto kindReasonsSpec)

end Rows
end Go.Proofs.YtaohbfnepjjdgaaGreat
