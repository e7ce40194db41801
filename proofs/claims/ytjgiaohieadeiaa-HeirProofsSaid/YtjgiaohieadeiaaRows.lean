/-
  NARROWER THAN 'FOR EVERY INPUT', by the rows' own cells (each row's printed sentence says how): HeirOrders: loops · HeirLinks: loops · HeirCounts: loops · HeirStands: loops · HeirMeets: loops · HeirReduces: loops · HeirReaches: loops · HeirAncestors: loops · HeirIsOrder: loops · HeirWays: loops · HeirProofs: loops.
  DERIVED. THE GIVEN ROWS OF THIS SEAT. 11 by the template 'for every input the law returns true; each argument reads behind the call as it read before'; 0 by the template 'total and deterministic' (their statements: YtjgiaohieadeiaaTotals.lean).
  GIVEN WITH THE SEED: the statements are not yours to turn. If you find one false, say at which input.
  Laid BY PROGRAM, IN A SANDBOX (cutbox-rows.mjs): the forced cells as the released guide's own fill.sh prints them over the translation 8dc9d369e67ff205… (all of the seat's roots in one cut). By AI agents, Wed Nov 11 2026. No macro, syntax, notation, axiom, sorry.
-/
import Derived.Test.YtjgiaohieadeiaaChecked
import GoSem.Claim
import GoSem.ClaimJoined
import GoSem.ClaimMapViews
import Derived.JoinedTies
import Derived.KernelRfl
namespace Go.Proofs.Ytjgiaohieadeiaa
/- THE CELL 'sum', in the pinned program and in every row, IS THE sha256 OF THE DUMP (.gsa) THAT YtjgiaohieadeiaaProg.lean LOADS. Nothing in Lean hashes anything: it is a label: what it is worth is what the hold of that sum in a sandbox is worth. -/
noncomputable def Try.pinned : Pinned := { name := "ytjgiaohieadeiaa", sum := "8dc9d369e67ff205a37d4ee535f13589bc1a8f78b5d1a6bfbf8df062d2748db0", checked := Try.checked }
namespace Rows
def none {H : Type} : Left H := { results := [], args := [] }

/-- 'cosignerlaw03.HeirOrders': WHATEVER THE INPUT: true; the input reads as it did. -/
def heirOrdersSpec : ChangeSpec := { name := "heirOrders", fn := fun _ => fun
  | [d1, d2, d3] => { results := [.lit (.bool true)], args := [d1, d2, d3] }
  | _ => none }
def heirOrdersRow : OpenClaim := { program := "ytjgiaohieadeiaa", sum := "8dc9d369e67ff205a37d4ee535f13589bc1a8f78b5d1a6bfbf8df062d2748db0", func := "cosigner/cosignerlaw03.HeirOrders", spec := "heirOrders", unfollowed := true, recurses := true, loops := true, apart := false }
def HeirOrdersSaid : Prop := heirOrdersRow.holds Try.pinned (OpenSpec.ofChange heirOrdersSpec)

/-- ITS FALSE NEIGHBOUR: 'it returns false'. Refute it at one input. -/
def heirOrdersWrong : ChangeSpec := { name := "heirOrders", fn := fun _ => fun
  | [d1, d2, d3] => { results := [.lit (.bool false)], args := [d1, d2, d3] }
  | _ => none }
def HeirOrdersWrongFalsely : Prop := heirOrdersRow.holds Try.pinned (OpenSpec.ofChange heirOrdersWrong)

/-- 'cosignerlaw03.HeirLinks': WHATEVER THE INPUT: true; the input reads as it did. -/
def heirLinksSpec : ChangeSpec := { name := "heirLinks", fn := fun _ => fun
  | [d1, d2] => { results := [.lit (.bool true)], args := [d1, d2] }
  | _ => none }
def heirLinksRow : OpenClaim := { program := "ytjgiaohieadeiaa", sum := "8dc9d369e67ff205a37d4ee535f13589bc1a8f78b5d1a6bfbf8df062d2748db0", func := "cosigner/cosignerlaw03.HeirLinks", spec := "heirLinks", unfollowed := true, recurses := true, loops := true, apart := false }
def HeirLinksSaid : Prop := heirLinksRow.holds Try.pinned (OpenSpec.ofChange heirLinksSpec)

/-- ITS FALSE NEIGHBOUR: 'it returns false'. Refute it at one input. -/
def heirLinksWrong : ChangeSpec := { name := "heirLinks", fn := fun _ => fun
  | [d1, d2] => { results := [.lit (.bool false)], args := [d1, d2] }
  | _ => none }
def HeirLinksWrongFalsely : Prop := heirLinksRow.holds Try.pinned (OpenSpec.ofChange heirLinksWrong)

/-- 'cosignerlaw03.HeirCounts': WHATEVER THE INPUT: true; the input reads as it did. -/
def heirCountsSpec : ChangeSpec := { name := "heirCounts", fn := fun _ => fun
  | [d1, d2, d3] => { results := [.lit (.bool true)], args := [d1, d2, d3] }
  | _ => none }
def heirCountsRow : OpenClaim := { program := "ytjgiaohieadeiaa", sum := "8dc9d369e67ff205a37d4ee535f13589bc1a8f78b5d1a6bfbf8df062d2748db0", func := "cosigner/cosignerlaw03.HeirCounts", spec := "heirCounts", unfollowed := true, recurses := true, loops := true, apart := false }
def HeirCountsSaid : Prop := heirCountsRow.holds Try.pinned (OpenSpec.ofChange heirCountsSpec)

/-- ITS FALSE NEIGHBOUR: 'it returns false'. Refute it at one input. -/
def heirCountsWrong : ChangeSpec := { name := "heirCounts", fn := fun _ => fun
  | [d1, d2, d3] => { results := [.lit (.bool false)], args := [d1, d2, d3] }
  | _ => none }
def HeirCountsWrongFalsely : Prop := heirCountsRow.holds Try.pinned (OpenSpec.ofChange heirCountsWrong)

/-- 'cosignerlaw03.HeirStands': WHATEVER THE INPUT: true; the input reads as it did. -/
def heirStandsSpec : ChangeSpec := { name := "heirStands", fn := fun _ => fun
  | [d1, d2, d3] => { results := [.lit (.bool true)], args := [d1, d2, d3] }
  | _ => none }
def heirStandsRow : OpenClaim := { program := "ytjgiaohieadeiaa", sum := "8dc9d369e67ff205a37d4ee535f13589bc1a8f78b5d1a6bfbf8df062d2748db0", func := "cosigner/cosignerlaw03.HeirStands", spec := "heirStands", unfollowed := true, recurses := true, loops := true, apart := false }
def HeirStandsSaid : Prop := heirStandsRow.holds Try.pinned (OpenSpec.ofChange heirStandsSpec)

/-- ITS FALSE NEIGHBOUR: 'it returns false'. Refute it at one input. -/
def heirStandsWrong : ChangeSpec := { name := "heirStands", fn := fun _ => fun
  | [d1, d2, d3] => { results := [.lit (.bool false)], args := [d1, d2, d3] }
  | _ => none }
def HeirStandsWrongFalsely : Prop := heirStandsRow.holds Try.pinned (OpenSpec.ofChange heirStandsWrong)

/-- 'cosignerlaw03.HeirMeets': WHATEVER THE INPUT: true; the input reads as it did. -/
def heirMeetsSpec : ChangeSpec := { name := "heirMeets", fn := fun _ => fun
  | [d1, d2, d3, d4] => { results := [.lit (.bool true)], args := [d1, d2, d3, d4] }
  | _ => none }
def heirMeetsRow : OpenClaim := { program := "ytjgiaohieadeiaa", sum := "8dc9d369e67ff205a37d4ee535f13589bc1a8f78b5d1a6bfbf8df062d2748db0", func := "cosigner/cosignerlaw03.HeirMeets", spec := "heirMeets", unfollowed := true, recurses := true, loops := true, apart := false }
def HeirMeetsSaid : Prop := heirMeetsRow.holds Try.pinned (OpenSpec.ofChange heirMeetsSpec)

/-- ITS FALSE NEIGHBOUR: 'it returns false'. Refute it at one input. -/
def heirMeetsWrong : ChangeSpec := { name := "heirMeets", fn := fun _ => fun
  | [d1, d2, d3, d4] => { results := [.lit (.bool false)], args := [d1, d2, d3, d4] }
  | _ => none }
def HeirMeetsWrongFalsely : Prop := heirMeetsRow.holds Try.pinned (OpenSpec.ofChange heirMeetsWrong)

/-- 'cosignerlaw03.HeirReduces': WHATEVER THE INPUT: true; the input reads as it did. -/
def heirReducesSpec : ChangeSpec := { name := "heirReduces", fn := fun _ => fun
  | [d1, d2, d3, d4] => { results := [.lit (.bool true)], args := [d1, d2, d3, d4] }
  | _ => none }
def heirReducesRow : OpenClaim := { program := "ytjgiaohieadeiaa", sum := "8dc9d369e67ff205a37d4ee535f13589bc1a8f78b5d1a6bfbf8df062d2748db0", func := "cosigner/cosignerlaw03.HeirReduces", spec := "heirReduces", unfollowed := true, recurses := true, loops := true, apart := false }
def HeirReducesSaid : Prop := heirReducesRow.holds Try.pinned (OpenSpec.ofChange heirReducesSpec)

/-- ITS FALSE NEIGHBOUR: 'it returns false'. Refute it at one input. -/
def heirReducesWrong : ChangeSpec := { name := "heirReduces", fn := fun _ => fun
  | [d1, d2, d3, d4] => { results := [.lit (.bool false)], args := [d1, d2, d3, d4] }
  | _ => none }
def HeirReducesWrongFalsely : Prop := heirReducesRow.holds Try.pinned (OpenSpec.ofChange heirReducesWrong)

/-- 'cosignerlaw03.HeirReaches': WHATEVER THE INPUT: true; the input reads as it did. -/
def heirReachesSpec : ChangeSpec := { name := "heirReaches", fn := fun _ => fun
  | [d1, d2, d3] => { results := [.lit (.bool true)], args := [d1, d2, d3] }
  | _ => none }
def heirReachesRow : OpenClaim := { program := "ytjgiaohieadeiaa", sum := "8dc9d369e67ff205a37d4ee535f13589bc1a8f78b5d1a6bfbf8df062d2748db0", func := "cosigner/cosignerlaw03.HeirReaches", spec := "heirReaches", unfollowed := true, recurses := true, loops := true, apart := false }
def HeirReachesSaid : Prop := heirReachesRow.holds Try.pinned (OpenSpec.ofChange heirReachesSpec)

/-- ITS FALSE NEIGHBOUR: 'it returns false'. Refute it at one input. -/
def heirReachesWrong : ChangeSpec := { name := "heirReaches", fn := fun _ => fun
  | [d1, d2, d3] => { results := [.lit (.bool false)], args := [d1, d2, d3] }
  | _ => none }
def HeirReachesWrongFalsely : Prop := heirReachesRow.holds Try.pinned (OpenSpec.ofChange heirReachesWrong)

/-- 'cosignerlaw03.HeirAncestors': WHATEVER THE INPUT: true; the input reads as it did. -/
def heirAncestorsSpec : ChangeSpec := { name := "heirAncestors", fn := fun _ => fun
  | [d1, d2, d3] => { results := [.lit (.bool true)], args := [d1, d2, d3] }
  | _ => none }
def heirAncestorsRow : OpenClaim := { program := "ytjgiaohieadeiaa", sum := "8dc9d369e67ff205a37d4ee535f13589bc1a8f78b5d1a6bfbf8df062d2748db0", func := "cosigner/cosignerlaw03.HeirAncestors", spec := "heirAncestors", unfollowed := true, recurses := true, loops := true, apart := false }
def HeirAncestorsSaid : Prop := heirAncestorsRow.holds Try.pinned (OpenSpec.ofChange heirAncestorsSpec)

/-- ITS FALSE NEIGHBOUR: 'it returns false'. Refute it at one input. -/
def heirAncestorsWrong : ChangeSpec := { name := "heirAncestors", fn := fun _ => fun
  | [d1, d2, d3] => { results := [.lit (.bool false)], args := [d1, d2, d3] }
  | _ => none }
def HeirAncestorsWrongFalsely : Prop := heirAncestorsRow.holds Try.pinned (OpenSpec.ofChange heirAncestorsWrong)

/-- 'cosignerlaw03.HeirIsOrder': WHATEVER THE INPUT: true; the input reads as it did. -/
def heirIsOrderSpec : ChangeSpec := { name := "heirIsOrder", fn := fun _ => fun
  | [d1, d2, d3, d4] => { results := [.lit (.bool true)], args := [d1, d2, d3, d4] }
  | _ => none }
def heirIsOrderRow : OpenClaim := { program := "ytjgiaohieadeiaa", sum := "8dc9d369e67ff205a37d4ee535f13589bc1a8f78b5d1a6bfbf8df062d2748db0", func := "cosigner/cosignerlaw03.HeirIsOrder", spec := "heirIsOrder", unfollowed := true, recurses := true, loops := true, apart := false }
def HeirIsOrderSaid : Prop := heirIsOrderRow.holds Try.pinned (OpenSpec.ofChange heirIsOrderSpec)

/-- ITS FALSE NEIGHBOUR: 'it returns false'. Refute it at one input. -/
def heirIsOrderWrong : ChangeSpec := { name := "heirIsOrder", fn := fun _ => fun
  | [d1, d2, d3, d4] => { results := [.lit (.bool false)], args := [d1, d2, d3, d4] }
  | _ => none }
def HeirIsOrderWrongFalsely : Prop := heirIsOrderRow.holds Try.pinned (OpenSpec.ofChange heirIsOrderWrong)

/-- 'cosignerlaw03.HeirWays': WHATEVER THE INPUT: true; the input reads as it did. -/
def heirWaysSpec : ChangeSpec := { name := "heirWays", fn := fun _ => fun
  | [d1, d2, d3, d4] => { results := [.lit (.bool true)], args := [d1, d2, d3, d4] }
  | _ => none }
def heirWaysRow : OpenClaim := { program := "ytjgiaohieadeiaa", sum := "8dc9d369e67ff205a37d4ee535f13589bc1a8f78b5d1a6bfbf8df062d2748db0", func := "cosigner/cosignerlaw03.HeirWays", spec := "heirWays", unfollowed := true, recurses := true, loops := true, apart := false }
def HeirWaysSaid : Prop := heirWaysRow.holds Try.pinned (OpenSpec.ofChange heirWaysSpec)

/-- ITS FALSE NEIGHBOUR: 'it returns false'. Refute it at one input. -/
def heirWaysWrong : ChangeSpec := { name := "heirWays", fn := fun _ => fun
  | [d1, d2, d3, d4] => { results := [.lit (.bool false)], args := [d1, d2, d3, d4] }
  | _ => none }
def HeirWaysWrongFalsely : Prop := heirWaysRow.holds Try.pinned (OpenSpec.ofChange heirWaysWrong)

/-- 'cosignerlaw03.HeirProofs': WHATEVER THE INPUT: true; the input reads as it did. -/
def heirProofsSpec : ChangeSpec := { name := "heirProofs", fn := fun _ => fun
  | [d1, d2, d3, d4] => { results := [.lit (.bool true)], args := [d1, d2, d3, d4] }
  | _ => none }
def heirProofsRow : OpenClaim := { program := "ytjgiaohieadeiaa", sum := "8dc9d369e67ff205a37d4ee535f13589bc1a8f78b5d1a6bfbf8df062d2748db0", func := "cosigner/cosignerlaw03.HeirProofs", spec := "heirProofs", unfollowed := true, recurses := true, loops := true, apart := false }
def HeirProofsSaid : Prop := heirProofsRow.holds Try.pinned (OpenSpec.ofChange heirProofsSpec)

/-- ITS FALSE NEIGHBOUR: 'it returns false'. Refute it at one input. -/
def heirProofsWrong : ChangeSpec := { name := "heirProofs", fn := fun _ => fun
  | [d1, d2, d3, d4] => { results := [.lit (.bool false)], args := [d1, d2, d3, d4] }
  | _ => none }
def HeirProofsWrongFalsely : Prop := heirProofsRow.holds Try.pinned (OpenSpec.ofChange heirProofsWrong)

/- THE SECOND FORM. 'bulk': how many values and letters a reading holds, each counted each time it is reached (what is shared counts as often as it is met; a slice's spare places count too). A statement '..UptoSaid' is the law's where the arguments, and the package variables that the reading takes, are together of bulk at most 1048576: NARROWER than '..Said'. Prove '..Said' where nothing that the law and all that it calls make is longer than what came in: it says more and counts as full. Else prove '..UptoSaid'. A law counts once. -/
mutual
def uptoBulk {H : Type} : DataW H → Nat
  | .lit (.string bytes) => bytes.length + 1
  | .lit _ => 1
  | .nil => 1
  | .ptr d => uptoBulk d + 1
  | .slice elems spare => uptoBulkAll elems + uptoBulkAll spare + 1
  | .agg parts => uptoBulkAll parts + 1
  | .iface _ d => uptoBulk d + 1
  | .map entries => uptoBulkEntries entries + 1
  | .held _ => 1
def uptoBulkAll {H : Type} : List (DataW H) → Nat
  | [] => 0
  | d :: r => uptoBulk d + uptoBulkAll r
def uptoBulkEntries {H : Type} : List (Lit × DataW H) → Nat
  | [] => 0
  | x :: r => uptoBulkEntry x + uptoBulkEntries r
def uptoBulkEntry {H : Type} : Lit × DataW H → Nat
  | (.string bytes, d) => bytes.length + uptoBulk d + 1
  | (_, d) => uptoBulk d + 1
 end
def uptoSmall : (H : Type) → List (DataW H) → Bool := fun _ ds => decide (uptoBulkAll ds ≤ 1048576)
def OpenSpec.upto (s : _root_.Go.ChangeSpec) : _root_.Go.OpenSpec := { _root_.Go.OpenSpec.ofChange s with cond := some uptoSmall }

/-- 'cosignerlaw03.HeirOrders', WHERE WHAT IT READS IS OF BULK AT MOST 1048576: true; the input reads as it did. -/
def heirOrdersUptoRow : OpenClaim := { program := "ytjgiaohieadeiaa", sum := "8dc9d369e67ff205a37d4ee535f13589bc1a8f78b5d1a6bfbf8df062d2748db0", func := "cosigner/cosignerlaw03.HeirOrders", spec := "heirOrders", unfollowed := true, recurses := true, loops := true, apart := false, narrowed := true }
def HeirOrdersUptoSaid : Prop := heirOrdersUptoRow.holds Try.pinned (OpenSpec.upto heirOrdersSpec)

/-- 'cosignerlaw03.HeirLinks', WHERE WHAT IT READS IS OF BULK AT MOST 1048576: true; the input reads as it did. -/
def heirLinksUptoRow : OpenClaim := { program := "ytjgiaohieadeiaa", sum := "8dc9d369e67ff205a37d4ee535f13589bc1a8f78b5d1a6bfbf8df062d2748db0", func := "cosigner/cosignerlaw03.HeirLinks", spec := "heirLinks", unfollowed := true, recurses := true, loops := true, apart := false, narrowed := true }
def HeirLinksUptoSaid : Prop := heirLinksUptoRow.holds Try.pinned (OpenSpec.upto heirLinksSpec)

/-- 'cosignerlaw03.HeirCounts', WHERE WHAT IT READS IS OF BULK AT MOST 1048576: true; the input reads as it did. -/
def heirCountsUptoRow : OpenClaim := { program := "ytjgiaohieadeiaa", sum := "8dc9d369e67ff205a37d4ee535f13589bc1a8f78b5d1a6bfbf8df062d2748db0", func := "cosigner/cosignerlaw03.HeirCounts", spec := "heirCounts", unfollowed := true, recurses := true, loops := true, apart := false, narrowed := true }
def HeirCountsUptoSaid : Prop := heirCountsUptoRow.holds Try.pinned (OpenSpec.upto heirCountsSpec)

/-- 'cosignerlaw03.HeirStands', WHERE WHAT IT READS IS OF BULK AT MOST 1048576: true; the input reads as it did. -/
def heirStandsUptoRow : OpenClaim := { program := "ytjgiaohieadeiaa", sum := "8dc9d369e67ff205a37d4ee535f13589bc1a8f78b5d1a6bfbf8df062d2748db0", func := "cosigner/cosignerlaw03.HeirStands", spec := "heirStands", unfollowed := true, recurses := true, loops := true, apart := false, narrowed := true }
def HeirStandsUptoSaid : Prop := heirStandsUptoRow.holds Try.pinned (OpenSpec.upto heirStandsSpec)

/-- 'cosignerlaw03.HeirMeets', WHERE WHAT IT READS IS OF BULK AT MOST 1048576: true; the input reads as it did. -/
def heirMeetsUptoRow : OpenClaim := { program := "ytjgiaohieadeiaa", sum := "8dc9d369e67ff205a37d4ee535f13589bc1a8f78b5d1a6bfbf8df062d2748db0", func := "cosigner/cosignerlaw03.HeirMeets", spec := "heirMeets", unfollowed := true, recurses := true, loops := true, apart := false, narrowed := true }
def HeirMeetsUptoSaid : Prop := heirMeetsUptoRow.holds Try.pinned (OpenSpec.upto heirMeetsSpec)

/-- 'cosignerlaw03.HeirReduces', WHERE WHAT IT READS IS OF BULK AT MOST 1048576: true; the input reads as it did. -/
def heirReducesUptoRow : OpenClaim := { program := "ytjgiaohieadeiaa", sum := "8dc9d369e67ff205a37d4ee535f13589bc1a8f78b5d1a6bfbf8df062d2748db0", func := "cosigner/cosignerlaw03.HeirReduces", spec := "heirReduces", unfollowed := true, recurses := true, loops := true, apart := false, narrowed := true }
def HeirReducesUptoSaid : Prop := heirReducesUptoRow.holds Try.pinned (OpenSpec.upto heirReducesSpec)

/-- 'cosignerlaw03.HeirReaches', WHERE WHAT IT READS IS OF BULK AT MOST 1048576: true; the input reads as it did. -/
def heirReachesUptoRow : OpenClaim := { program := "ytjgiaohieadeiaa", sum := "8dc9d369e67ff205a37d4ee535f13589bc1a8f78b5d1a6bfbf8df062d2748db0", func := "cosigner/cosignerlaw03.HeirReaches", spec := "heirReaches", unfollowed := true, recurses := true, loops := true, apart := false, narrowed := true }
def HeirReachesUptoSaid : Prop := heirReachesUptoRow.holds Try.pinned (OpenSpec.upto heirReachesSpec)

/-- 'cosignerlaw03.HeirAncestors', WHERE WHAT IT READS IS OF BULK AT MOST 1048576: true; the input reads as it did. -/
def heirAncestorsUptoRow : OpenClaim := { program := "ytjgiaohieadeiaa", sum := "8dc9d369e67ff205a37d4ee535f13589bc1a8f78b5d1a6bfbf8df062d2748db0", func := "cosigner/cosignerlaw03.HeirAncestors", spec := "heirAncestors", unfollowed := true, recurses := true, loops := true, apart := false, narrowed := true }
def HeirAncestorsUptoSaid : Prop := heirAncestorsUptoRow.holds Try.pinned (OpenSpec.upto heirAncestorsSpec)

/-- 'cosignerlaw03.HeirIsOrder', WHERE WHAT IT READS IS OF BULK AT MOST 1048576: true; the input reads as it did. -/
def heirIsOrderUptoRow : OpenClaim := { program := "ytjgiaohieadeiaa", sum := "8dc9d369e67ff205a37d4ee535f13589bc1a8f78b5d1a6bfbf8df062d2748db0", func := "cosigner/cosignerlaw03.HeirIsOrder", spec := "heirIsOrder", unfollowed := true, recurses := true, loops := true, apart := false, narrowed := true }
def HeirIsOrderUptoSaid : Prop := heirIsOrderUptoRow.holds Try.pinned (OpenSpec.upto heirIsOrderSpec)

/-- 'cosignerlaw03.HeirWays', WHERE WHAT IT READS IS OF BULK AT MOST 1048576: true; the input reads as it did. -/
def heirWaysUptoRow : OpenClaim := { program := "ytjgiaohieadeiaa", sum := "8dc9d369e67ff205a37d4ee535f13589bc1a8f78b5d1a6bfbf8df062d2748db0", func := "cosigner/cosignerlaw03.HeirWays", spec := "heirWays", unfollowed := true, recurses := true, loops := true, apart := false, narrowed := true }
def HeirWaysUptoSaid : Prop := heirWaysUptoRow.holds Try.pinned (OpenSpec.upto heirWaysSpec)

/-- 'cosignerlaw03.HeirProofs', WHERE WHAT IT READS IS OF BULK AT MOST 1048576: true; the input reads as it did. -/
def heirProofsUptoRow : OpenClaim := { program := "ytjgiaohieadeiaa", sum := "8dc9d369e67ff205a37d4ee535f13589bc1a8f78b5d1a6bfbf8df062d2748db0", func := "cosigner/cosignerlaw03.HeirProofs", spec := "heirProofs", unfollowed := true, recurses := true, loops := true, apart := false, narrowed := true }
def HeirProofsUptoSaid : Prop := heirProofsUptoRow.holds Try.pinned (OpenSpec.upto heirProofsSpec)

end Rows
end Go.Proofs.Ytjgiaohieadeiaa
